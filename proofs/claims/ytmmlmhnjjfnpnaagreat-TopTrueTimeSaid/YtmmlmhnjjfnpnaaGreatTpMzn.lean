/- Texts that belong together. -/
import Derived.Test.YtmmlmhnjjfnpnaaGreatTpMzm
set_option linter.all false
namespace Go.Proofs.YtmmlmhnjjfnpnaaGreat
open Go.RowKit
set_option maxRecDepth 200000 in
set_option maxHeartbeats 64000000 in
theorem topTrueTime_calls (w:World) (x:Since w) (f:Flt) (da ta:Option Addr) (dc tc:Nat) (hf:FltAt w f da ta) (a:Option Addr) (l:List Ev) (c:Nat) (h:Els Ev.cs 9 w a l) (hl:l.length≤9223372036854775807) (hI:∀e∈l,I64 e.p) (t:Tar) (wh:Int) (hwh:0≤wh∧wh≤255) (o0 o1 o2 o3 o4 o5 o6 o7:Int) (ho:∀o∈[o0,o1,o2,o3,o4,o5,o6,o7],0≤o∧o≤255):
 Calls Tryz.prog 3 #[.agg #[.int .i64 f.bk,.int .i64 f.rd,.int .i64 f.dv,.slice da f.dk.length dc,.slice ta f.tk.length tc],.slice a l.length c,.agg #[.int .i64 t.fr,.int .i64 t.un,.int .i64 t.st,.int .i64 t.fe,.int .i64 t.pr,.int .i64 t.pa],.int .u8 wh,.agg #[.int .u8 o0,.int .u8 o1,.int .u8 o2,.int .u8 o3,.int .u8 o4,.int .u8 o5,.int .u8 o6,.int .u8 o7]] x.w fun o w'=>o= .returned (.bool true)∧∃y:Since w,w'=y.w:=by
 have HP:=Lib.hid (fun(w':World) (h:IsSince w w')=>show(fun(o:Ending) (w':World)=>o= .returned (.bool true)∧∃y:Since w,w'=y.w) (.returned (.bool true)) w' from⟨rfl,h⟩);generalize(fun(o:Ending) (w':World)=>o= .returned (.bool true)∧∃y:Since w,w'=y.w)=PO at *;have HA:=Lib.hid (fun(W:World)=>show Calls Tryz.prog 7 #[] W (fun o w'=>o= .returned (.bool true)∧∃y:Since W,w'=y.w)from fareAwake_calls W (Since.self W));have HF:=Lib.hid hf;have HL:=Lib.hid h;have HI:=Lib.hid hI;have Hwh:=Lib.hid hwh;have Ho:=Lib.hid ho;clear hf h hI hwh ho;go_enter Tryz.func3,Tryz.ntmps3;go_upto_region 1 with fail;obtain⟨W,bx,y0,hW,hbx,-,hWup,Hup,Hbx,HB0,HB1,HB2⟩:=heads3 x (([.int .i64 f.bk,.int .i64 f.rd,.int .i64 f.dv,.slice da f.dk.length dc,.slice ta f.tk.length tc]:List Value)) 24 (([.int .i64 t.fr,.int .i64 t.un,.int .i64 t.st,.int .i64 t.fe,.int .i64 t.pr,.int .i64 t.pa]:List Value)) 27 (([.int .u8 o0,.int .u8 o1,.int .u8 o2,.int .u8 o3,.int .u8 o4,.int .u8 o5,.int .u8 o6,.int .u8 o7]:List Value)) 28;rw[hW,hbx];clear hW hbx;have hB0:=fun y:Since W=>HB0.since y;have hB1:=fun y:Since W=>HB1.since y;have hB2:=fun y:Since W=>HB2.since y;clear HB0 HB1 HB2;have HBf:=Lib.hid (hB0 y0);have HBt:=Lib.hid (hB1 y0);have HBo:=Lib.hid (hB2 y0);have HWa:=Lib.hid (show IsSince w y0.w from Hup.out y0);have Hlt:=Lib.hid (show w.heap.size≤bx from by have:=Hbx.out;omega);clear hB0 hB1 hB2 hWup;generalize y0.w=wa at *;have c0:wa.cell? ⟨bx,0,none⟩=some (.int .i64 f.bk):=HBf.out.c 0 _ rfl;have c1:wa.cell? ⟨bx,1,none⟩=some (.int .i64 f.rd):=HBf.out.c 1 _ rfl;have c2:wa.cell? ⟨bx,2,none⟩=some (.int .i64 f.dv):=HBf.out.c 2 _ rfl;have c3:wa.cell? ⟨bx,3,none⟩=some (.slice da f.dk.length dc):=HBf.out.c 3 _ rfl;have c4:wa.cell? ⟨bx,4,none⟩=some (.slice ta f.tk.length tc):=HBf.out.c 4 _ rfl;obtain⟨v,hv⟩:∃v,decide (l.length≤40∧f.dk.length≤40∧f.tk.length≤20)=v:=⟨_,rfl⟩
 have hcall:=tfew_calls wa (Since.self wa) f da ta dc tc (HF.out.to HWa.out) a l.length c hl v hv;rw[show(Since.self wa).w=wa from rfl]at hcall;by_cases h0:v=false
 ·subst h0
  go_wp2_with(first|(go_at_call 7;(with_reducible refine(HA.out _).mono ?_);rintro _ _ ⟨rfl,y2,rfl⟩)|(go_at_call 6;(with_reducible refine hcall.mono ?_);clear hcall;rintro _ _ ⟨rfl,y1,rfl⟩));first
   |exact HP.out _ (IsSince.trans HWa.out (IsSince.trans ⟨y1,rfl⟩ ⟨y2,rfl⟩))
   |(go_ret;exact HP.out _ (IsSince.trans HWa.out (IsSince.trans ⟨y1,rfl⟩ ⟨y2,rfl⟩)))
 obtain rfl:v=true:=by simpa using h0
 have Hn:=Lib.hid (of_decide_eq_true hv);clear h0 hv;go_upto_region 3 with(go_at_call 6;(with_reducible refine hcall.mono ?_);clear hcall;rintro _ _ ⟨rfl,y1,rfl⟩)
 clear c0 c1 c2 c3 c4;replace HBf:=Lib.hid (HBf.out.since y1);replace HBt:=Lib.hid (HBt.out.since y1);replace HBo:=Lib.hid (HBo.out.since y1);have HWb:=Lib.hid (IsSince.trans HWa.out ⟨y1,rfl⟩);clear HWa;generalize y1.w=wb at *;have c0:wb.cell? ⟨bx,0,none⟩=some (.int .i64 f.bk):=HBf.out.c 0 _ rfl;have c1:wb.cell? ⟨bx,1,none⟩=some (.int .i64 f.rd):=HBf.out.c 1 _ rfl;have c2:wb.cell? ⟨bx,2,none⟩=some (.int .i64 f.dv):=HBf.out.c 2 _ rfl;have c3:wb.cell? ⟨bx,3,none⟩=some (.slice da f.dk.length dc):=HBf.out.c 3 _ rfl;have c4:wb.cell? ⟨bx,4,none⟩=some (.slice ta f.tk.length tc):=HBf.out.c 4 _ rfl;have hcall:=(all_r_calls wb (Since.self wb) f da ta dc tc (HF.out.to HWb.out) a l c (HL.out.to HWb.out) Hn.out.1 HI.out).mono (fun o w' h=>all2_of h);rw[show(Since.self wb).w=wb from rfl]at hcall;unfold All2 at hcall;obtain⟨fe,hfe⟩:∃e,fltE f=e:=⟨_,rfl⟩
 rw[hfe]at hcall;have Hfe:=Lib.hid hfe;clear hfe;go_upto_region 4 with(go_at_call 8;(with_reducible refine hcall.mono ?_);clear hcall;rintro _ _ ⟨ra,rc,R,y1,rfl,rfl,hR0,hRr,hRn,hRe⟩;(have HR0:=Lib.hid hR0);(have HRr:=Lib.hid hRr);(have HRe:=Lib.hid hRe);clear hR0 hRr hRe)
 clear c0 c1 c2 c3 c4;replace HBt:=Lib.hid (HBt.out.since y1);replace HBo:=Lib.hid (HBo.out.since y1);have HWc:=Lib.hid (IsSince.trans HWb.out ⟨y1,rfl⟩);clear HWb HBf;generalize y1.w=wc at *;by_cases hn0:R=[]
 ·subst hn0
  have hc0:((([]:List Ride).length:Nat):Int)=0:=rfl;by_cases h0:fe=0
  ·subst h0
   go_wp2_with(go_at_call 7;(with_reducible refine(HA.out _).mono ?_);rintro _ _ ⟨rfl,y2,rfl⟩);first
    |exact HP.out _ (IsSince.trans HWc.out ⟨y2,rfl⟩)
    |(go_ret;exact HP.out _ (IsSince.trans HWc.out ⟨y2,rfl⟩))
  ·go_wp2_with(go_at_call 7;(with_reducible refine(HA.out _).mono ?_);rintro _ _ ⟨rfl,y2,rfl⟩)
   first
    |exact HP.out _ (IsSince.trans HWc.out ⟨y2,rfl⟩)
    |(go_ret;exact HP.out _ (IsSince.trans HWc.out ⟨y2,rfl⟩))
 obtain rfl:fe=0:=by by_cases h:fe=0;exact h;exact absurd (HR0.out h) hn0
 have hRp:0<R.length:=List.length_pos_iff.2 hn0;clear HR0 hn0;obtain⟨j,hq,hj⟩:=mod_at (a:=wh) (n:=(R.length:Int)) (m:=R.length) Hwh.out.1 rfl hRp;have hwh:=Hwh.out;have hq2:IntKind.i64.wrap wh=wh:=IntWalk.i64_in _ ⟨by omega,by omega⟩;have hq3:IntKind.i64.wrap (j:Int)=(j:Int):=IntWalk.i64_in _ ⟨by omega,by omega⟩;have hjl:(j:Int)<(R.length:Int):=by omega
 have hj0:(0:Int)≤(j:Int):=by omega
 have hne:((R.length:Nat):Int)≠0:=by omega
 obtain⟨r,hr⟩:∃r,R[j]? =some r:=⟨_,List.getElem?_eq_getElem hj⟩
 obtain⟨b1,off1,rfl,h1'⟩:=Els.ride HRr.out.c hr;have ra0:=h1'.c0;have ra1:=h1'.c1;have ra2:=h1'.c2;have ra3:=h1'.c3;have ra4:=h1'.c4;have ra5:=h1'.c5;have ra6:=h1'.c6;have ra7:=h1'.c7;have ra8:=h1'.c8;have ra9:=h1'.c9;have ra10:=h1'.c10;have ra11:=h1'.c11;have ra12:=h1'.c12;have hrm:=List.mem_of_getElem? hr;have HrAt:=Lib.hid (HRr.out.r r hrm);have HRk:=Lib.hid (fun h:r.op=false=>br_ok (HRe.out rfl) Hn.out.1 hrm h);clear hrm h1' HRe hr HRr;obtain⟨op,hop⟩:∃op,r.op=op:=⟨_,rfl⟩
 rw[hop]at ra6;have Hop:=Lib.hid hop;clear hop;obtain⟨ys,hys⟩:∃ys:Since wc,ys=Since.self wc:=⟨_,rfl⟩
 have hyw:wc=ys.w:=by rw[hys];rfl
 have Hjj:=Lib.hid True.intro
 cases op with
 |true=>
  clear hys
  rw[hyw]
  clear hyw
  go_upto_region 7 with fail
  obtain⟨y2,e2,hst0,hsz0,hlt0,HX0⟩:=grow1 ys [.int .i64 r.id,.int .i64 r.rd,.int .i64 r.s0,.int .i64 r.s1,.int .i64 r.e0,.int .i64 r.e1,.bool true,.slice r.la r.legs.length r.lc,.slice r.pa r.pauses.length r.pc,.int .i64 r.fw,.int .i64 r.fp,.int .i64 r.wh,.int .i64 r.pl] 40
  rw[e2]
  obtain⟨hx0,hx1,hx2,hx3,hx4,hx5,hx6,hx7,hx8,hx9,hx10,hx11,hx12,hxf⟩:=cx13 HX0
  skip
  clear e2 hst0
  generalize ys.w.heap.size=g at *
  obtain⟨Hhx0,Hhx1,Hhx2,Hhx3,Hhx4,Hhx5,Hhx6,Hhx7,Hhx8,Hhx9,Hhx10,Hhx11,Hhx12,Hhxf⟩:=bx13 HX0
  have Hhxg:=Lib.hid (And.intro hsz0 hlt0)
  clear hlt0 hsz0 HX0
  go_wp2_with(go_at_call 7;(with_reducible refine(HA.out _).mono ?_);rintro _ _ ⟨rfl,y3,rfl⟩)
  first
   |exact HP.out _ (IsSince.trans HWc.out (IsSince.trans (⟨y2,rfl⟩:IsSince wc y2.w) (⟨y3,rfl⟩:IsSince y2.w y3.w)))
   |(go_ret;exact HP.out _ (IsSince.trans HWc.out (IsSince.trans (⟨y2,rfl⟩:IsSince wc y2.w) (⟨y3,rfl⟩:IsSince y2.w y3.w))))
 |false=>
  clear hys
  rw[hyw]
  clear hyw
  have Hk:=Lib.hid (HRk.out Hop.out)
  have Hiv:=Lib.hid ((ivE_zero r).2 ⟨Hk.out,Hop.out⟩)
  have Hrg:=Lib.hid (rangedB_head (rideE_rng Hk.out))
  clear HRk
  go_upto_region 7 with fail
  obtain⟨y2,e2,hst0,hsz0,hlt0,HX0⟩:=grow1 ys [.int .i64 r.id,.int .i64 r.rd,.int .i64 r.s0,.int .i64 r.s1,.int .i64 r.e0,.int .i64 r.e1,.bool false,.slice r.la r.legs.length r.lc,.slice r.pa r.pauses.length r.pc,.int .i64 r.fw,.int .i64 r.fp,.int .i64 r.wh,.int .i64 r.pl] 40
  rw[e2]
  obtain⟨hx0,hx1,hx2,hx3,hx4,hx5,hx6,hx7,hx8,hx9,hx10,hx11,hx12,hxf⟩:=cx13 HX0
  skip
  clear e2 hst0
  generalize ys.w.heap.size=g at *
  obtain⟨Hhx0,Hhx1,Hhx2,Hhx3,Hhx4,Hhx5,Hhx6,Hhx7,Hhx8,Hhx9,Hhx10,Hhx11,Hhx12,Hhxf⟩:=bx13 HX0
  have Hhxg:=Lib.hid (And.intro hsz0 hlt0)
  clear hlt0 hsz0 HX0
  have Hcs:=Lib.hid (show([.int .i64 r.id,.int .i64 r.rd,.int .i64 r.s0,.int .i64 r.s1,.int .i64 r.e0,.int .i64 r.e1,.bool false,.slice r.la r.legs.length r.lc,.slice r.pa r.pauses.length r.pc,.int .i64 r.fw,.int .i64 r.fp,.int .i64 r.wh,.int .i64 r.pl]:List Value)=r.cs from by unfold Ride.cs;rw[Hop.out])
  have HBr:=Lib.hid (show BoxIs y2.w g ([.int .i64 r.id,.int .i64 r.rd,.int .i64 r.s0,.int .i64 r.s1,.int .i64 r.e0,.int .i64 r.e1,.bool false,.slice r.la r.legs.length r.lc,.slice r.pa r.pauses.length r.pc,.int .i64 r.fw,.int .i64 r.fp,.int .i64 r.wh,.int .i64 r.pl]:List Value)from⟨Hhxg.out.2,fun j v hv=>by
   match j,hv with
   |0,hv=>rw[←Option.some.inj hv];exact Hhx0 (Since.self y2.w)
   |1,hv=>rw[←Option.some.inj hv];exact Hhx1 (Since.self y2.w)
   |2,hv=>rw[←Option.some.inj hv];exact Hhx2 (Since.self y2.w)
   |3,hv=>rw[←Option.some.inj hv];exact Hhx3 (Since.self y2.w)
   |4,hv=>rw[←Option.some.inj hv];exact Hhx4 (Since.self y2.w)
   |5,hv=>rw[←Option.some.inj hv];exact Hhx5 (Since.self y2.w)
   |6,hv=>rw[←Option.some.inj hv];exact Hhx6 (Since.self y2.w)
   |7,hv=>rw[←Option.some.inj hv];exact Hhx7 (Since.self y2.w)
   |8,hv=>rw[←Option.some.inj hv];exact Hhx8 (Since.self y2.w)
   |9,hv=>rw[←Option.some.inj hv];exact Hhx9 (Since.self y2.w)
   |10,hv=>rw[←Option.some.inj hv];exact Hhx10 (Since.self y2.w)
   |11,hv=>rw[←Option.some.inj hv];exact Hhx11 (Since.self y2.w)
   |12,hv=>rw[←Option.some.inj hv];exact Hhx12 (Since.self y2.w)
   |j+13,hv=>simp at hv,
   fun o=>Hhxf (Since.self y2.w) o⟩)
  have Hst:=Lib.hid (show IsSince wc y2.w from⟨y2,rfl⟩)
  replace HWc:=Lib.hid (IsSince.trans HWc.out Hst.out)
  replace HrAt:=Lib.hid (HrAt.out.to Hst.out)
  replace HBt:=Lib.hid (HBt.out.to Hst.out)
  replace HBo:=Lib.hid (HBo.out.to Hst.out)
  clear Hst Hhxg Hhxf hxf hx0 Hhx0 ra0 hx1 Hhx1 ra1 hx2 Hhx2 ra2 hx3 Hhx3 ra3 hx4 Hhx4 ra4 hx5 Hhx5 ra5 hx6 Hhx6 ra6 hx7 Hhx7 ra7 hx8 Hhx8 ra8 hx9 Hhx9 ra9 hx10 Hhx10 ra10 hx11 Hhx11 ra11 hx12 Hhx12 ra12
  generalize y2.w=wd at *
  clear hq hq2 hq3 hjl hj0 hne hwh hRp hRn hj
  have c0:wd.cell? ⟨g,0,none⟩=some (.int .i64 r.id):=HBr.out.c 0 _ rfl
  have c1:wd.cell? ⟨g,1,none⟩=some (.int .i64 r.rd):=HBr.out.c 1 _ rfl
  have c2:wd.cell? ⟨g,2,none⟩=some (.int .i64 r.s0):=HBr.out.c 2 _ rfl
  have c3:wd.cell? ⟨g,3,none⟩=some (.int .i64 r.s1):=HBr.out.c 3 _ rfl
  have c4:wd.cell? ⟨g,4,none⟩=some (.int .i64 r.e0):=HBr.out.c 4 _ rfl
  have c5:wd.cell? ⟨g,5,none⟩=some (.int .i64 r.e1):=HBr.out.c 5 _ rfl
  have c6:wd.cell? ⟨g,6,none⟩=some (.bool false):=HBr.out.c 6 _ rfl
  have c7:wd.cell? ⟨g,7,none⟩=some (.slice r.la r.legs.length r.lc):=HBr.out.c 7 _ rfl
  have c8:wd.cell? ⟨g,8,none⟩=some (.slice r.pa r.pauses.length r.pc):=HBr.out.c 8 _ rfl
  have c9:wd.cell? ⟨g,9,none⟩=some (.int .i64 r.fw):=HBr.out.c 9 _ rfl
  have c10:wd.cell? ⟨g,10,none⟩=some (.int .i64 r.fp):=HBr.out.c 10 _ rfl
  have c11:wd.cell? ⟨g,11,none⟩=some (.int .i64 r.wh):=HBr.out.c 11 _ rfl
  have c12:wd.cell? ⟨g,12,none⟩=some (.int .i64 r.pl):=HBr.out.c 12 _ rfl
  have d2:∀y:Since wd,y.w.cell? ⟨g,2,none⟩=some (.int .i64 r.s0):=fun y=>(HBr.out.since y).c 2 _ rfl
  have d3:∀y:Since wd,y.w.cell? ⟨g,3,none⟩=some (.int .i64 r.s1):=fun y=>(HBr.out.since y).c 3 _ rfl
  have d4:∀y:Since wd,y.w.cell? ⟨g,4,none⟩=some (.int .i64 r.e0):=fun y=>(HBr.out.since y).c 4 _ rfl
  have d5:∀y:Since wd,y.w.cell? ⟨g,5,none⟩=some (.int .i64 r.e1):=fun y=>(HBr.out.since y).c 5 _ rfl
  have d6:∀y:Since wd,y.w.cell? ⟨g,6,none⟩=some (.bool false):=fun y=>(HBr.out.since y).c 6 _ rfl
  have hcall:=check_calls wd (Since.self wd) r HrAt.out
  rw[show(Since.self wd).w=wd from rfl,Hk.out,Hop.out]at hcall
  have hg1:¬r.e1<r.e0:=by have:=Hrg.out;omega
  have hg2:¬r.s1<r.s0:=by have:=Hrg.out;omega
  have hopl:(([.int .i64 r.id,.int .i64 r.rd,.int .i64 r.s0,.int .i64 r.s1,.int .i64 r.e0,.int .i64 r.e1,.bool false,.slice r.la r.legs.length r.lc,.slice r.pa r.pauses.length r.pc,.int .i64 r.fw,.int .i64 r.fp,.int .i64 r.wh,.int .i64 r.pl]:List Value))[6]? =some (.bool false):=rfl
  clear hopl
  go_upto_region 9 with(go_at_call 9;(with_reducible refine hcall.mono ?_);clear hcall;rintro _ _ ⟨rfl,y3,rfl⟩)
  replace HBr:=Lib.hid (HBr.out.since y3);replace HBt:=Lib.hid (HBt.out.since y3);replace HBo:=Lib.hid (HBo.out.since y3);replace HWc:=Lib.hid (IsSince.trans HWc.out ⟨y3,rfl⟩);replace HrAt:=Lib.hid (HrAt.out.to ⟨y3,rfl⟩)
  clear d2 d3 d4 d5 d6 hg1 hg2 c0 c1 c2 c3 c4 c5 c6 c7 c8 c9 c10 c11 c12
  generalize y3.w=we at *
  obtain⟨st,hst⟩:∃m,mom r.s0 r.s1 o0=m:=⟨_,rfl⟩
  obtain⟨en,hen⟩:∃m,mom r.e0 r.e1 o1=m:=⟨_,rfl⟩
  have hst2:=mom_in (lo:=r.s0) (hi:=r.s1) (off:=o0) (by have:=Hrg.out;omega) (Ho.out o0 (by simp)).1
  have hen2:=mom_in (lo:=r.e0) (hi:=r.e1) (off:=o1) (by have:=Hrg.out;omega) (Ho.out o1 (by simp)).1
  have HM1:=Lib.hid (fun W:World=>show Calls Tryz.prog 10 #[.agg #[.int .i64 r.s0,.int .i64 r.s1],.int .u8 o0] W (fun o w'=>o= .returned (.int .i64 (mom r.s0 r.s1 o0))∧∃y:Since W,w'=y.w)from mom_calls W (Since.self W) r.s0 r.s1 o0 (by have:=Hrg.out;omega) (by have:=Hrg.out;omega) (by have:=Hrg.out;omega) (Ho.out o0 (by simp)).1 (Ho.out o0 (by simp)).2)
  have HM2:=Lib.hid (fun W:World=>show Calls Tryz.prog 10 #[.agg #[.int .i64 r.e0,.int .i64 r.e1],.int .u8 o1] W (fun o w'=>o= .returned (.int .i64 (mom r.e0 r.e1 o1))∧∃y:Since W,w'=y.w)from mom_calls W (Since.self W) r.e0 r.e1 o1 (by have:=Hrg.out;omega) (by have:=Hrg.out;omega) (by have:=Hrg.out;omega) (Ho.out o1 (by simp)).1 (Ho.out o1 (by simp)).2)
  rw[hst]at HM1 hst2;rw[hen]at HM2 hen2
  have Hst:=Lib.hid hst2;have Hen:=Lib.hid hen2
  clear hst hen hst2 hen2
  have HS9:=Lib.hid (fun(w':World) (hw:IsSince we w')=>show w'.cell? ⟨g,2,none⟩=some (.int .i64 r.s0)∧w'.cell? ⟨g,3,none⟩=some (.int .i64 r.s1)∧w'.cell? ⟨g,4,none⟩=some (.int .i64 r.e0)∧w'.cell? ⟨g,5,none⟩=some (.int .i64 r.e1)∧w'.cell? ⟨bx+2,0,none⟩=some (.int .u8 o0)∧w'.cell? ⟨bx+2,1,none⟩=some (.int .u8 o1)from⟨(HBr.out.to hw).c 2 _ rfl,(HBr.out.to hw).c 3 _ rfl,(HBr.out.to hw).c 4 _ rfl,(HBr.out.to hw).c 5 _ rfl,(HBo.out.to hw).c 0 _ rfl,(HBo.out.to hw).c 1 _ rfl⟩)
  refine wp_region_M (fun w'=>w'.cell? ⟨g,2,none⟩=some (.int .i64 r.s0)∧w'.cell? ⟨g,3,none⟩=some (.int .i64 r.s1)∧w'.cell? ⟨g,4,none⟩=some (.int .i64 r.e0)∧w'.cell? ⟨g,5,none⟩=some (.int .i64 r.e1)∧w'.cell? ⟨bx+2,0,none⟩=some (.int .u8 o0)∧w'.cell? ⟨bx+2,1,none⟩=some (.int .u8 o1)) 11 (by kernel_rfl) (HS9.out _ (IsSince.drew' (IsSince.self _))) (fun hS=>?_)
  refine tk 0 ?_ rfl (by kernel_rfl) hS (fun _ _ _ h=>h) ?_ ?_
  rotate_left
  ·(intro w h;(try dsimp only at h);go_split_ands;go_simp;try with_reducible rfl)
  (try simp only[Act.put,actS])
  refine tk 1 ?_ rfl (by kernel_rfl) hS (fun _ _ _ h=>h) ?_ ?_
  rotate_left
  ·(intro w h;(try dsimp only at h);go_split_ands;go_simp;try with_reducible rfl)
  (try simp only[Act.put,actS])
  refine tk 2 ?_ rfl (by kernel_rfl) hS (fun _ _ _ h=>h) ?_ ?_
  rotate_left
  ·(intro w h;(try dsimp only at h);go_split_ands;go_simp;try with_reducible rfl)
  (try simp only[Act.put,actS])
  refine tk 3 ?_ rfl (by kernel_rfl) hS (fun _ _ _ h=>h) ?_ ?_
  rotate_left
  ·(intro w h;(try dsimp only at h);go_split_ands;go_simp;try with_reducible rfl)
  (try simp only[Act.put,actS])
  refine tk 5 ?_ rfl (by kernel_rfl) hS (fun _ _ _ h=>h) ?_ ?_
  rotate_left
  ·(intro w h;(try dsimp only at h);go_split_ands;go_simp;try with_reducible rfl)
  (try simp only[Act.put,actS])
  refine tk 6 ?_ rfl (by kernel_rfl) hS (fun _ _ _ h=>h) ?_ ?_
  rotate_left
  ·(intro w h;(try dsimp only at h);go_split_ands;go_simp;try with_reducible rfl)
  (try simp only[Act.put,actS])
  refine tk 7 ?_ rfl (by kernel_rfl) hS (fun _ _ _ h=>h) ?_ ?_
  rotate_left
  ·(intro w h;(try dsimp only at h);go_split_ands;go_simp;try with_reducible rfl)
  (try simp only[Act.put,actS])
  refine tk 8 ?_ rfl (by kernel_rfl) hS (fun _ _ _ h=>h) ?_ ?_
  rotate_left
  ·(intro w h;(try dsimp only at h);go_split_ands;go_simp;try with_reducible rfl)
  (try simp only[Act.put,actS])
  refine tk1 4 (by kernel_rfl) rfl fun K hK=>?_
  (go_simp;(with_reducible refine(HM1.out _).mono ?_);rintro _ _ ⟨rfl,y4,rfl⟩)
  refine tkK hK (HS9.out _ (IsSince.trans (IsSince.drew' (IsSince.self _)) ⟨y4,rfl⟩)) ?_
  clear hK K hS
  intro hS
  (try simp only[Act.put,actS])
  refine tk1 9 (by kernel_rfl) rfl fun K hK=>?_
  (go_simp;(with_reducible refine(HM2.out _).mono ?_);rintro _ _ ⟨rfl,y5,rfl⟩)
  refine tkK hK (HS9.out _ (IsSince.trans (IsSince.drew' (IsSince.self _)) (IsSince.trans ⟨y4,rfl⟩ ⟨y5,rfl⟩))) ?_
  clear hK K hS
  intro hS
  (try simp only[Act.put,actS])
  refine tk 10 ?_ rfl (by kernel_rfl) hS (fun _ _ _ h=>h) ?_ ?_
  rotate_left
  ·(intro w h;(try dsimp only at h);go_split_ands;go_simp;try with_reducible rfl)
  (try simp only[Act.put,actS])
  refine tk1 11 (by kernel_rfl) rfl fun K hK=>?_
  go_simp
  refine tkL hK (by kernel_rfl) ?_
  clear hK K hS
  (try simp only[Act.put,actS])
  have Hy5:=Lib.hid (show IsSince we y5.w from IsSince.trans (IsSince.drew' (IsSince.self _)) (IsSince.trans ⟨y4,rfl⟩ ⟨y5,rfl⟩))
  replace HBr:=Lib.hid (HBr.out.to Hy5.out);replace HBt:=Lib.hid (HBt.out.to Hy5.out);replace HBo:=Lib.hid (HBo.out.to Hy5.out);replace HrAt:=Lib.hid (HrAt.out.to Hy5.out);replace HWc:=Lib.hid (IsSince.trans HWc.out Hy5.out)
  clear Hy5 HS9 HM1 HM2
  generalize y5.w=wf at *
  have HT0:=Lib.hid (show TruS st [] [] st 0 from truS_start (by have:=Hrg.out;have:=Hst.out;omega) (by have:=Hrg.out;have:=Hst.out;omega))
  have c8:∀y:Since wf,y.w.cell? ⟨g,8,none⟩=some (.slice r.pa r.pauses.length r.pc):=fun y=>(HBr.out.since y).c 8 _ rfl
  have hpl:r.pauses.length≤9223372036854775807:=HrAt.out.pm
  go_wp2_with fail
  go_loopw [16,17,18] (fun lv pv iv wr=>∃(k:Nat) (y:Since wf) (T:List Win) (last paused:Int),k≤r.pauses.length∧iv= .int .i64 k∧lv= .int .i64 last∧pv= .int .i64 paused∧wr=y.w∧TruS st (r.pauses.take k) T last paused) (fun _ _ iv _ =>r.pauses.length-(intOf iv).toNat)
  case atStart=>exact⟨0,Since.self wf,[],st,0,by omega,rfl,rfl,rfl,rfl,HT0.out⟩
  case round=>
   obtain⟨k,y6,T,last,paused,hk,rfl,rfl,rfl,rfl,hT⟩:=hrel;have HT:=Lib.hid hT;clear hT HT0;by_cases hlt:k<r.pauses.length
   ·obtain⟨pz,hq⟩:∃pz,r.pauses[k]? =some pz:=⟨_,List.getElem?_eq_getElem hlt⟩
    obtain⟨bp,op',hpa,hp'⟩:=Els.pse HrAt.out.p hq;have pa0:=hp'.c0;have pa1:=hp'.c1;have pa2:=hp'.c2;have pa3:=hp'.c3;rw[hpa]at c8;have hk0:(0:Int)≤(k:Int):=by omega
    have hkl:(k:Int)<(r.pauses.length:Int):=by omega
    have Hqr:=Lib.hid ((rideOk_of Hiv.out).p pz (List.mem_of_getElem? hq));have Htk:=Lib.hid (show r.pauses.take (k+1)=r.pauses.take k ++ [pz]from by rw[List.take_succ_eq_append_getElem hlt,(List.getElem?_eq_some_iff.1 hq).2]);have Hlt':=Lib.hid hlt;obtain⟨m,hm,hm3⟩:=mod_at (a:=(k:Int)) (n:=3) (m:=3) hk0 rfl (by decide);obtain⟨ja,hja⟩:∃n:Nat,(2:Int)+(m:Int)=(n:Int):=⟨2+m,by omega⟩
    obtain⟨jb,hjb⟩:∃n:Nat,(5:Int)+(m:Int)=(n:Int):=⟨5+m,by omega⟩
    have hwm:IntKind.i64.wrap (m:Int)=(m:Int):=IntWalk.i64_in _ ⟨by omega,by omega⟩;have hwa:IntKind.i64.wrap (ja:Int)=(ja:Int):=IntWalk.i64_in _ ⟨by omega,by omega⟩;have hwb:IntKind.i64.wrap (jb:Int)=(jb:Int):=IntWalk.i64_in _ ⟨by omega,by omega⟩;have hja0:(0:Int)≤(ja:Int):=by omega
    have hjb0:(0:Int)≤(jb:Int):=by omega
    have hja8:(ja:Int)<8:=by omega
    have hjb8:(jb:Int)<8:=by omega
    obtain⟨oa,hoa,hoa2⟩:∃oa,([.int .u8 o0,.int .u8 o1,.int .u8 o2,.int .u8 o3,.int .u8 o4,.int .u8 o5,.int .u8 o6,.int .u8 o7]:List Value)[ja]? =some (.int .u8 oa)∧0≤oa∧oa≤255:=by
     rcases(by omega:ja=2∨ja=3∨ja=4)with rfl|rfl|rfl
     ·exact⟨o2,rfl,Ho.out o2 (by simp)⟩
     ·exact⟨o3,rfl,Ho.out o3 (by simp)⟩
     ·exact⟨o4,rfl,Ho.out o4 (by simp)⟩
    obtain⟨ob',hob,hob2⟩:∃ob',([.int .u8 o0,.int .u8 o1,.int .u8 o2,.int .u8 o3,.int .u8 o4,.int .u8 o5,.int .u8 o6,.int .u8 o7]:List Value)[jb]? =some (.int .u8 ob')∧0≤ob'∧ob'≤255:=by
     rcases(by omega:jb=5∨jb=6∨jb=7)with rfl|rfl|rfl
     ·exact⟨o5,rfl,Ho.out o5 (by simp)⟩
     ·exact⟨o6,rfl,Ho.out o6 (by simp)⟩
     ·exact⟨o7,rfl,Ho.out o7 (by simp)⟩
    obtain⟨av,hav⟩:∃v,mom pz.f0 pz.f1 oa=v:=⟨_,rfl⟩
    obtain⟨bv,hbv⟩:∃v,mom pz.t0 pz.t1 ob'=v:=⟨_,rfl⟩
    have hav2:=mom_in (lo:=pz.f0) (hi:=pz.f1) (off:=oa) (by have:=Hqr.out;omega) hoa2.1;have hbv2:=mom_in (lo:=pz.t0) (hi:=pz.t1) (off:=ob') (by have:=Hqr.out;omega) hob2.1;have HMa:=Lib.hid (fun W:World=>show Calls Tryz.prog 10 #[.agg #[.int .i64 pz.f0,.int .i64 pz.f1],.int .u8 oa] W (fun o w'=>o= .returned (.int .i64 (mom pz.f0 pz.f1 oa))∧∃y:Since W,w'=y.w)from mom_calls W (Since.self W) pz.f0 pz.f1 oa (by have:=Hqr.out;omega) (by have:=Hqr.out;omega) (by have:=Hqr.out;omega) hoa2.1 hoa2.2);have HMb:=Lib.hid (fun W:World=>show Calls Tryz.prog 10 #[.agg #[.int .i64 pz.t0,.int .i64 pz.t1],.int .u8 ob'] W (fun o w'=>o= .returned (.int .i64 (mom pz.t0 pz.t1 ob'))∧∃y:Since W,w'=y.w)from mom_calls W (Since.self W) pz.t0 pz.t1 ob' (by have:=Hqr.out;omega) (by have:=Hqr.out;omega) (by have:=Hqr.out;omega) hob2.1 hob2.2);rw[hav]at HMa hav2;rw[hbv]at HMb hbv2;have Hav:=Lib.hid hav2;have Hbv:=Lib.hid hbv2;clear hav hbv hav2 hbv2 hoa2 hob2 hp' hq hpa;go_upto_region 15 with fail;obtain⟨y7,e2,hst0,hsz0,hlt0,HX0⟩:=grow1 y6 [.int .i64 pz.f0,.int .i64 pz.f1,.int .i64 pz.t0,.int .i64 pz.t1] 44;rw[e2];obtain⟨hz0,hz1,hz2,hz3,hzf⟩:=cx4 HX0;skip;clear e2 hst0;generalize y6.w.heap.size=gp at *;obtain⟨Hhz0,Hhz1,Hhz2,Hhz3,Hhzf⟩:=bx4 HX0;have Hhzg:=Lib.hid (And.intro hsz0 hlt0);clear hlt0 hsz0 HX0;clear pa0 pa1 pa2 pa3 hzf Hhzf;have hg1:¬pz.f1<pz.f0:=by have:=Hqr.out;omega
    have hg2:¬pz.t1<pz.t0:=by have:=Hqr.out;omega
    have HS17:=Lib.hid (fun(w':World) (hw:IsSince y7.w w')=>show w'.cell? ⟨gp,0,none⟩=some (.int .i64 pz.f0)∧w'.cell? ⟨gp,1,none⟩=some (.int .i64 pz.f1)∧w'.cell? ⟨gp,2,none⟩=some (.int .i64 pz.t0)∧w'.cell? ⟨gp,3,none⟩=some (.int .i64 pz.t1)∧w'.cell? ⟨bx+2,ja,none⟩=some (.int .u8 oa)∧w'.cell? ⟨bx+2,jb,none⟩=some (.int .u8 ob')from by
     have h1:=HBo.out.to (IsSince.trans (⟨y7,rfl⟩:IsSince wf y7.w) hw);obtain⟨z,rfl⟩:=hw;exact⟨Hhz0 z,Hhz1 z,Hhz2 z,Hhz3 z,h1.c ja _ hoa,h1.c jb _ hob⟩)
    have Hy7:=Lib.hid (show IsSince wf y7.w from⟨y7,rfl⟩);clear hoa hob Hhz0 Hhz1 Hhz2 Hhz3;go_upto_region 17 with fail;clear hz0 hz1 hz2 hz3 hg1 hg2;refine wp_region_M (fun w'=>w'.cell? ⟨gp,0,none⟩=some (.int .i64 pz.f0)∧w'.cell? ⟨gp,1,none⟩=some (.int .i64 pz.f1)∧w'.cell? ⟨gp,2,none⟩=some (.int .i64 pz.t0)∧w'.cell? ⟨gp,3,none⟩=some (.int .i64 pz.t1)∧w'.cell? ⟨bx+2,ja,none⟩=some (.int .u8 oa)∧w'.cell? ⟨bx+2,jb,none⟩=some (.int .u8 ob')) 17 (by kernel_rfl) (HS17.out _ (IsSince.drew' (IsSince.self _))) (fun hS=>?_);refine tk 0 ?_ rfl (by kernel_rfl) hS (fun _ _ _ h=>h) ?_ ?_;rotate_left
    ·(intro w h;(try dsimp only at h);go_split_ands;go_simp;try with_reducible rfl)
    (try simp only[Act.put,actS])
    refine tk 1 ?_ rfl (by kernel_rfl) hS (fun _ _ _ h=>h) ?_ ?_;rotate_left
    ·(intro w h;(try dsimp only at h);go_split_ands;go_simp;try with_reducible rfl)
    (try simp only[Act.put,actS])
    refine tk 2 ?_ rfl (by kernel_rfl) hS (fun _ _ _ h=>h) ?_ ?_;rotate_left
    ·(intro w h;(try dsimp only at h);go_split_ands;go_simp;try with_reducible rfl)
    (try simp only[Act.put,actS])
    refine tk 3 ?_ rfl (by kernel_rfl) hS (fun _ _ _ h=>h) ?_ ?_;rotate_left
    ·(intro w h;(try dsimp only at h);go_split_ands;go_simp;try with_reducible rfl)
    (try simp only[Act.put,actS])
    refine tk 4 ?_ rfl (by kernel_rfl) hS (fun _ _ _ h=>h) ?_ ?_;rotate_left
    ·(intro w h;(try dsimp only at h);go_split_ands;go_simp;try with_reducible rfl)
    (try simp only[Act.put,actS])
    refine tk 5 ?_ rfl (by kernel_rfl) hS (fun _ _ _ h=>h) ?_ ?_;rotate_left
    ·(intro w h;(try dsimp only at h);go_split_ands;go_simp;try with_reducible rfl)
    (try simp only[Act.put,actS])
    refine tk 6 ?_ rfl (by kernel_rfl) hS (fun _ _ _ h=>h) ?_ ?_;rotate_left
    ·(intro w h;(try dsimp only at h);go_split_ands;go_simp;try with_reducible rfl)
    (try simp only[Act.put,actS])
    refine tk 8 ?_ rfl (by kernel_rfl) hS (fun _ _ _ h=>h) ?_ ?_;rotate_left
    ·(intro w h;(try dsimp only at h);go_split_ands;go_simp;try with_reducible rfl)
    (try simp only[Act.put,actS])
    refine tk 9 ?_ rfl (by kernel_rfl) hS (fun _ _ _ h=>h) ?_ ?_;rotate_left
    ·(intro w h;(try dsimp only at h);go_split_ands;go_simp;try with_reducible rfl)
    (try simp only[Act.put,actS])
    refine tk 10 ?_ rfl (by kernel_rfl) hS (fun _ _ _ h=>h) ?_ ?_;rotate_left
    ·(intro w h;(try dsimp only at h);go_split_ands;go_simp;try with_reducible rfl)
    (try simp only[Act.put,actS])
    refine tk 11 ?_ rfl (by kernel_rfl) hS (fun _ _ _ h=>h) ?_ ?_;rotate_left
    ·(intro w h;(try dsimp only at h);go_split_ands;go_simp;try with_reducible rfl)
    (try simp only[Act.put,actS])
    refine tk 12 ?_ rfl (by kernel_rfl) hS (fun _ _ _ h=>h) ?_ ?_;rotate_left
    ·(intro w h;(try dsimp only at h);go_split_ands;go_simp;try with_reducible rfl)
    (try simp only[Act.put,actS])
    refine tk 13 ?_ rfl (by kernel_rfl) hS (fun _ _ _ h=>h) ?_ ?_;rotate_left
    ·(intro w h;(try dsimp only at h);go_split_ands;go_simp;try with_reducible rfl)
    (try simp only[Act.put,actS])
    refine tk 14 ?_ rfl (by kernel_rfl) hS (fun _ _ _ h=>h) ?_ ?_;rotate_left
    ·(intro w h;(try dsimp only at h);go_split_ands;go_simp;try with_reducible rfl)
    (try simp only[Act.put,actS])
    refine tk1 7 (by kernel_rfl) rfl fun K hK=>?_;(go_simp;(with_reducible refine(HMa.out _).mono ?_);rintro _ _ ⟨rfl,y8,rfl⟩)
    refine tkK hK (HS17.out _ (IsSince.trans (IsSince.drew' (IsSince.self _)) ⟨y8,rfl⟩)) ?_;clear hK K hS;intro hS;(try simp only[Act.put,actS])
    refine tk1 15 (by kernel_rfl) rfl fun K hK=>?_;(go_simp;(with_reducible refine(HMb.out _).mono ?_);rintro _ _ ⟨rfl,y9,rfl⟩)
    refine tkK hK (HS17.out _ (IsSince.trans (IsSince.drew' (IsSince.self _)) (IsSince.trans ⟨y8,rfl⟩ ⟨y9,rfl⟩))) ?_;clear hK K hS;intro hS;(try simp only[Act.put,actS])
    refine tk 16 ?_ rfl (by kernel_rfl) hS (fun _ _ _ h=>h) ?_ ?_;rotate_left
    ·(intro w h;(try dsimp only at h);go_split_ands;go_simp;try with_reducible rfl)
    (try simp only[Act.put,actS])
    refine tk1 17 (by kernel_rfl) rfl fun K hK=>?_;go_simp;refine tkL hK (by kernel_rfl) ?_;clear hK K hS;(try simp only[Act.put,actS])
    have Hy9:=Lib.hid (show IsSince wf y9.w from IsSince.trans Hy7.out (IsSince.trans (IsSince.drew' (IsSince.self _)) (IsSince.trans ⟨y8,rfl⟩ ⟨y9,rfl⟩)));clear HS17 HMa HMb hm hm3 hja hjb hwm hwa hwb hja0 hjb0 hja8 hjb8;obtain⟨y10,e10⟩:=Hy9.out;rw[e10];by_cases h1:av<last
    ·go_wp2_with(go_at_call 7;(with_reducible refine(HA.out _).mono ?_);rintro _ _ ⟨rfl,y11,rfl⟩)
     first
      |exact HP.out _ (IsSince.trans HWc.out (IsSince.trans (⟨y10,rfl⟩:IsSince wf y10.w) (⟨y11,rfl⟩:IsSince y10.w y11.w)))
      |(go_ret;exact HP.out _ (IsSince.trans HWc.out (IsSince.trans (⟨y10,rfl⟩:IsSince wf y10.w) (⟨y11,rfl⟩:IsSince y10.w y11.w))))
    by_cases h2:bv<av
    ·go_wp2_with(go_at_call 7;(with_reducible refine(HA.out _).mono ?_);rintro _ _ ⟨rfl,y11,rfl⟩)
     first
      |exact HP.out _ (IsSince.trans HWc.out (IsSince.trans (⟨y10,rfl⟩:IsSince wf y10.w) (⟨y11,rfl⟩:IsSince y10.w y11.w)))
      |(go_ret;exact HP.out _ (IsSince.trans HWc.out (IsSince.trans (⟨y10,rfl⟩:IsSince wf y10.w) (⟨y11,rfl⟩:IsSince y10.w y11.w))))
    have HT2:=Lib.hid (HT.out.step (p:=pz) (x:=⟨av,bv⟩) ⟨Hav.out.1,Hav.out.2,Hbv.out.1,Hbv.out.2⟩ (show last≤av by omega) (show av≤bv by omega) (show bv≤4294944000 by have:=Hbv.out;have:=Hqr.out;omega));rw[←Htk.out]at HT2;have hp1:=HT.out.p;have hp2:=HT.out.m;have hp3:=HT.out.n;have hp4:=Hqr.out;have hp5:=Hav.out;have hp6:=Hbv.out;have hw1:IntKind.i64.wrap (paused+bv)=paused+bv:=IntWalk.i64_in _ ⟨by omega,by omega⟩;have hw2:IntKind.i64.wrap (paused+bv-av)=paused+bv-av:=IntWalk.i64_in _ ⟨by omega,by omega⟩;have hpl5:=(rideOk_of Hiv.out).pn;clear hp4 hp5 hp6;go_wp2_with fail;go_roundw
    case rel=>exact⟨k+1,y10,_,_,_,Hlt'.out,by go_num,rfl,rfl,rfl,HT2.out⟩
    case measure=>have:=Hlt'.out;simp[intOf];omega
   ·obtain rfl:k=r.pauses.length:=by omega
    rw[List.take_length]at HT;clear hlt hk;by_cases h1:en<last
    ·go_wp2_with(go_at_call 7;(with_reducible refine(HA.out _).mono ?_);rintro _ _ ⟨rfl,y11,rfl⟩)
     first
      |exact HP.out _ (IsSince.trans HWc.out (IsSince.trans (⟨y6,rfl⟩:IsSince wf y6.w) (⟨y11,rfl⟩:IsSince y6.w y11.w)))
      |(go_ret;exact HP.out _ (IsSince.trans HWc.out (IsSince.trans (⟨y6,rfl⟩:IsSince wf y6.w) (⟨y11,rfl⟩:IsSince y6.w y11.w))))
    have hsec:=tru_secs (V:=⟨st,en⟩) Hiv.out Hst.out Hen.out HT.out (by show last≤en;omega);rw[←lenS_eq,←lenS_eq]at hsec;have hs1:secR r≤en-st-paused:=by unfold secR;rw[if_pos Hiv.out];exact hsec.1
    have hs2:secP r≤paused:=by unfold secP;rw[if_pos Hiv.out];exact hsec.2
    clear hsec;have hs3:=secR_bd r;have hs4:=secP_bd r;have hcall:=seconds_calls y6.w (Since.self y6.w) r (HrAt.out.to ⟨y6,rfl⟩);rw[show(Since.self y6.w).w=y6.w from rfl]at hcall;unfold Num3Res at hcall;rw[Hiv.out,Hop.out]at hcall;generalize secR r=sr at *;generalize secP r=sp at *;have e0:∀y:Since wf,y.w.cell? ⟨g,0,none⟩=some (.int .i64 r.id):=fun y=>(HBr.out.since y).c 0 _ rfl;have e1:∀y:Since wf,y.w.cell? ⟨g,1,none⟩=some (.int .i64 r.rd):=fun y=>(HBr.out.since y).c 1 _ rfl;have e2:∀y:Since wf,y.w.cell? ⟨g,2,none⟩=some (.int .i64 r.s0):=fun y=>(HBr.out.since y).c 2 _ rfl;have e3:∀y:Since wf,y.w.cell? ⟨g,3,none⟩=some (.int .i64 r.s1):=fun y=>(HBr.out.since y).c 3 _ rfl;have e4:∀y:Since wf,y.w.cell? ⟨g,4,none⟩=some (.int .i64 r.e0):=fun y=>(HBr.out.since y).c 4 _ rfl;have e5:∀y:Since wf,y.w.cell? ⟨g,5,none⟩=some (.int .i64 r.e1):=fun y=>(HBr.out.since y).c 5 _ rfl;have e6:∀y:Since wf,y.w.cell? ⟨g,6,none⟩=some (.bool false):=fun y=>(HBr.out.since y).c 6 _ rfl;have e7:∀y:Since wf,y.w.cell? ⟨g,7,none⟩=some (.slice r.la r.legs.length r.lc):=fun y=>(HBr.out.since y).c 7 _ rfl;have e8:∀y:Since wf,y.w.cell? ⟨g,8,none⟩=some (.slice r.pa r.pauses.length r.pc):=fun y=>(HBr.out.since y).c 8 _ rfl;have e9:∀y:Since wf,y.w.cell? ⟨g,9,none⟩=some (.int .i64 r.fw):=fun y=>(HBr.out.since y).c 9 _ rfl;have e10:∀y:Since wf,y.w.cell? ⟨g,10,none⟩=some (.int .i64 r.fp):=fun y=>(HBr.out.since y).c 10 _ rfl;have e11:∀y:Since wf,y.w.cell? ⟨g,11,none⟩=some (.int .i64 r.wh):=fun y=>(HBr.out.since y).c 11 _ rfl;have e12:∀y:Since wf,y.w.cell? ⟨g,12,none⟩=some (.int .i64 r.pl):=fun y=>(HBr.out.since y).c 12 _ rfl;clear c8;have hb1:=HT.out.p;have hb2:=HT.out.n;have hb3:=Hst.out;have hb4:=Hen.out;have hb5:=Hrg.out;have hw1:IntKind.i64.wrap (en-st)=en-st:=IntWalk.i64_in _ ⟨by omega,by omega⟩;have hw2:IntKind.i64.wrap (en-st-paused)=en-st-paused:=IntWalk.i64_in _ ⟨by omega,by omega⟩;have hg1:¬(en-st-paused<sr):=by omega
    have hg2:¬(paused<sp):=by omega
    have Hen2:=Lib.hid (show 0≤en-st-paused∧en-st-paused≤4294944000 from by omega);have Hsr:=Lib.hid (And.intro hs1 hs3);clear hb3 hb4 hb5 hb1 hb2;go_upto_region 27 with(go_at_call 11;(with_reducible refine hcall.mono ?_);clear hcall;rintro _ _ ⟨rfl,y11,rfl⟩)
    clear e0 e1 e2 e3 e4 e5 e6 e7 e8 e9 e10 e11 e12 hs1 hs2 hs3 hs4 hg1 hg2;replace HWc:=Lib.hid (IsSince.trans HWc.out (IsSince.trans (⟨y6,rfl⟩:IsSince wf y6.w) (⟨y11,rfl⟩:IsSince y6.w y11.w)));replace HBt:=Lib.hid (HBt.out.to (IsSince.trans (⟨y6,rfl⟩:IsSince wf y6.w) (⟨y11,rfl⟩:IsSince y6.w y11.w)));generalize y11.w=wg at *;have f0:wg.frozen? ⟨bx+1,0,none⟩=false:=HBt.out.f 0;have d0:wg.cell? ⟨bx+1,0,none⟩=some (.int .i64 t.fr):=HBt.out.c 0 _ rfl;go_upto_region 28 with fail;clear f0 d0;have HBu:=Lib.hid (show BoxIs (wg.setCell ⟨bx+1,0,none⟩ (.int .i64 0)) (bx+1) ([.int .i64 0,.int .i64 t.un,.int .i64 t.st,.int .i64 t.fe,.int .i64 t.pr,.int .i64 t.pa]:List Value)from HBt.out.setj (j:=0) (by simp) _);have HWd:=Lib.hid (show IsSince w (wg.setCell ⟨bx+1,0,none⟩ (.int .i64 0))from by obtain⟨z,hz⟩:=HWc.out;rw[hz];exact z.set _ (by show w.heap.size≤bx+1;have:=Hlt.out;omega) _);generalize wg.setCell ⟨bx+1,0,none⟩ (.int .i64 0)=wk at *;have tc0:∀y:Since wk,y.w.cell? ⟨bx+1,0,none⟩=some (.int .i64 0):=fun y=>(HBu.out.since y).c 0 _ rfl;have tc1:∀y:Since wk,y.w.cell? ⟨bx+1,1,none⟩=some (.int .i64 t.un):=fun y=>(HBu.out.since y).c 1 _ rfl;have tc2:∀y:Since wk,y.w.cell? ⟨bx+1,2,none⟩=some (.int .i64 t.st):=fun y=>(HBu.out.since y).c 2 _ rfl;have tc3:∀y:Since wk,y.w.cell? ⟨bx+1,3,none⟩=some (.int .i64 t.fe):=fun y=>(HBu.out.since y).c 3 _ rfl;have tc4:∀y:Since wk,y.w.cell? ⟨bx+1,4,none⟩=some (.int .i64 t.pr):=fun y=>(HBu.out.since y).c 4 _ rfl;have tc5:∀y:Since wk,y.w.cell? ⟨bx+1,5,none⟩=some (.int .i64 t.pa):=fun y=>(HBu.out.since y).c 5 _ rfl;have d0:wk.cell? ⟨bx+1,0,none⟩=some (.int .i64 0):=HBu.out.c 0 _ rfl;have d1:wk.cell? ⟨bx+1,1,none⟩=some (.int .i64 t.un):=HBu.out.c 1 _ rfl;have d2:wk.cell? ⟨bx+1,2,none⟩=some (.int .i64 t.st):=HBu.out.c 2 _ rfl;have d3:wk.cell? ⟨bx+1,3,none⟩=some (.int .i64 t.fe):=HBu.out.c 3 _ rfl;have d4:wk.cell? ⟨bx+1,4,none⟩=some (.int .i64 t.pr):=HBu.out.c 4 _ rfl;have d5:wk.cell? ⟨bx+1,5,none⟩=some (.int .i64 t.pa):=HBu.out.c 5 _ rfl;obtain⟨nn,hnn⟩:∃n,en-st-paused=n:=⟨_,rfl⟩
    rw[hnn]at hw2 Hen2 Hsr;have hca:=timeT_calls wk (Since.self wk) t.z sr (by have:=Hsr.out;exact⟨by omega,by omega⟩);rw[show(Since.self wk).w=wk from rfl]at hca;change Calls _ _ #[.agg #[.int .i64 0,.int .i64 t.un,.int .i64 t.st,.int .i64 t.fe,.int .i64 t.pr,.int .i64 t.pa],.int .i64 sr] wk _ at hca;unfold PrcRes at hca;have Hcb:=Lib.hid (fun W:World=>show Calls Tryz.prog 12 #[.agg #[.int .i64 0,.int .i64 t.un,.int .i64 t.st,.int .i64 t.fe,.int .i64 t.pr,.int .i64 t.pa],.int .i64 nn] W (PrcRes W t.z nn (rdP t.z nn))from timeT_calls W (Since.self W) t.z nn (by have:=Hen2.out;exact⟨by omega,by omega⟩));unfold PrcRes at Hcb;obtain⟨e1,he1⟩:∃e,prcE t.z sr (rdP t.z sr)=e:=⟨_,rfl⟩
    obtain⟨e2,he2⟩:∃e,prcE t.z nn (rdP t.z nn)=e:=⟨_,rfl⟩
    rw[he1]at hca;rw[he2]at Hcb;obtain⟨v1,hv1⟩:∃v,(if e1=0 then rdP t.z sr else 0)=v:=⟨_,rfl⟩
    obtain⟨v2,hv2⟩:∃v,(if e2=0 then rdP t.z nn else 0)=v:=⟨_,rfl⟩
    rw[hv1]at hca;rw[hv2]at Hcb;have Hle:=Lib.hid (fun(h1:e1=0) (h2:e2=0)=>show v1≤v2 from by
     rw[←hv1,←hv2,if_pos h1,if_pos h2];have hv:tarV t.z=true:=by
      cases h:tarV t.z
      ·unfold prcE at he1;rw[if_pos (show tarV t.z.z=false from h)]at he1;rw[h1]at he1;cases he1
      ·rfl
     exact rdP_mono (tarV_facts hv).2.2.2.2.2.2.1 (tarV_facts hv).2.2.1 Hsr.out.1)
    clear he1 he2 hv1 hv2;go_upto_region 29 with(go_at_call 12;(with_reducible refine hca.mono ?_);clear hca;rintro _ _ ⟨rfl,y12,rfl⟩)
    go_upto_region 30 with(go_at_call 12;(with_reducible refine(Hcb.out _).mono ?_);rintro _ _ ⟨rfl,y13,rfl⟩)
    have HWe:=Lib.hid (IsSince.trans HWd.out (IsSince.trans (⟨y12,rfl⟩:IsSince wk y12.w) (⟨y13,rfl⟩:IsSince y12.w y13.w)));clear Hcb d0 d1 d2 d3 d4 d5 tc0 tc1 tc2 tc3 tc4 tc5;by_cases h1:e1=0
    ·by_cases h2:e2=0
     ·have hle:=Hle.out h1 h2
      subst h1;subst h2;go_wp2_with(go_at_call 7;(with_reducible refine(HA.out _).mono ?_);rintro _ _ ⟨rfl,y14,rfl⟩);first
       |exact HP.out _ (IsSince.trans HWe.out (⟨y14,rfl⟩:IsSince y13.w y14.w))
       |(go_ret;exact HP.out _ (IsSince.trans HWe.out (⟨y14,rfl⟩:IsSince y13.w y14.w)))
     ·subst h1
      have hb:(e2 != 0)=true:=by simpa using h2
      go_wp2_with(go_at_call 7;(with_reducible refine(HA.out _).mono ?_);rintro _ _ ⟨rfl,y14,rfl⟩);first
       |exact HP.out _ (IsSince.trans HWe.out (⟨y14,rfl⟩:IsSince y13.w y14.w))
       |(go_ret;exact HP.out _ (IsSince.trans HWe.out (⟨y14,rfl⟩:IsSince y13.w y14.w)))
    ·have hb:(e1 != 0)=true:=by simpa using h1
     go_wp2_with(go_at_call 7;(with_reducible refine(HA.out _).mono ?_);rintro _ _ ⟨rfl,y14,rfl⟩);first
      |exact HP.out _ (IsSince.trans HWe.out (⟨y14,rfl⟩:IsSince y13.w y14.w))
      |(go_ret;exact HP.out _ (IsSince.trans HWe.out (⟨y14,rfl⟩:IsSince y13.w y14.w)))
end Go.Proofs.YtmmlmhnjjfnpnaaGreat
