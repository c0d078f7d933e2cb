/- Texts that belong together. -/
import Derived.Test.YtmmlmhnjjfnpnaaGreatTpQzt
set_option linter.all false
namespace Go.Proofs.YtmmlmhnjjfnpnaaGreat
open Go.RowKit
theorem As1 {f:G4} {p:G5} (h:lD f p=true):p.pl.length≤80∧p.dk.length≤40:=by
 unfold lD at h;simp only[Bool.and_eq_true,decide_eq_true_eq]at h;omega
set_option maxRecDepth 200000 in
set_option maxHeartbeats 64000000 in
theorem Br3 (w:World) (x:A7 w) (f:G4) (da ta:Option Addr) (dc tc:Nat) (hf:i5 w f da ta) (p:G5) (ga pa la ka fa:Option Addr) (gc pc lc kc fc:Nat) (hp:p.pl.length≤4611686018427387904→p.dk.length≤4611686018427387904→eI w p ga pa la ka fa) (hq1:p.tr.length≤9223372036854775807) (hq2:p.ps.length≤9223372036854775807) (hq3:p.pl.length≤9223372036854775807) (hq4:p.dk.length≤9223372036854775807) (hq5:p.fn.length≤9223372036854775807) (hz1:la=none→lc=0) (hz2:ka=none→kc=0) (a:Option Addr) (l:List Ev) (c:Nat) (h:D0 Ev.cs 9 w a l) (hl:l.length≤9223372036854775807) (hI:∀e∈l,U0 e.p) (ca:Option Addr) (cl:List C7) (cc:Nat) (hc:D0 C7.cs 5 w ca cl) (hcl:cl.length≤9223372036854775807) (hcc:cl.length≤cc) (ha:Option Addr) (gl:List bX) (hcp:Nat) (hg:D0 bX.cs 4 w ha gl) (hgl:gl.length≤9223372036854775807):
 Calls Tryz.prog 5 #[.agg #[.int .i64 f.bk,.int .i64 f.rd,.int .i64 f.dv,.slice da f.dk.length dc,.slice ta f.tk.length tc,.slice ga p.tr.length gc,.slice pa p.ps.length pc,.slice la p.pl.length lc,.slice ka p.dk.length kc,.int .i64 p.cap,.slice fa p.fn.length fc,.int .i64 p.fd],.slice a l.length c,.slice ca cl.length cc,.slice ha gl.length hcp] x.w fun o w'=>o= .returned (.bool true)∧∃y:A7 w,w'=y.w:=by
 have HP:=A3 (fun(w':World) (h:A8 w w')=>show(fun(o:Ending) (w':World)=>o= .returned (.bool true)∧∃y:A7 w,w'=y.w) (.returned (.bool true)) w' from⟨rfl,h⟩);generalize(fun(o:Ending) (w':World)=>o= .returned (.bool true)∧∃y:A7 w,w'=y.w)=PO at *;have HA:=A3 (fun(W:World)=>show Calls Tryz.prog 23 #[] W (fun o w'=>o= .returned (.bool true)∧∃y:A7 W,w'=y.w)from Bq3 W (A7.self W));have HF:=A3 hf;have HPr:=A3 hp;have HL:=A3 h;have HI:=A3 hI;have Hz1:=A3 hz1;have Hz2:=A3 hz2;have HC:=A3 hc;have HG:=A3 hg;have Hcc:=A3 hcc;clear hf hp h hI hz1 hz2 hc hg hcc;go_enter Tryz.func5,Tryz.ntmps5;go_upto_region 1 with fail;obtain⟨W,bx,y0,hW,hbx,-,B8,Hup,Hbx,HB0⟩:=K7 x (([.int .i64 f.bk,.int .i64 f.rd,.int .i64 f.dv,.slice da f.dk.length dc,.slice ta f.tk.length tc,.slice ga p.tr.length gc,.slice pa p.ps.length pc,.slice la p.pl.length lc,.slice ka p.dk.length kc,.int .i64 p.cap,.slice fa p.fn.length fc,.int .i64 p.fd]:List Value)) 55;rw[hW,hbx];clear hW hbx;have hB0:=fun y:A7 W=>HB0.since y;clear HB0;have HB:=A3 (hB0 y0);have HWa:=A3 (show A8 w y0.w from Hup.out y0);clear hB0 B8 Hup Hbx;generalize y0.w=wa at *;obtain⟨c0,c1,c2,c3,c4,c5,c6,c7,c8,c9,c10,c11,cf⟩:=sY HB.out;clear cf;obtain⟨v,hv⟩:∃v,lD f p=v:=⟨_,rfl⟩
 have hcall:=Bn8 wa (A7.self wa) f da ta dc tc (HF.out.to HWa.out) p ga pa la ka fa gc pc lc kc fc hq1 hq2 hq3 hq4 hq5;clear hq1 hq2 hq3 hq4 hq5;rw[show(A7.self wa).w=wa from rfl,hv]at hcall;by_cases h0:v=false
 ·subst h0
  go_wp2_with(first|(go_at_call 23;(with_reducible refine(HA.out _).mono ?_);rintro _ _ ⟨rfl,ya,rfl⟩)|(go_at_call 13;(with_reducible refine hcall.mono ?_);rintro _ _ ⟨rfl,y1,rfl⟩));first
   |exact HP.out _ (A8.trans HWa.out (A8.trans ⟨y1,rfl⟩ ⟨ya,rfl⟩))
   |(go_ret;exact HP.out _ (A8.trans HWa.out (A8.trans ⟨y1,rfl⟩ ⟨ya,rfl⟩)))
 obtain rfl:v=true:=by simpa using h0
 replace HPr:=A3 (HPr.out (by have:=As1 hv;omega) (by have:=As1 hv;omega));by_cases h40:40<l.length
 ·have k40:(40:Int)<(l.length:Int):=by omega
  go_wp2_with(first|(go_at_call 23;(with_reducible refine(HA.out _).mono ?_);rintro _ _ ⟨rfl,ya,rfl⟩)|(go_at_call 13;(with_reducible refine hcall.mono ?_);rintro _ _ ⟨rfl,y1,rfl⟩));first
   |exact HP.out _ (A8.trans HWa.out (A8.trans ⟨y1,rfl⟩ ⟨ya,rfl⟩))
   |(go_ret;exact HP.out _ (A8.trans HWa.out (A8.trans ⟨y1,rfl⟩ ⟨ya,rfl⟩)))
 have k40:¬(40:Int)<(l.length:Int):=by omega
 have H40:=A3 (show l.length≤40 from by omega);clear h40;by_cases h40:20<cl.length
 ·have k20:(20:Int)<(cl.length:Int):=by omega
  go_wp2_with(first|(go_at_call 23;(with_reducible refine(HA.out _).mono ?_);rintro _ _ ⟨rfl,ya,rfl⟩)|(go_at_call 13;(with_reducible refine hcall.mono ?_);rintro _ _ ⟨rfl,y1,rfl⟩));first
   |exact HP.out _ (A8.trans HWa.out (A8.trans ⟨y1,rfl⟩ ⟨ya,rfl⟩))
   |(go_ret;exact HP.out _ (A8.trans HWa.out (A8.trans ⟨y1,rfl⟩ ⟨ya,rfl⟩)))
 have k20:¬(20:Int)<(cl.length:Int):=by omega
 have H20:=A3 (show cl.length≤20 from by omega);clear h40;by_cases h40:6<gl.length
 ·have k6:(6:Int)<(gl.length:Int):=by omega
  go_wp2_with(first|(go_at_call 23;(with_reducible refine(HA.out _).mono ?_);rintro _ _ ⟨rfl,ya,rfl⟩)|(go_at_call 13;(with_reducible refine hcall.mono ?_);rintro _ _ ⟨rfl,y1,rfl⟩));first
   |exact HP.out _ (A8.trans HWa.out (A8.trans ⟨y1,rfl⟩ ⟨ya,rfl⟩))
   |(go_ret;exact HP.out _ (A8.trans HWa.out (A8.trans ⟨y1,rfl⟩ ⟨ya,rfl⟩)))
 have k6:¬(6:Int)<(gl.length:Int):=by omega
 have H6:=A3 (show gl.length≤6 from by omega);clear h40;clear h0 hv;go_upto_region 3 with(go_at_call 13;(with_reducible refine hcall.mono ?_);clear hcall;rintro _ _ ⟨rfl,y1,rfl⟩)
 clear k40 k20 k6 hl hcl hgl c0 c1 c2 c3 c4 c5 c6 c7 c8 c9 c10 c11;replace HB:=A3 (HB.out.since y1);have HWb:=A3 (A8.trans HWa.out ⟨y1,rfl⟩);clear HWa;generalize y1.w=wb at *;obtain⟨c0,c1,c2,c3,c4,c5,c6,c7,c8,c9,c10,c11,cf⟩:=sY HB.out;clear cf;have A1:=A3 (show Calls Tryz.prog 8 #[.agg #[.int .i64 f.bk,.int .i64 f.rd,.int .i64 f.dv,.slice da f.dk.length dc,.slice ta f.tk.length tc],.slice a l.length c] wb (wZ wb)from(Bd0 wb (A7.self wb) f da ta dc tc (HF.out.to HWb.out) a l c (HL.out.to HWb.out) H40.out HI.out).mono (fun o w' h=>Br0 H40.out h));unfold wZ at A1;go_upto_region 4 with(go_at_call 8;(with_reducible refine A1.out.mono ?_);clear A1;rintro _ _ ⟨aR,cR,R,e1,y2,rfl,rfl,hr1,hr2,hr3⟩)
 have HR:=A3 hr1;have HRn:=A3 hr2;have HRp:=A3 hr3;clear hr1 hr2 hr3 HL HI H40 c0 c1 c2 c3 c4 c5 c6 c7 c8 c9 c10 c11;replace HB:=A3 (HB.out.since y2);have HWc:=A3 (A8.trans HWb.out ⟨y2,rfl⟩);clear HWb;generalize y2.w=wc at *;obtain⟨c0,c1,c2,c3,c4,c5,c6,c7,c8,c9,c10,c11,cf⟩:=sY HB.out;clear cf;have A2:=A3 (show Calls Tryz.prog 19 #[.agg #[.int .i64 f.bk,.int .i64 f.rd,.int .i64 f.dv,.slice da f.dk.length dc,.slice ta f.tk.length tc],.agg #[.slice ga p.tr.length gc,.slice pa p.ps.length pc,.slice la p.pl.length lc,.slice ka p.dk.length kc,.int .i64 p.cap,.slice fa p.fn.length fc,.int .i64 p.fd],.slice aR R.length cR,.slice none 0 0] wc (xA wc R)from(Bn6 wc (A7.self wc) f da ta dc tc (HF.out.to HWc.out) p ga pa la ka fa gc pc lc kc fc (HPr.out.to HWc.out) Hz1.out Hz2.out R aR cR HR.out (by have:=HRn.out;omega) HRp.out).mono (fun o w' h=>Br2 h));unfold xA at A2;go_upto_region 5 with(go_at_call 19;(with_reducible refine A2.out.mono ?_);clear A2;rintro _ _ ⟨aF,cF,F,e2,y3,rfl,rfl,hr1,hr2,hr3⟩)
 have HFr:=A3 hr1;have HFn:=A3 hr2;have HFs:=A3 hr3;clear hr1 hr2 hr3 HRp HPr HF Hz1 Hz2 HB c0 c1 c2 c3 c4 c5 c6 c7 c8 c9 c10 c11;replace HR:=A3 (HR.out.since y3);have HWd:=A3 (A8.trans HWc.out ⟨y3,rfl⟩);clear HWc;generalize y3.w=wd at *;by_cases he1:e1=0;rotate_left
 ·go_wp2_with(go_at_call 23;(with_reducible refine(HA.out _).mono ?_);rintro _ _ ⟨rfl,ya,rfl⟩)
  first
   |exact HP.out _ (A8.trans HWd.out ⟨ya,rfl⟩)
   |(go_ret;exact HP.out _ (A8.trans HWd.out ⟨ya,rfl⟩))
 by_cases he2:e2=0;rotate_left
 ·subst he1
  go_wp2_with(go_at_call 23;(with_reducible refine(HA.out _).mono ?_);rintro _ _ ⟨rfl,ya,rfl⟩);first
   |exact HP.out _ (A8.trans HWd.out ⟨ya,rfl⟩)
   |(go_ret;exact HP.out _ (A8.trans HWd.out ⟨ya,rfl⟩))
 subst he1 he2;replace HFs:=A3 (HFs.out rfl);have hck:=pS wd (A7.self wd) ca cl cc (HC.out.to HWd.out) (by have:=H20.out;omega) Hcc.out;by_cases hok:o4 cl;rotate_left
 ·have CK:=A3 (show Calls Tryz.prog 24 #[.slice ca cl.length cc] wd (fun o w'=>∃v:Int,v≠0∧o= .returned (.int .i64 v)∧∃y:A7 wd,w'=y.w)from hck.mono (fun o w' ⟨v,h1,h2,h3⟩=>⟨v,fun h=>hok (h1.1 h),h2,h3⟩))
  clear hck hok;go_wp2_with(first|(go_at_call 23;(with_reducible refine(HA.out _).mono ?_);rintro _ _ ⟨rfl,ya,rfl⟩)|(go_at_call 24;(with_reducible refine CK.out.mono ?_);clear CK;rintro _ _ ⟨v,hv,rfl,y4,rfl⟩));first
   |exact HP.out _ (A8.trans HWd.out (A8.trans ⟨y4,rfl⟩ ⟨ya,rfl⟩))
   |(go_ret;exact HP.out _ (A8.trans HWd.out (A8.trans ⟨y4,rfl⟩ ⟨ya,rfl⟩)))
 have CK:=A3 (show Calls Tryz.prog 24 #[.slice ca cl.length cc] wd (fun o w'=>o= .returned (.int .i64 0)∧∃y:A7 wd,w'=y.w)from hck.mono (fun o w' ⟨v,h1,h2,h3⟩=>⟨by rw[h2,h1.2 hok],h3⟩));have Hok:=A3 hok;clear hck hok;go_wp2_with(go_at_call 24;(with_reducible refine CK.out.mono ?_);clear CK;rintro _ _ ⟨rfl,y4,rfl⟩);go_loopw [2,13] (fun cv i wr=>∃(k:Nat) (y:A7 wd) (ca:Option Addr) (cl:List C7) (cc:Nat),k≤gl.length∧cv= .slice ca cl.length cc∧i= .int .i64 k∧wr=y.w∧D0 C7.cs 5 y.w ca cl∧cl.length≤cc∧o4 cl) (fun _ i _ =>gl.length-(RowKit.intOf i).toNat)
 case atStart=>exact⟨0,y4,ca,cl,cc,by omega,rfl,rfl,rfl,HC.out.to (A8.trans HWd.out ⟨y4,rfl⟩),Hcc.out,Hok.out⟩
 case round=>
  clear HC Hcc Hok H20;obtain⟨k,y,ca,cl,cc,hk,rfl,rfl,rfl,hr1,hr2,hr3⟩:=hrel;have HC:=A3 hr1;have Hcc:=A3 hr2;have Hok:=A3 hr3;clear hr1 hr2 hr3;have rQ:=A3 Hok.out.n;by_cases hlt:k<gl.length
  ·obtain⟨e,he⟩:∃e,gl[k]? =some e:=⟨_,A4 hlt⟩
   obtain⟨b1,off1,hx1,hb1,hc1⟩:=(HG.out.to HWd.out) k e he;have ra0:∀y:A7 wd,y.w.cell? ⟨b1,off1+k*4,none⟩=some (.int .i64 e.b):=A7.cell (hc1 0 _ rfl) hb1;have ra1:∀y:A7 wd,y.w.cell? ⟨b1,off1+k*4+1,none⟩=some (.int .i64 e.t):=A7.cell (hc1 1 _ rfl) hb1;have ra2:∀y:A7 wd,y.w.cell? ⟨b1,off1+k*4+2,none⟩=some (.int .i64 e.o):=A7.cell (hc1 2 _ rfl) hb1;have ra3:∀y:A7 wd,y.w.cell? ⟨b1,off1+k*4+3,none⟩=some (.int .i64 e.s):=A7.cell (hc1 3 _ rfl) hb1;have hk0:(0:Int)≤(k:Int):=by omega
   have hkl:(k:Int)<(gl.length:Int):=by omega
   subst hx1;clear hc1 hb1 he;go_upto_region 11 with fail;obtain⟨y5,e2,C9,hsz0,hlt0,HX0⟩:=L8 y [.int .i64 e.b,.int .i64 e.t,.int .i64 e.o,.int .i64 e.s] 81;rw[e2];obtain⟨hx0,hx1,hx2,hx3,hxf⟩:=dU HX0;(replace HC:=A3 (HC.out.to C9))
   clear e2 C9;generalize y.w.heap.size=gx at *;obtain⟨E6,G9,K1,J5,I3⟩:=bO HX0;have I9:=A3 (And.intro hsz0 hlt0);clear hlt0 hsz0 HX0;clear E6 G9 K1 J5 I3 I9 ra0 ra1 ra2 ra3;have CG:=A3 (show Calls Tryz.prog 25 #[.slice ca cl.length cc,.int .i64 e.b,.int .i64 e.t,.int .i64 e.o,.int .i64 e.s] y5.w (wX y5.w)from(AQ8 y5.w (A7.self y5.w) ca cl cc HC.out (by have:=rQ.out;omega) Hcc.out e.b e.t e.o e.s).mono (fun o w' h=>Bp2 h));unfold wX at CG;go_upto_region 12 with(go_at_call 25;(with_reducible refine CG.out.mono ?_);clear CG;rintro _ _ ⟨na,nl,nc,v,z,rfl,rfl,hn⟩)
   clear hx0 hx1 hx2 hx3 hxf;have HN:=A3 hn;clear hn;obtain⟨y6,e6⟩:=y5.trans z;replace HC:=A3 (A7.els HC.out z);rw[e6]at HC HN⊢;clear e6 z;by_cases hv:v=0
   ·subst hv
    replace HN:=A3 (HN.out rfl);go_wp2_with fail;go_roundw
    case rel=>exact⟨k+1,y6,na,nl,nc,by omega,rfl,by go_num,rfl,HN.out.1,HN.out.2.1,HN.out.2.2⟩
    case measure=>simp[RowKit.intOf];omega
   ·go_wp2_with fail
    go_roundw
    case rel=>exact⟨k+1,y6,ca,cl,cc,by omega,rfl,by go_num,rfl,HC.out,Hcc.out,Hok.out⟩
    case measure=>simp[RowKit.intOf];omega
  ·obtain rfl:k=gl.length:=by omega
   have CK:=A3 (show Calls Tryz.prog 24 #[.slice ca cl.length cc] y.w (fun o w'=>o= .returned (.int .i64 0)∧∃z:A7 y.w,w'=z.w)from(pS y.w (A7.self y.w) ca cl cc HC.out (by have:=rQ.out;omega) Hcc.out).mono (fun o w' ⟨v,h1,h2,h3⟩=>⟨by rw[h2,h1.2 Hok.out],h3⟩));replace HWd:=A3 (A8.trans HWd.out (A8.of y));replace HR:=A3 (HR.out.since y);replace HFr:=A3 (A7.els HFr.out y);clear HG hlt hk;go_upto_region 17 with(go_at_call 24;(with_reducible refine CK.out.mono ?_);clear CK;rintro _ _ ⟨rfl,y7,rfl⟩)
   replace HWd:=A3 (A8.trans HWd.out (A8.of y7));replace HC:=A3 (A7.els HC.out y7);replace HR:=A3 (HR.out.since y7);replace HFr:=A3 (A7.els HFr.out y7);generalize y7.w=wB at *;clear y7 y;have hcall:=Ah5 wB 10 (by decide) (by decide);go_upto_region 18 with(go_at_call 26;(with_reducible refine hcall.mono ?_);clear hcall;rintro _ _ ⟨g,y8,rfl,rfl,hm⟩;(have HM:=A3 hm);clear hm)
   have hFn:=HFn.out;go_wp2_with fail;go_loopw [20,21] (fun pd i wr=>∃(k:Nat) (y:A7 wB) (v:Value) (es:List J6) (paid:Int),k≤F.length∧pd= .int .i64 paid∧i= .int .i64 k∧wr=y.w∧aH wB y.w g 10 v es∧fH k es paid) (fun _ i _ =>F.length-(RowKit.intOf i).toNat)
   case atStart=>exact⟨0,y8,_,[],0,by omega,rfl,rfl,rfl,HM.out,Bo9⟩
   case round=>
    clear HM y8;obtain⟨k,y,v,es,paid,hk,rfl,rfl,rfl,hr1,hr2⟩:=hrel;have HM:=A3 hr1;have HE:=A3 hr2;clear hr1 hr2;by_cases hlt:k<F.length
    ·obtain⟨x,hx⟩:∃x,F[k]? =some x:=⟨_,A4 hlt⟩
     obtain⟨b1,off1,hx1,hb1,hc1⟩:=HFr.out k x hx;obtain⟨⟨t0,t1⟩,jj,r,hj,hid,hop,hre,hne⟩:=HFs.out x (A0 hx);obtain⟨T,hT⟩:∃T:Nat,x.tt=(T:Int):=⟨x.tt.toNat,by omega⟩
     have hT1:T≤1000000000000:=by omega
     have ra0:∀y:A7 wB,y.w.cell? ⟨b1,off1+k*4,none⟩=some (.int .i64 x.id):=A7.cell (hc1 0 _ rfl) hb1;have ra3:∀y:A7 wB,y.w.cell? ⟨b1,off1+k*4+3,none⟩=some (.int .i64 (T:Int)):=by rw[←hT];exact A7.cell (hc1 3 _ rfl) hb1
     have hk0:(0:Int)≤(k:Int):=by omega
     have hkl:(k:Int)<(F.length:Int):=by omega
     have FC:=A3 (show Calls Tryz.prog 20 #[.slice aR R.length cR,.int .i64 x.id] y.w (nK y.w r)from Bo2 y.w (A7.self y.w) aR R cR (HR.out.since y) (by have:=HRn.out;omega) jj r x.id (Bo5 hre) hj hid hne);unfold nK at FC;have Hre:=A3 hre;have Hop:=A3 hop;have HT1:=A3 hT1;subst hx1;clear hc1 hb1 hx t0 t1 hj hid hop hre hne hT hT1;go_upto_region 25 with(go_at_call 20;(with_reducible refine FC.out.mono ?_);clear FC;rintro _ _ ⟨q,z6,rfl,rfl,hb2,hm2⟩)
     obtain⟨y7,e7⟩:=y.trans z6;replace HM:=A3 (HM.out.to (A8.of z6));rw[e7]at hm2 HM⊢;have HqE:=A3 hb2;have HqM:=A3 hm2;clear hb2 hm2 e7;obtain⟨y8,e2,C9,hsz0,hlt0,HX0⟩:=L8 y7 [.int .i64 q.id,.int .i64 q.rd,.int .i64 q.s0,.int .i64 q.s1,.int .i64 q.e0,.int .i64 q.e1,.bool q.op,.slice q.la q.legs.length q.lc,.slice q.pa q.pauses.length q.pc,.int .i64 q.fw,.int .i64 q.fp,.int .i64 q.wh,.int .i64 q.pl] 40;rw[e2];obtain⟨hx0,hx1,hx2,hx3,hx4,hx5,hx6,hx7,hx8,hx9,eN,eO,eP,hxf⟩:=bP HX0;(have HqN:=A3 (HqM.out.toO C9);replace HM:=A3 (HM.out.to C9))
     clear e2 C9;generalize y7.w.heap.size=gq at *;obtain⟨E6,G9,K1,J5,O8,U5,X9,Z4,Z5,cL,cI,cJ,cK,I3⟩:=R5 HX0;have I9:=A3 (And.intro hsz0 hlt0);clear hlt0 hsz0 HX0;clear hx0 hx1 hx2 hx3 hx4 hx5 hx6 hx7 hx8 hx9 eN eO eP hxf I3 I9 z6;clear HqM;have ea:=fun(u:World) (hu:A8 y8.w u)=>A8.cell ra3 (A8.trans ⟨y8,rfl⟩ hu);have eb0:=fun(u:World) (hu:A8 y8.w u)=>A8.cell E6 hu;have eb1:=fun(u:World) (hu:A8 y8.w u)=>A8.cell G9 hu;have eb2:=fun(u:World) (hu:A8 y8.w u)=>A8.cell K1 hu;have eb3:=fun(u:World) (hu:A8 y8.w u)=>A8.cell J5 hu;have eb4:=fun(u:World) (hu:A8 y8.w u)=>A8.cell O8 hu;have eb5:=fun(u:World) (hu:A8 y8.w u)=>A8.cell U5 hu;have eb6:=fun(u:World) (hu:A8 y8.w u)=>A8.cell X9 hu;have eb7:=fun(u:World) (hu:A8 y8.w u)=>A8.cell Z4 hu;have eb8:=fun(u:World) (hu:A8 y8.w u)=>A8.cell Z5 hu;have eb9:=fun(u:World) (hu:A8 y8.w u)=>A8.cell cL hu;have eb10:=fun(u:World) (hu:A8 y8.w u)=>A8.cell cI hu;have eb11:=fun(u:World) (hu:A8 y8.w u)=>A8.cell cJ hu;have eb12:=fun(u:World) (hu:A8 y8.w u)=>A8.cell cK hu;have SC:=A3 (fun(u:World) (hu:A8 y8.w u)=>show Calls Tryz.prog 27 #[.slice ca cl.length cc,.agg #[.int .i64 q.id,.int .i64 q.rd,.int .i64 q.s0,.int .i64 q.s1,.int .i64 q.e0,.int .i64 q.e1,.bool q.op,.slice q.la q.legs.length q.lc,.slice q.pa q.pauses.length q.pc,.int .i64 q.fw,.int .i64 q.fp,.int .i64 q.wh,.int .i64 q.pl],.int .i64 (T:Int)] u (wW u T)from(Ah1 u (A7.self u) ca cl cc (HC.out.to (A8.trans ⟨y8,rfl⟩ hu)) rQ.out Hcc.out Hok.out q (HqN.out.atO.to hu) ((congrArg J9 HqE.out).trans Hre.out) ((congrArg A9.op HqE.out).trans Hop.out) T HT1.out).mono (fun o w' h=>Bp1 h));unfold wW at SC;clear E6 G9 K1 J5 O8 U5 X9 Z4 Z5 cL cI cJ cK;refine R7 (fun w'=>A8 y8.w w') 12 (by kernel_rfl) (A8.drew' (A8.self _)) (fun hS=>?_);iterate 7
      refine J4 0 ?_ rfl rfl (by kernel_rfl) hS (fun _ _ _ h=>h) ?_ ?_
      rotate_left
      ·(intro w h;(try dsimp only at h);go_split_ands;go_simp;try with_reducible rfl)
      (try simp only[Act.put,B9])
     refine I0 7 (by kernel_rfl) rfl fun K hK=>?_;(go_simp;(with_reducible refine(SC.out _ hS).mono ?_);rintro _ _ ⟨a9,c9,S,z9,rfl,rfl,hl9,hn9,h9,hs9⟩;(have HL9:=A3 hl9);(have Hn9:=A3 hn9);(have H9:=A3 h9);(have Hs9:=A3 hs9);clear hl9 hn9 h9 hs9)
     refine E5 hK (A8.trans hS ⟨z9,rfl⟩) ?_;clear hK K hS;intro hS;(try simp only[Act.put,B9])
     iterate 4
      refine J4 8 ?_ rfl rfl (by kernel_rfl) hS (fun _ _ _ h=>h) ?_ ?_
      rotate_left
      ·(intro w h;(try dsimp only at h);go_split_ands;go_simp;try with_reducible rfl)
      (try simp only[Act.put,B9])
     have HSr:=A3 hS;refine I0 12 (by kernel_rfl) rfl fun K hK=>?_;go_simp;refine M9 hK (by kernel_rfl) ?_;clear hK K;(try clear hS)
     (try simp only[Act.put,B9])
     clear SC ea HqN HqE Hre Hop eb0 eb1 eb2 eb3 eb4 eb5 eb6 eb7 eb8 eb9 eb10 eb11 eb12;replace HM:=A3 (HM.out.to HSr.out);obtain⟨y9,e9⟩:=A8.trans (A8.of y8) HSr.out;rw[e9]at HL9 HM⊢;clear e9 HSr;obtain⟨Ls,hLs⟩:∃Ls,L9 0 S=Ls:=⟨_,rfl⟩
     have BC9:¬(9:Int)<(Ls.length:Int):=by have h1:=pO S 0;have h2:=H9.out;rw[hLs]at h1;omega
     rw[hLs]at HL9⊢;have HLs:=A3 hLs;clear hLs;by_cases hT0:T=0
     ·subst hT0
      obtain rfl:Ls=[]:=HLs.out.symm.trans (Bp0 Hs9.out);go_wp2_with fail;go_roundw
      case rel=>exact⟨k+1,y9,v,es,paid,by omega,rfl,by go_num,rfl,HM.out,HE.out.skip⟩
      case measure=>simp[RowKit.intOf];omega
     have hTn:¬(T:Int)=0:=by omega
     have hp:=HE.out.p;have hT1:=HT1.out;have BC8:k<256:=by omega
     go_upto_region 32 with fail;have HP0:=A3 hp;clear hp ra0;go_upto_region 33 with(at_builtin;(refine cY (w0:=y9.w) (enc:=E9.cs) (k:=2) E9.len (by decide) kP ?hw rfl _ _ 87 rfl y9.w.heap.size (Nat.le_refl _) ?hb 91 (.agg #[.int .i64 0,.int .i64 0]) 16 kO (.slice (some ⟨y9.w.heap.size,0,none⟩) 0 0) 0 [] rfl ?hown a9 Ls c9 rfl ?hels Hn9.out ?h63 ?hbytes ?_;rotate_right 1;intro v2 p2 hown2 _ hg2;refine Hid.out ?_))
     case hw=>exact A8.alloc (A8.self _) _
     case hown=>exact jW (k:=2) (cZ.new y9.w _) (Nat.le_refl _)
     case hels=>exact HL9.out.to (A8.alloc (A8.self _) _)
     case h63=>unfold maxLen;omega
     case hbytes=>omega
     rw[List.nil_append,Nat.zero_add]at hown2;obtain⟨_,a5,c5,rfl,_⟩:=O9 E9.len (by decide) hown2;have HO:=A3 (show p2.w.ownsRow y9.w.heap.size 91 2 (.slice a5 Ls.length c5) Ls.length (B4 E9.cs Ls)from hown2);have r3:p2.w.cell? ⟨b1,off1+k*4+3,none⟩=some (.int .i64 (T:Int)):=by obtain⟨q2,hq2⟩:=y9.trans p2;rw[hq2];exact ra3 q2
     clear hown2 hg2 ra3;refine A3 ?_;go_upto_region 34 with(at_builtin;(refine cY (w0:=y9.w) (enc:=E9.cs) (k:=2) E9.len (by decide) kP ?kw rfl _ _ 87 rfl y9.w.heap.size (Nat.le_refl _) ?kb 91 (.agg #[.int .i64 0,.int .i64 0]) 16 kO (.slice a5 Ls.length c5) Ls.length (B4 E9.cs Ls) rfl ?kown (some ⟨p2.w.heap.size,0,none⟩) ([⟨9,-(T:Int)⟩]:List E9) 1 rfl ?kels (fun h=>by cases h) ?k63 ?kbytes ?_;rotate_right 1;intro v3 p3 hown3 _ hg3;refine Hid.out ?_))
     case kw=>exact A8.alloc (A8.of p2) _
     case kb=>have:=p2.b.size;simp;omega
     case kown=>exact J8 HO.out (A8.alloc (A8.self _) _)
     case kels=>exact wY (enc:=E9.cs) (k:=2) (fun _ =>rfl) p2.w [⟨9,-(T:Int)⟩] _
     case k63=>unfold maxLen;(try simp);omega
     case kbytes=>(try simp);omega
     obtain⟨-,a6,c6,e6,-,hl6,-⟩:=O9 (l:=Ls ++ [⟨9,-(T:Int)⟩]) E9.len (by decide) (show p3.w.ownsRow y9.w.heap.size 91 2 _ (Ls.length+1) (B4 E9.cs (Ls ++ [⟨9,-(T:Int)⟩]))from by rw[U6,Y1];exact hown3);have yG:(Ls ++ [(⟨9,-(T:Int)⟩:E9)]).length=Ls.length+1:=by simp
     rw[yG]at e6;subst e6;clear r3;refine A3 ?_;have hlk:=Ar4 H9.out Hs9.out (by omega) hT1;rw[HLs.out]at hlk;obtain⟨ad,rfl⟩:∃ad,a6=some ad:=by obtain⟨b,o,h,_⟩:=hl6 Ls.length ⟨9,-(T:Int)⟩ (by simp);exact⟨_,h⟩
     obtain⟨q,hq⟩:=y9.trans p3;have hcall:=Ar5 wB p3.w q hq g 10 v es (HM.out.to (A8.of p3)) (by have:=HE.out.n;omega) ((k:Int)+1) 0 (by omega) (by decide) (fun e he=>by rw[HE.out.t e he];exact Int.le_refl _) (fun e he=>by have:=HE.out.i e he;omega) ad (Ls ++ [⟨9,-(T:Int)⟩]) c6 hl6 hlk;rw[yG]at hcall;clear hown3 hg3 hl6 hq hlk yG;unfold nL at hcall;go_wp2_with(go_at_call 28;(with_reducible refine hcall.mono ?_);clear hcall;rintro _ _ ⟨rfl,y5,v5,e5,rfl,h51,h52,h53,hm5⟩;(have HM5:=A3 hm5);(have H51:=A3 h51);(have H52:=A3 h52);(have H53:=A3 h53);clear hm5 h51 h52 h53);go_roundw
     case rel=>exact⟨k+1,y5,v5,es ++ [e5],paid+T,by omega,rfl,by go_num,rfl,HM5.out,HE.out.next H9.out Hs9.out (by omega) hT1 H51.out H52.out (by rw[HLs.out];exact H53.out)⟩
     case measure=>simp[RowKit.intOf];omega
    ·obtain rfl:k=F.length:=by omega
     have HOk:=A3 (HE.out.ok (by omega));have Htm:=A3 HE.out.t;have Hf:=A3 HE.out.e.facts;have hpd:=HE.out.p;clear HC HR HFr HFs HRn hlt hk HE rQ Hcc Hok;go_wp2_with fail;go_loopw [27,28] (fun s i wr=>∃(j:Nat) (z:A7 wB),j≤9∧s= .int .i64 (aD j (es.map J6.ls))∧i= .int .i64 j∧wr=z.w∧A8 y.w z.w∧0≤aD j (es.map J6.ls)∧aD j (es.map J6.ls)≤(j:Int)*16000000000000*512) (fun _ i _ =>9-(RowKit.intOf i).toNat)
     case atStart=>exact⟨0,y,by omega,rfl,rfl,rfl,A8.self _,Int.le_refl _,Int.le_refl _⟩
     case round=>
      obtain⟨j,z,hj,rfl,rfl,rfl,hz,hb1,hb2⟩:=hrel;have HMz:=A3 (HM.out.to hz);have HZ:=A3 hz;clear hz;by_cases hlt:j<9
      ·have BD1:(j:Int)<9:=by omega
       have hj0:(0:Int)≤(j:Int):=by omega
       have hcall:=wV wB z.w (A7.self z.w) g 10 v es HMz.out HOk.out (j:Int) 4294943999 (fun e he=>by rw[Htm.out e he];decide) (by omega) (by decide);rw[show(A7.self z.w).w=z.w from rfl]at hcall;have hbd:=wU (j:Int) (es.map J6.ls) (fun e he=>by obtain⟨e',he',rfl⟩:=List.mem_map.1 he;exact⟨HOk.out.m e' he',HOk.out.b e' he'⟩);rw[List.length_map]at hbd;have hb3:=Hf.out.2.2 j hlt;have hb4:S1 (j:Int) (es.map J6.ls)≤16000000000000*512:=by have:=HOk.out.n;omega
       have Hst:=A3 (show aD (j+1) (es.map J6.ls)=aD j (es.map J6.ls)+S1 (j:Int) (es.map J6.ls)from rfl);clear hbd;generalize aD j (es.map J6.ls)=s at *;generalize S1 (j:Int) (es.map J6.ls)=d at *;have hd0:¬d<0:=by omega
       go_wp2_with(go_at_call 29;(with_reducible refine hcall.mono ?_);clear hcall;rintro _ _ ⟨rfl,z2,rfl⟩);obtain⟨z3,e3⟩:=z.trans z2;have Hz3:=A3 (A8.trans HZ.out (A8.of z2));rw[e3]at Hz3⊢;go_roundw
       case rel=>exact⟨j+1,z3,by omega,by rw[Hst.out],by go_num,rfl,Hz3.out,by rw[Hst.out];omega,by rw[Hst.out];omega⟩
       case measure=>simp[RowKit.intOf];omega
      ·obtain rfl:j=9:=by omega
       have hcall:=wV wB z.w (A7.self z.w) g 10 v es HMz.out HOk.out 9 4294943999 (fun e he=>by rw[Htm.out e he];decide) (by omega) (by decide);rw[show(A7.self z.w).w=z.w from rfl,Hf.out.2.1]at hcall;rw[Hf.out.1];clear hb1 hb2;go_wp2_with(first|(go_at_call 23;(with_reducible refine(HA.out _).mono ?_);rintro _ _ ⟨rfl,ya,rfl⟩)|(go_at_call 29;(with_reducible refine hcall.mono ?_);clear hcall;rintro _ _ ⟨rfl,z2,rfl⟩));first
        |exact HP.out _ (A8.trans HWd.out (A8.trans (A8.of z) (A8.trans (A8.of z2) ⟨ya,rfl⟩)))
        |(go_ret;exact HP.out _ (A8.trans HWd.out (A8.trans (A8.of z) (A8.trans (A8.of z2) ⟨ya,rfl⟩))))
end Go.Proofs.YtmmlmhnjjfnpnaaGreat
