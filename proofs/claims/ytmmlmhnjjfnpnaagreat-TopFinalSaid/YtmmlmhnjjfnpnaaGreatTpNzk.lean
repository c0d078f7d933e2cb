/- Texts that belong together. -/
import Derived.Test.YtmmlmhnjjfnpnaaGreatTpNzj
set_option linter.all false
namespace Go.Proofs.YtmmlmhnjjfnpnaaGreat
open Go.RowKit
set_option maxRecDepth 200000 in
set_option maxHeartbeats 64000000 in
theorem xQ (w:World) (x:A6 w) (f:D5) (da ta:Option Addr) (dc tc:Nat) (hf:Y6 w f da ta) (p:E4) (ga pa la ka fa:Option Addr) (gc pc lc kc fc:Nat) (hp:dA w p ga pa la ka fa) (hz1:la=none→lc=0) (hz2:ka=none→kc=0) (l:List A8) (a:Option Addr) (c:Nat) (h:j3 w a l) (hl:l.length≤100000) (hI:∀r∈l,T4 r.pl):
 Calls Tryz.prog 19 #[.agg #[.int .i64 f.bk,.int .i64 f.rd,.int .i64 f.dv,.slice da f.dk.length dc,.slice ta f.tk.length tc],.agg #[.slice ga p.tr.length gc,.slice pa p.ps.length pc,.slice la p.pl.length lc,.slice ka p.dk.length kc,.int .i64 p.cap,.slice fa p.fn.length fc,.int .i64 p.fd],.slice a l.length c,.slice none 0 0] x.w (jM w f p l):=by
 have HPE:=A2 (fun(wi:World) (hs:A7 w wi) (e:Int) (u:Nat→Int) (h:jI f p l u=e) (hu:i6 f p=0→S4 l=0→S5 p.ps (M5 l) u) (he:e≠0)=>show jM w f p l (.returned (.tuple #[.slice none 0 0,.int .i64 e])) wi from by
  obtain⟨y,rfl⟩:=hs;exact⟨_,e,y,u,rfl,rfl,h.symm,hu,.inl ⟨he,rfl⟩⟩)
 have HPG:=A2 (fun(wi:World) (hs:A7 w wi) (v:Value) (u:Nat→Int) (F:List I1) (h:jI f p l u=0) (hu:S5 p.ps (M5 l) u) (hF:xN wi w.heap.size p l u v F)=>show jM w f p l (.returned (.tuple #[v,.int .i64 0])) wi from by
  obtain⟨y,rfl⟩:=hs;exact⟨v,0,y,u,rfl,rfl,h.symm,fun _ _ =>hu,.inr ⟨rfl,F,hF⟩⟩)
 generalize jM w f p l=PO at *;have HF:=A2 hf;have HA:=A2 hp;have HR:=A2 h;have HI:=A2 hI;have Hz1:=A2 hz1;have Hz2:=A2 hz2;have HfE:=A2 (fun(u:Nat→Int)=>show jI f p l u=if i6 f p≠0 then i6 f p else if S4 l≠0 then S4 l else Z6 p (M5 l) u (M5 l).length from rfl);clear hf hp h hI hz1 hz2;go_enter Tryz.func19,Tryz.ntmps19;go_upto_region 1 with fail;obtain⟨W,bx,y0,hW,hbx,-,B8,Hup,Hbx,HB0,HB1,HB2⟩:=AJ0 x (([.int .i64 f.bk,.int .i64 f.rd,.int .i64 f.dv,.slice da f.dk.length dc,.slice ta f.tk.length tc]:List Value)) 24 (([.slice ga p.tr.length gc,.slice pa p.ps.length pc,.slice la p.pl.length lc,.slice ka p.dk.length kc,.int .i64 p.cap,.slice fa p.fn.length fc,.int .i64 p.fd]:List Value)) 53 ([Value.slice none 0 0]) 128;rw[hW,hbx];clear hW hbx;have hB0:=fun y:A6 W=>HB0.since y;have hB1:=fun y:A6 W=>HB1.since y;have hB2:=fun y:A6 W=>HB2.since y;clear HB0 HB1 HB2;have HBf:=A2 (hB0 y0);have HBp:=A2 (hB1 y0);have HBv:=A2 (hB2 y0);have HWa:=A2 (show A7 w y0.w from Hup.out y0);clear hB0 hB1 hB2 B8;generalize y0.w=wa at *;have c0:wa.cell? ⟨bx,0,none⟩=some (.int .i64 f.bk):=HBf.out.c 0 _ rfl;have c1:wa.cell? ⟨bx,1,none⟩=some (.int .i64 f.rd):=HBf.out.c 1 _ rfl;have c2:wa.cell? ⟨bx,2,none⟩=some (.int .i64 f.dv):=HBf.out.c 2 _ rfl;have c3:wa.cell? ⟨bx,3,none⟩=some (.slice da f.dk.length dc):=HBf.out.c 3 _ rfl;have c4:wa.cell? ⟨bx,4,none⟩=some (.slice ta f.tk.length tc):=HBf.out.c 4 _ rfl;have d0:wa.cell? ⟨bx+1,0,none⟩=some (.slice ga p.tr.length gc):=HBp.out.c 0 _ rfl;have d1:wa.cell? ⟨bx+1,1,none⟩=some (.slice pa p.ps.length pc):=HBp.out.c 1 _ rfl;have d2:wa.cell? ⟨bx+1,2,none⟩=some (.slice la p.pl.length lc):=HBp.out.c 2 _ rfl;have d3:wa.cell? ⟨bx+1,3,none⟩=some (.slice ka p.dk.length kc):=HBp.out.c 3 _ rfl;have d4:wa.cell? ⟨bx+1,4,none⟩=some (.int .i64 p.cap):=HBp.out.c 4 _ rfl;have d5:wa.cell? ⟨bx+1,5,none⟩=some (.slice fa p.fn.length fc):=HBp.out.c 5 _ rfl;have d6:wa.cell? ⟨bx+1,6,none⟩=some (.int .i64 p.fd):=HBp.out.c 6 _ rfl;have hcall:=Bj3 wa (A6.self wa) f da ta dc tc (HF.out.to HWa.out) p ga pa la ka fa gc pc lc kc fc (HA.out.to HWa.out) Hz1.out Hz2.out;rw[show(A6.self wa).w=wa from rfl]at hcall;obtain⟨pe,hpe⟩:∃e,i6 f p=e:=⟨_,rfl⟩
 rw[hpe]at hcall;have Hpe:=A2 hpe;by_cases h0:pe≠0
 ·have hb:(pe != 0)=true:=by simpa using h0
  have HE:=A2 ((HfE.out (fun _ =>0)).trans ((if_pos (by rw[hpe];exact h0)).trans hpe));have H0:=A2 h0;clear h0 hpe;go_wp2_with(go_at_call 47;(with_reducible refine hcall.mono ?_);clear hcall;rintro _ _ ⟨rfl,y1,rfl⟩);exact HPE.out _ (A7.trans HWa.out ⟨y1,rfl⟩) pe _ HE.out (fun h=>absurd (Hpe.out.symm.trans h) H0.out) H0.out
 replace h0:pe=0:=Decidable.of_not_not h0;subst h0;clear hpe;replace HfE:=A2 (fun u=>(HfE.out u).trans (if_neg (by rw[Hpe.out];decide)));have Hok:=A2 (Bf1 Hpe.out).2;go_upto_region 4 with(go_at_call 47;(with_reducible refine hcall.mono ?_);clear hcall;rintro _ _ ⟨rfl,y1,rfl⟩)
 clear c0 c1 c2 c3 c4;clear d0 d1 d2 d3 d4 d5 d6;replace HBp:=A2 (HBp.out.since y1);replace HBv:=A2 (HBv.out.since y1);have HWb:=A2 (A7.trans HWa.out ⟨y1,rfl⟩);clear HBf HWa;generalize y1.w=wb at *;have hcall:=Bj6 wb (A6.self wb) a l c (HR.out.to HWb.out) (by omega);rw[show(A6.self wb).w=wb from rfl]at hcall;obtain⟨re,hre⟩:∃e,S4 l=e:=⟨_,rfl⟩
 rw[hre]at hcall;have Hre:=A2 hre;by_cases h0:re≠0
 ·have hb:(re != 0)=true:=by simpa using h0
  have HE:=A2 ((HfE.out (fun _ =>0)).trans ((if_pos (by rw[hre];exact h0)).trans hre));have H0:=A2 h0;clear h0 hre;go_wp2_with(go_at_call 48;(with_reducible refine hcall.mono ?_);clear hcall;rintro _ _ ⟨rfl,y1,rfl⟩);exact HPE.out _ (A7.trans HWb.out ⟨y1,rfl⟩) re _ HE.out (fun _ h=>absurd (Hre.out.symm.trans h) H0.out) H0.out
 replace h0:re=0:=Decidable.of_not_not h0;subst h0;clear hre;replace HfE:=A2 (fun u=>(HfE.out u).trans (if_neg (by rw[Hre.out];decide)));have Hcn:=A2 (Bp1 Hre.out);go_upto_region 7 with(go_at_call 48;(with_reducible refine hcall.mono ?_);clear hcall;rintro _ _ ⟨rfl,y1,rfl⟩)
 replace HBp:=A2 (HBp.out.since y1);replace HBv:=A2 (HBv.out.since y1);have HWc:=A2 (A7.trans HWb.out ⟨y1,rfl⟩);clear HWb;generalize y1.w=wc at *;have v0:wc.cell? ⟨bx+2,0,none⟩=some (.slice none 0 0):=HBv.out.c 0 _ rfl;have hcall:=Bn8 wc (A6.self wc);rw[show(A6.self wc).w=wc from rfl]at hcall;go_upto_region 10 with(go_at_call 49;(with_reducible refine hcall.mono ?_);clear hcall;rintro _ _ ⟨rfl,y1,rfl⟩)
 clear v0;replace HBp:=A2 (HBp.out.since y1);replace HBv:=A2 (HBv.out.since y1);have HWd:=A2 (A7.trans HWc.out ⟨y1,rfl⟩);clear HWc;generalize y1.w=wd at *;have HRd:=A2 (HR.out.to HWd.out);go_wp2_with fail;go_loopw [13,49] (fun v i wr=>∃(k:Nat) (y:A6 wd),k≤l.length∧i= .int .i64 k∧wr=y.w∧y.w.ownsRow wd.heap.size 40 13 v ((l.take k).filter fun r=>!r.op).length (B6 A8.cs ((l.take k).filter fun r=>!r.op))) (fun _ i _ =>l.length-(intOf i).toNat)
 case atStart=>exact⟨0,A6.self wd,by omega,rfl,rfl,rfl,.inl ⟨rfl,rfl⟩⟩
 case round=>
  obtain⟨k,y,hk,rfl,rfl,hown⟩:=hrel;obtain⟨a2,n2,c2,rfl⟩:=G5 hown;have F5:=A2 hown;clear hown;by_cases hlt:k<l.length
  ·obtain⟨r,hr⟩:∃r,l[k]? =some r:=⟨_,A3 hlt⟩
   obtain⟨b1,off1,rfl,h1'⟩:=D0.ride HRd.out.c hr;have ra0:=h1'.c0;have ra1:=h1'.c1;have ra2:=h1'.c2;have ra3:=h1'.c3;have ra4:=h1'.c4;have ra5:=h1'.c5;have ra6:=h1'.c6;have ra7:=h1'.c7;have ra8:=h1'.c8;have ra9:=h1'.c9;have ra10:=h1'.c10;have ra11:=h1'.c11;have ra12:=h1'.c12;have hk0:(0:Int)≤(k:Int):=by omega
   have hkl:(k:Int)<(l.length:Int):=by omega
   have Htk:=A2 (show l.take (k+1)=l.take k ++ [r]from by rw[List.take_succ_eq_append_getElem hlt,(A4 hr).2]);have Hl2:=A2 (show((l.take k).filter fun r=>!r.op).length≤100000 from Nat.le_trans (List.length_filter_le _ _) (by rw[List.length_take];omega));clear h1' hr;have ra6':=ra6;obtain⟨op,hop⟩:∃op,r.op=op:=⟨_,rfl⟩
   rw[hop]at ra6;clear ra6'
   cases op with
   |true=>
    have HE:=A2 (show(l.take (k+1)).filter (fun r=>!r.op)=(l.take k).filter (fun r=>!r.op)from by rw[Htk.out,List.filter_append];simp[hop])
    clear hop
    go_upto_region 14 with fail
    obtain⟨y2,e2,C5,hsz0,hlt0,HX0⟩:=L9 y [.int .i64 r.id,.int .i64 r.rd,.int .i64 r.s0,.int .i64 r.s1,.int .i64 r.e0,.int .i64 r.e1,.bool true,.slice r.la r.legs.length r.lc,.slice r.pa r.pauses.length r.pc,.int .i64 r.fw,.int .i64 r.fp,.int .i64 r.wh,.int .i64 r.pl] 40
    rw[e2]
    obtain⟨hx0,hx1,hx2,hx3,hx4,hx5,hx6,hx7,hx8,hx9,dF,dG,dH,hxf⟩:=bU HX0
    (replace F5:=A2 (I6 F5.out C5))
    clear e2 C5
    generalize y.w.heap.size=g at *
    obtain⟨E9,G1,J4,I9,M8,O9,S2,S9,T0,aH,aB,aC,aD,G8⟩:=P8 HX0
    have I5:=A2 (And.intro hsz0 hlt0)
    clear hlt0 hsz0 HX0
    go_wp2_with fail
    go_roundw
    case rel=>exact⟨k+1,y2,by omega,by go_num,rfl,by rw[HE.out];exact F5.out⟩
    case measure=>simp[intOf];omega
   |false=>
    have HE:=A2 (show(l.take (k+1)).filter (fun r=>!r.op)=(l.take k).filter (fun r=>!r.op) ++ [r]from by rw[Htk.out,List.filter_append];simp[hop])
    have Hcs:=A2 (show([.int .i64 r.id,.int .i64 r.rd,.int .i64 r.s0,.int .i64 r.s1,.int .i64 r.e0,.int .i64 r.e1,.bool false,.slice r.la r.legs.length r.lc,.slice r.pa r.pauses.length r.pc,.int .i64 r.fw,.int .i64 r.fp,.int .i64 r.wh,.int .i64 r.pl]:List Value)=r.cs from by unfold A8.cs;rw[hop])
    clear hop
    generalize((l.take k).filter fun r=>!r.op)=C0 at *
    go_upto_region 14 with fail
    obtain⟨y2,e2,C5,hsz0,hlt0,HX0⟩:=L9 y [.int .i64 r.id,.int .i64 r.rd,.int .i64 r.s0,.int .i64 r.s1,.int .i64 r.e0,.int .i64 r.e1,.bool false,.slice r.la r.legs.length r.lc,.slice r.pa r.pauses.length r.pc,.int .i64 r.fw,.int .i64 r.fp,.int .i64 r.wh,.int .i64 r.pl] 40
    rw[e2]
    obtain⟨hx0,hx1,hx2,hx3,hx4,hx5,hx6,hx7,hx8,hx9,dF,dG,dH,hxf⟩:=bU HX0
    (replace F5:=A2 (I6 F5.out C5))
    clear e2 C5
    generalize y.w.heap.size=g at *
    obtain⟨E9,G1,J4,I9,M8,O9,S2,S9,T0,aH,aB,aC,aD,G8⟩:=P8 HX0
    have I5:=A2 (And.intro hsz0 hlt0)
    clear hlt0 hsz0 HX0
    go_wp2_with(at_builtin;(refine cP (w0:=wd) ?hw rfl _ _ 31 rfl wd.heap.size (Nat.le_refl _) ?hb 40 rI 136 wZ (.slice a2 n2 c2) C0.length (B6 A8.cs C0) rfl ?hown ⟨y2.w.heap.size,0,none⟩ 1 1 [.int .i64 r.id,.int .i64 r.rd,.int .i64 r.s0,.int .i64 r.s1,.int .i64 r.e0,.int .i64 r.e1,.bool false,.slice r.la r.legs.length r.lc,.slice r.pa r.pauses.length r.pc,.int .i64 r.fw,.int .i64 r.fp,.int .i64 r.wh,.int .i64 r.pl] rfl rfl (Z1 y2.w _ _) (by rw[Hcs.out];exact nN r) ?h63 ?hbytes ?_;rotate_right 1;intro v2 q2 hown4 _ hg4;have Q7:=A2 hown4;clear hown4 hg4))
    case hw=>exact A7.alloc (A7.of y2) _
    case hb=>have:=y2.b.size;simp;omega
    case hown=>exact fV F5.out
    case h63=>have:=Hl2.out;unfold maxLen;omega
    case hbytes=>have:=Hl2.out;omega
    go_wp2_with fail
    go_roundw
    case rel=>exact⟨k+1,q2,by omega,by go_num,rfl,by rw[HE.out,List.length_append,X7,X8,←Hcs.out];exact Q7.out⟩
    case measure=>simp[intOf];omega
  ·obtain rfl:k=l.length:=by omega
   rw[List.take_length]at F5;obtain⟨C,hC⟩:∃C,M5 l=C:=⟨_,rfl⟩
   have HC:=A2 hC;have hcall:=Bm4 y.w wd.heap.size _ _ _ F5.out (by have:=List.length_filter_le (fun r:A8=>!r.op) l;omega) Hcn.out.2.2.2;unfold As0 at hcall;rw[show lD (l.filter fun r=>!r.op)=C from hC]at hcall;rw[hC]at Hcn HfE HPG HPE;have HCl:=A2 (show(l.filter fun r=>!r.op).length=C.length from by rw[←hC];exact(jH _).length_eq.symm);clear hC hlt;rw[HCl.out]at hcall;clear HCl;have HYo:=A2 (fun b hb=>dI F5.out b hb);go_upto_region 18 with(go_at_call 50;(with_reducible refine hcall.mono ?_);clear hcall;rintro _ w2 ⟨rfl,hg2,ho2⟩;(have HG2:=A2 hg2);(have HO2:=A2 ho2);clear hg2 ho2)
   obtain⟨y2,hy2⟩:=y.grown HG2.out HYo.out;have HSe:=A2 (show A7 wd w2 from⟨y2,hy2⟩);clear hy2 HYo F5 HG2;obtain⟨_,ac,cc,hcc,_,hels,_,_⟩:=P2 A8.len (by decide) HO2.out;obtain⟨rfl,rfl,rfl⟩:a2=ac∧n2=C.length∧c2=cc:=by simpa using hcc
   have HCe:=A2 hels;clear hcc hels;replace HBp:=A2 (HBp.out.to HSe.out);replace HBv:=A2 (HBv.out.to HSe.out);replace HWd:=A2 (A7.trans HWd.out HSe.out);have HCr:=A2 (show j3 w2 a2 C from⟨HCe.out,fun r hr=>(HRd.out.r r (Hcn.out.2.1 r hr).2.2).to HSe.out⟩);clear HCe HRd HSe HO2;have d1:w2.cell? ⟨bx+1,1,none⟩=some (.slice pa p.ps.length pc):=HBp.out.c 1 _ rfl;have hcall:=AN7 w2 (A6.self w2) pa p.ps pc a2 C c2 (HA.out.to HWd.out).s HA.out.sl HCr.out (by have:=Hcn.out.1;omega);rw[show(A6.self w2).w=w2 from rfl]at hcall;have Hue:=A2 (show Y0 p.ps C=0 from by unfold Y0;rw[Hok.out.s,if_neg (by decide)];exact Hcn.out.2.2.1);unfold pY at hcall;rw[Hue.out]at hcall;go_upto_region 21 with(go_at_call 53;(with_reducible refine hcall.mono ?_);clear hcall;rintro _ _ ⟨ua,uc,us,y3,rfl,rfl,hur,huo⟩;(have HUr:=A2 hur);(have HUo:=A2 (huo.ok Hue.out));clear hur huo)
   clear d1;replace HBp:=A2 (HBp.out.since y3);replace HBv:=A2 (HBv.out.since y3);have HWe:=A2 (A7.trans HWd.out ⟨y3,rfl⟩);replace HCr:=A2 (HCr.out.to ⟨y3,rfl⟩);clear HWd Hue;generalize y3.w=we at *;go_wp2_with fail;go_loopw [18,19,20,21,75] (fun bv rv dv sv i wr=>∃(k:Nat) (y:A6 we) (L:List J5),k≤C.length∧i= .int .i64 k∧wr=y.w∧S7 y.w we.heap.size (R4 p C (B2 us) k L bv rv dv sv) L∧jL p C (B2 us) k L∧Z6 p C (B2 us) k=0) (fun _ _ _ _ i _ =>C.length-(intOf i).toNat)
   case atStart=>exact⟨0,A6.self we,[],by omega,rfl,rfl,Bp3 _ _ _ _ _,Bo6 _ _ _,rfl⟩
   case round=>
    obtain⟨k,y,L,hk,rfl,rfl,hF,hL,hB⟩:=hrel;obtain⟨ab,nb,cb,rfl⟩:=G5 (hF.r _ (A0 (nU p C (B2 us) k L _ _ _ _)));obtain⟨ar,nr,cr,rfl⟩:=G5 (hF.r _ (A0 (sB p C (B2 us) k L _ _ _ _)));obtain⟨ad,nd,cd,rfl⟩:=G5 (hF.r _ (A0 (sE p C (B2 us) k L _ _ _ _)));obtain⟨as',ns,cs',rfl⟩:=G5 (hF.r _ (A0 (sF p C (B2 us) k L _ _ _ _)));have HFm:=A2 hF;have HLo:=A2 hL;have HBi:=A2 hB;clear hF hL hB;by_cases hlt:k<C.length
    ·obtain⟨r,hr⟩:∃r,C[k]? =some r:=⟨_,A3 hlt⟩
     have HrA:=A2 (uL hr);have hrC:=A0 hr;obtain⟨q1,q2,q3⟩:=Hcn.out.2.1 r hrC;have Hiv:=A2 ((vQ r).2 ⟨q1,q2⟩);have HrI:=A2 (HI.out r q3);have BB4:=A2 (HCr.out.r r hrC);have Az5:=A2 (At1 q1);have Hrg:=A2 (pW (pV q1));have AB4:=A2 (Bp4 HUo.out.2 hlt);obtain⟨b1,off1,rfl,h1'⟩:=D0.ride HCr.out.c hr;have ra0:=h1'.c0;have ra1:=h1'.c1;have ra2:=h1'.c2;have ra3:=h1'.c3;have ra4:=h1'.c4;have ra5:=h1'.c5;have ra6:=h1'.c6;have ra7:=h1'.c7;have ra8:=h1'.c8;have ra9:=h1'.c9;have ra10:=h1'.c10;have ra11:=h1'.c11;have ra12:=h1'.c12;obtain⟨ub,uo,rfl,hub,huc⟩:=dY HUr.out (i:=k) (by rw[HUo.out.1];exact hlt);have hux:∀y:A6 we,y.w.cell? ⟨ub,uo+k,none⟩=some (.int .i64 (B2 us k)):=fun y=>A6.cell huc hub y;have hk0:(0:Int)≤(k:Int):=by omega
     have hkl:(k:Int)<(C.length:Int):=by omega
     have hkl2:(k:Int)<(us.length:Int):=by have:=HUo.out.1;omega
     have HnB:=A2 (show Z6 p C (B2 us) (k+1)=Z5 p r (B2 us k)from by show(if Z6 p C (B2 us) k≠0 then Z6 p C (B2 us) k else Z5 p (C1 C k) (B2 us k))= _;rw[if_neg (by rw[HBi.out];decide),HrA.out]);have Hlt:=A2 hlt;clear h1' hr hrC q1 q2 q3 hub huc hlt;obtain⟨uk,huk⟩:∃a,B2 us k=a:=⟨_,rfl⟩
     rw[huk]at hux AB4 HnB;have Huk:=A2 huk;clear huk;go_upto_region 26 with fail;have Bw9:=A2 (fun b (hb:∃x∈R4 p C (B2 us) k L (.slice ab nb cb) (.slice ar nr cr) (.slice ad nd cd) (.slice as' ns cs'),b∈ob x.v)=>(HFm.out.lt (.inl hb)).2);obtain⟨y2,e2,C5,hsz0,hlt0,HX0⟩:=L9 y [.int .i64 r.id,.int .i64 r.rd,.int .i64 r.s0,.int .i64 r.s1,.int .i64 r.e0,.int .i64 r.e1,.bool r.op,.slice r.la r.legs.length r.lc,.slice r.pa r.pauses.length r.pc,.int .i64 r.fw,.int .i64 r.fp,.int .i64 r.wh,.int .i64 r.pl] 40;rw[e2];obtain⟨hx0,hx1,hx2,hx3,hx4,hx5,hx6,hx7,hx8,hx9,dF,dG,dH,hxf⟩:=bU HX0;(replace HFm:=A2 (HFm.out.to C5))
     clear e2 C5;generalize y.w.heap.size=g at *;obtain⟨E9,G1,J4,I9,M8,O9,S2,S9,T0,aH,aB,aC,aD,G8⟩:=P8 HX0;have I5:=A2 (And.intro hsz0 hlt0);clear hlt0 hsz0 HX0;have Hgl:=A2 I5.out;have HFg:=Bw9;clear I5 hx0 hx1 hx2 hx3 hx4 hx5 hx6 hx7 hx8 hx9 dF dG dH hxf;have HBg:=A2 (show C3 y2.w g r.cs from⟨Hgl.out.2,fun j v hv=>by
      match j,hv with
      |0,hv=>rw[←Option.some.inj hv];exact E9 (A6.self y2.w)
      |1,hv=>rw[←Option.some.inj hv];exact G1 (A6.self y2.w)
      |2,hv=>rw[←Option.some.inj hv];exact J4 (A6.self y2.w)
      |3,hv=>rw[←Option.some.inj hv];exact I9 (A6.self y2.w)
      |4,hv=>rw[←Option.some.inj hv];exact M8 (A6.self y2.w)
      |5,hv=>rw[←Option.some.inj hv];exact O9 (A6.self y2.w)
      |6,hv=>rw[←Option.some.inj hv];exact S2 (A6.self y2.w)
      |7,hv=>rw[←Option.some.inj hv];exact S9 (A6.self y2.w)
      |8,hv=>rw[←Option.some.inj hv];exact T0 (A6.self y2.w)
      |9,hv=>rw[←Option.some.inj hv];exact aH (A6.self y2.w)
      |10,hv=>rw[←Option.some.inj hv];exact aB (A6.self y2.w)
      |11,hv=>rw[←Option.some.inj hv];exact aC (A6.self y2.w)
      |12,hv=>rw[←Option.some.inj hv];exact aD (A6.self y2.w)
      |j+13,hv=>simp[A8.cs]at hv,
      fun o=>G8 (A6.self y2.w) o⟩)
     have iA:=A2 ((HBp.out.since (A6.self we)).to (⟨y2,rfl⟩:∃z:A6 we,y2.w=z.w));have HSf:=A2 (fun(w':World) (hw:A7 y2.w w')=>show w'.cell? ⟨bx+1,0,none⟩=some (.slice ga p.tr.length gc)∧w'.cell? ⟨bx+1,1,none⟩=some (.slice pa p.ps.length pc)∧w'.cell? ⟨bx+1,2,none⟩=some (.slice la p.pl.length lc)∧w'.cell? ⟨bx+1,3,none⟩=some (.slice ka p.dk.length kc)∧w'.cell? ⟨bx+1,4,none⟩=some (.int .i64 p.cap)∧w'.cell? ⟨bx+1,5,none⟩=some (.slice fa p.fn.length fc)∧w'.cell? ⟨bx+1,6,none⟩=some (.int .i64 p.fd)∧w'.cell? ⟨g,0,none⟩=some (.int .i64 r.id)∧w'.cell? ⟨g,1,none⟩=some (.int .i64 r.rd)∧w'.cell? ⟨g,2,none⟩=some (.int .i64 r.s0)∧w'.cell? ⟨g,3,none⟩=some (.int .i64 r.s1)∧w'.cell? ⟨g,4,none⟩=some (.int .i64 r.e0)∧w'.cell? ⟨g,5,none⟩=some (.int .i64 r.e1)∧w'.cell? ⟨g,6,none⟩=some (.bool r.op)∧w'.cell? ⟨g,7,none⟩=some (.slice r.la r.legs.length r.lc)∧w'.cell? ⟨g,8,none⟩=some (.slice r.pa r.pauses.length r.pc)∧w'.cell? ⟨g,9,none⟩=some (.int .i64 r.fw)∧w'.cell? ⟨g,10,none⟩=some (.int .i64 r.fp)∧w'.cell? ⟨g,11,none⟩=some (.int .i64 r.wh)∧w'.cell? ⟨g,12,none⟩=some (.int .i64 r.pl)∧w'.cell? ⟨ub,uo+k,none⟩=some (.int .i64 uk)from⟨(iA.out.to hw).c 0 _ rfl,(iA.out.to hw).c 1 _ rfl,(iA.out.to hw).c 2 _ rfl,(iA.out.to hw).c 3 _ rfl,(iA.out.to hw).c 4 _ rfl,(iA.out.to hw).c 5 _ rfl,(iA.out.to hw).c 6 _ rfl,(HBg.out.to hw).c 0 _ rfl,(HBg.out.to hw).c 1 _ rfl,(HBg.out.to hw).c 2 _ rfl,(HBg.out.to hw).c 3 _ rfl,(HBg.out.to hw).c 4 _ rfl,(HBg.out.to hw).c 5 _ rfl,(HBg.out.to hw).c 6 _ rfl,(HBg.out.to hw).c 7 _ rfl,(HBg.out.to hw).c 8 _ rfl,(HBg.out.to hw).c 9 _ rfl,(HBg.out.to hw).c 10 _ rfl,(HBg.out.to hw).c 11 _ rfl,(HBg.out.to hw).c 12 _ rfl,A7.cell hux (A7.trans ⟨y2,rfl⟩ hw)⟩);have HWi:=A2 (show A7 w y2.w.drew from A7.trans HWe.out (A7.trans ⟨y2,rfl⟩ (A7.drew' (A7.self _))));have hcall:=Bl8 y2.w.drew (A6.self y2.w.drew) p ga pa la ka fa gc pc lc kc fc (HA.out.to HWi.out) Hok.out r (BB4.out.to (A7.trans ⟨y2,rfl⟩ (A7.drew' (A7.self _)))) Hiv.out HrI.out uk AB4.out;rw[show(A6.self y2.w.drew).w=y2.w.drew from rfl]at hcall;have HC1:=A2 hcall;clear hcall hux ra0 ra1 ra2 ra3 ra4 ra5 ra6 ra7 ra8 ra9 ra10 ra11 ra12 E9 G1 J4 I9 M8 O9 S2 S9 T0 aH aB aC aD G8;refine R0 (fun w'=>w'.cell? ⟨bx+1,0,none⟩=some (.slice ga p.tr.length gc)∧w'.cell? ⟨bx+1,1,none⟩=some (.slice pa p.ps.length pc)∧w'.cell? ⟨bx+1,2,none⟩=some (.slice la p.pl.length lc)∧w'.cell? ⟨bx+1,3,none⟩=some (.slice ka p.dk.length kc)∧w'.cell? ⟨bx+1,4,none⟩=some (.int .i64 p.cap)∧w'.cell? ⟨bx+1,5,none⟩=some (.slice fa p.fn.length fc)∧w'.cell? ⟨bx+1,6,none⟩=some (.int .i64 p.fd)∧w'.cell? ⟨g,0,none⟩=some (.int .i64 r.id)∧w'.cell? ⟨g,1,none⟩=some (.int .i64 r.rd)∧w'.cell? ⟨g,2,none⟩=some (.int .i64 r.s0)∧w'.cell? ⟨g,3,none⟩=some (.int .i64 r.s1)∧w'.cell? ⟨g,4,none⟩=some (.int .i64 r.e0)∧w'.cell? ⟨g,5,none⟩=some (.int .i64 r.e1)∧w'.cell? ⟨g,6,none⟩=some (.bool r.op)∧w'.cell? ⟨g,7,none⟩=some (.slice r.la r.legs.length r.lc)∧w'.cell? ⟨g,8,none⟩=some (.slice r.pa r.pauses.length r.pc)∧w'.cell? ⟨g,9,none⟩=some (.int .i64 r.fw)∧w'.cell? ⟨g,10,none⟩=some (.int .i64 r.fp)∧w'.cell? ⟨g,11,none⟩=some (.int .i64 r.wh)∧w'.cell? ⟨g,12,none⟩=some (.int .i64 r.pl)∧w'.cell? ⟨ub,uo+k,none⟩=some (.int .i64 uk)) 11 (by kernel_rfl) (HSf.out _ (A7.drew' (A7.self _))) (fun hS=>?_);refine tk 0 ?_ rfl (by kernel_rfl) hS (fun _ _ _ h=>h) ?_ ?_;rotate_left
     ·(intro w h;(try dsimp only at h);go_split_ands;go_simp;try with_reducible rfl)
     (try simp only[Act.put,B0])
     refine tk 1 ?_ rfl (by kernel_rfl) hS (fun _ _ _ h=>h) ?_ ?_;rotate_left
     ·(intro w h;(try dsimp only at h);go_split_ands;go_simp;try with_reducible rfl)
     (try simp only[Act.put,B0])
     refine tk 2 ?_ rfl (by kernel_rfl) hS (fun _ _ _ h=>h) ?_ ?_;rotate_left
     ·(intro w h;(try dsimp only at h);go_split_ands;go_simp;try with_reducible rfl)
     (try simp only[Act.put,B0])
     refine tk 3 ?_ rfl (by kernel_rfl) hS (fun _ _ _ h=>h) ?_ ?_;rotate_left
     ·(intro w h;(try dsimp only at h);go_split_ands;go_simp;try with_reducible rfl)
     (try simp only[Act.put,B0])
     refine tk 4 ?_ rfl (by kernel_rfl) hS (fun _ _ _ h=>h) ?_ ?_;rotate_left
     ·(intro w h;(try dsimp only at h);go_split_ands;go_simp;try with_reducible rfl)
     (try simp only[Act.put,B0])
     refine tk 5 ?_ rfl (by kernel_rfl) hS (fun _ _ _ h=>h) ?_ ?_;rotate_left
     ·(intro w h;(try dsimp only at h);go_split_ands;go_simp;try with_reducible rfl)
     (try simp only[Act.put,B0])
     refine G6 6 (by kernel_rfl) rfl fun K hK=>?_;(go_simp;(with_reducible refine HC1.out.mono ?_);rintro _ _ ⟨v5,y5,rfl,rfl,hv5⟩)
     refine E6 hK (HSf.out _ (A7.trans (A7.drew' (A7.self _)) ⟨y5,rfl⟩)) ?_;clear hK K hS;intro hS;(try simp only[Act.put,B0])
     have Hv5:=A2 hv5;clear hv5 HC1;refine tk 7 ?_ rfl (by kernel_rfl) hS (fun _ _ _ h=>h) ?_ ?_;rotate_left
     ·(intro w h;(try dsimp only at h);go_split_ands;go_simp;try with_reducible rfl)
     (try simp only[Act.put,B0])
     refine tk 8 ?_ rfl (by kernel_rfl) hS (fun _ _ _ h=>h) ?_ ?_;rotate_left
     ·(intro w h;(try dsimp only at h);go_split_ands;go_simp;try with_reducible rfl)
     (try simp only[Act.put,B0])
     refine tk 9 ?_ rfl (by kernel_rfl) hS (fun _ _ _ h=>h) ?_ ?_;rotate_left
     ·(intro w h;(try dsimp only at h);go_split_ands;go_simp;try with_reducible rfl)
     (try simp only[Act.put,B0])
     refine tk 10 ?_ rfl (by kernel_rfl) hS (fun _ _ _ h=>h) ?_ ?_;rotate_left
     ·(intro w h;(try dsimp only at h);go_split_ands;go_simp;try with_reducible rfl)
     (try simp only[Act.put,B0])
     refine G6 11 (by kernel_rfl) rfl fun K hK=>?_;go_simp;refine M0 hK (by kernel_rfl) ?_;clear hK K;(try clear hS)
     (try simp only[Act.put,B0])
     by_cases hbe:Z5 p r uk≠0
     ·have hb:(Z5 p r uk != 0)=true:=by simpa using hbe
      have HE:=A2 ((HfE.out (B2 us)).trans ((xC (k:=k+1) (by rw[HnB.out];exact hbe) C.length (by have:=Hlt.out;omega)).trans HnB.out));have H0:=A2 hbe;obtain rfl:v5= .pointer none:=by
       rcases Hv5.out with⟨_,h⟩|⟨h,_⟩
       ·exact h
       ·exact absurd h hbe
      clear hbe HnB Hv5;generalize Z5 p r uk=e at *;go_wp2_with fail;exact HPE.out y5.w (A7.trans HWi.out ⟨y5,rfl⟩) e (B2 us) HE.out (fun _ _ =>HUo.out.2) H0.out
     replace hbe:Z5 p r uk=0:=Decidable.of_not_not hbe;obtain⟨gn,va,rfl,hbm⟩:∃(gn:Nat) (va:Value),v5= .pointer (some ⟨gn,0,none⟩)∧o4 y5.w y2.w.drew.heap.size gn r.id r.rd va (L8 p r uk):=by
      rcases Hv5.out with⟨h,_⟩|⟨_,gn,va,h1,h2⟩
      ·exact absurd hbe h
      ·exact⟨gn,va,h1,h2⟩
     have aY:=A2 (HnB.out.trans hbe);have Hbm:=A2 hbm;clear hbm Hv5 HnB;have HF5:=A2 ((HFm.out.to (A7.drew' (A7.self _))).bill (w':=y5.w) ⟨y5,rfl⟩ (x:=⟨gn,va,r.id,r.rd,L8 p r uk⟩) Hbm.out (by show we.heap.size≤y2.w.heap.size;exact y2.b.size));have Ay1:=A2 (HBg.out.to (A7.trans (A7.drew' (A7.self _)) ⟨y5,rfl⟩));have HI5:=A2 (show A7 we y5.w from A7.trans ⟨y2,rfl⟩ (A7.trans (A7.drew' (A7.self _)) ⟨y5,rfl⟩));have Hyl:=A2 (show∀b,(∃x∈R4 p C (B2 us) k L (.slice ab nb cb) (.slice ar nr cr) (.slice ad nd cd) (.slice as' ns cs'),b∈ob x.v)→b<g from fun b hb=>by
      have h1:=(HFm.out.lt (.inl hb)).2;exact HFg.out b hb)
     clear HSf HFm iA HBg HWi;have aA:=A2 (HLo.out.next gn va);rw[HrA.out,Huk.out]at aA;generalize y5.w=w5 at *;go_upto_region 30 with(at_builtin;(refine fU (k:=1) (w0:=we) ?hwP rfl _ _ 135 rfl we.heap.size (Nat.le_refl _) ?hbP 136 (.pointer none) 8 Bo7 (.slice ab nb cb) k (bQ L) rfl ?BD1 ⟨w5.heap.size,0,none⟩ 1 1 [.pointer (some ⟨gn,0,none⟩)] rfl rfl (Z1 w5 [.pointer (some ⟨gn,0,none⟩)] _) (fun u hu=>by simp at hu;subst hu;rfl) (by decide) ?BB8 ?BC4 ?_;rotate_right 1;intro v6 q6 hown6 hg6 hl6;(obtain⟨ab2,nb2,cb2,rfl⟩:=G5 hown6);(have X2:=A2 hown6);(have Hg6:=A2 hg6);(have Hl6:=A2 hl6);clear hown6 hg6 hl6))
     case hwP=>exact A7.alloc HI5.out _
     case hbP=>have:=A7.size HI5.out;simp;omega
     case BD1=>exact fV (HF5.out.r _ (A0 (nU p C (B2 us) k L _ _ _ _)))
     case BB8=>have:=Hcn.out.1;have:=Hlt.out;unfold maxLen;omega
     case BC4=>have:=Hcn.out.1;have:=Hlt.out;omega
     have hpush:=HF5.out.push (i:=0) (nU p C (B2 us) k L _ _ _ _) (A7.alloc (A7.self _) _) X2.out Hg6.out Hl6.out;have HF6:=A2 hpush.1;have yH:=A2 (Ay1.out.keepS hpush.2 (fun hb=>by have:=Hyl.out g ⟨_,A0 (nU p C (B2 us) k L (.slice ab nb cb) (.slice ar nr cr) (.slice ad nd cd) (.slice as' ns cs')),hb⟩;omega));clear hpush;have HI6:=A2 (show A7 we q6.w from⟨q6,rfl⟩);clear HF5 Ay1 HI5 X2 Hg6 Hl6 Hbm;generalize q6.w=w6 at *;have HL':=A2 (show(L ++ [(⟨gn,va,r.id,r.rd,L8 p r uk⟩:J5)])[L.length]? =some ⟨gn,va,r.id,r.rd,L8 p r uk⟩from by rw[List.getElem?_append_right (Nat.le_refl _),Nat.sub_self];rfl);have Bx6:=A2 (HF6.out.bl _ (A0 HL'.out)).bx;obtain⟨tt,htt⟩:∃a,(L8 p r uk).tt=a:=⟨_,rfl⟩
     obtain⟨d,hd⟩:∃a,F8 r=a:=⟨_,rfl⟩
     have Htt:=A2 htt;have Hd:=A2 hd;have oP:=A2 (fun b (hb:b∈ob (Value.slice ar nr cr)∨b∈ob (Value.slice ad nd cd)∨b∈ob (Value.slice as' ns cs'))=>show b<g from by
      rcases hb with hb|hb|hb
      ·exact Hyl.out b ⟨_,A0 (sB p C (B2 us) k L (.slice ab nb cb) (.slice ar nr cr) (.slice ad nd cd) (.slice as' ns cs')),hb⟩
      ·exact Hyl.out b ⟨_,A0 (sE p C (B2 us) k L (.slice ab nb cb) (.slice ar nr cr) (.slice ad nd cd) (.slice as' ns cs')),hb⟩
      ·exact Hyl.out b ⟨_,A0 (sF p C (B2 us) k L (.slice ab nb cb) (.slice ar nr cr) (.slice ad nd cd) (.slice as' ns cs')),hb⟩)
     have Hrw:=A2 (fun b (hb:b∈ob (Value.slice ar nr cr)∨b∈ob (Value.slice ad nd cd)∨b∈ob (Value.slice as' ns cs'))=>show∃x∈(R4 p C (B2 us) k L (.slice ab nb cb) (.slice ar nr cr) (.slice ad nd cd) (.slice as' ns cs')).set 0 ⟨136,1,.slice ab2 nb2 cb2,k+1,bQ L ++ [.pointer (some ⟨gn,0,none⟩)]⟩,b∈ob x.v from by
      rcases hb with hb|hb|hb
      ·exact⟨⟨3,1,.slice ar nr cr,k,(K5 C k).map (Value.int .i64)⟩,by simp[R4],hb⟩
      ·exact⟨⟨3,1,.slice ad nd cd,k,(I2 C k).map (Value.int .i64)⟩,by simp[R4],hb⟩
      ·exact⟨⟨3,1,.slice as' ns cs',k,(H7 p C (B2 us) k).map (Value.int .i64)⟩,by simp[R4],hb⟩)
     have Hgn:=A2 (fun hb=>by obtain⟨x,h1,h2⟩:=Hrw.out gn hb;exact HF6.out.rb x h1 _ (A0 HL'.out) gn h2 (List.mem_cons_self ..));have HSf:=A2 (fun(w':World) (hk:B7 (fun b=>b∈ob (Value.slice ar nr cr)∨b∈ob (Value.slice ad nd cd)∨b∈ob (Value.slice as' ns cs')) w6 w')=>show w'.cell? ⟨g,1,none⟩=some (.int .i64 r.rd)∧w'.cell? ⟨g,2,none⟩=some (.int .i64 r.s0)∧w'.cell? ⟨gn,3,none⟩=some (.int .i64 (L8 p r uk).tt)from⟨(yH.out.keepS hk (fun hb=>by have:=oP.out g hb;omega)).c 1 _ rfl,(yH.out.keepS hk (fun hb=>by have:=oP.out g hb;omega)).c 2 _ rfl,(Bx6.out.keepS hk Hgn.out).c 3 _ rfl⟩);have HIf:=A2 (fun(w':World) (hk:B7 (fun b=>b∈ob (Value.slice ar nr cr)∨b∈ob (Value.slice ad nd cd)∨b∈ob (Value.slice as' ns cs')) w6 w')=>HF6.out.since HI6.out hk (fun b hb=>.inl (Hrw.out b hb)));have Hkn:=A2 (show k≤256 from by have:=Hcn.out.1;have:=Hlt.out;omega);have yN:=A2 (show g<w6.heap.size from yH.out.lt);have hq1:r.s0/86400=d:=hd;have hs0:0≤r.s0:=Hrg.out.2.2.2.2.1;have hq2:IntKind.i64.wrap d=d:=IntWalk.i64_in _ ⟨by rw[←hd];have:=Az5.out;omega,by rw[←hd];have:=Az5.out;omega⟩;have hq3:Int.tdiv r.s0 86400=d:=by rw[←hd];exact Int.tdiv_eq_ediv_of_nonneg hs0
     have HK6:=A2 (B7.refl (fun b=>b∈ob (Value.slice ar nr cr)∨b∈ob (Value.slice ad nd cd)∨b∈ob (Value.slice as' ns cs')) w6);have HKd:=A2 (HK6.out.to (A7.drew' (A7.self _)));have HT:=A2 (St.mk (HF6.out.to (A7.drew' (A7.self _))) HKd.out);have HlR:=A2 (fun b (hb:b∈ob (Value.slice ar nr cr))=>show b<w6.heap.size from by have h1:=oP.out b (.inl hb);have h2:=yN.out;omega);have HlD:=A2 (fun b (hb:b∈ob (Value.slice ad nd cd))=>show b<w6.heap.size from by have h1:=oP.out b (.inr (.inl hb));have h2:=yN.out;omega);have HlS:=A2 (fun b (hb:b∈ob (Value.slice as' ns cs'))=>show b<w6.heap.size from by have h1:=oP.out b (.inr (.inr hb));have h2:=yN.out;omega);rw[htt]at HSf;clear htt hd HK6;refine R0 (fun w'=>w'.cell? ⟨g,1,none⟩=some (.int .i64 r.rd)∧w'.cell? ⟨g,2,none⟩=some (.int .i64 r.s0)∧w'.cell? ⟨gn,3,none⟩=some (.int .i64 tt)) 22 (by kernel_rfl) (HSf.out _ HKd.out) (fun hS=>?_);refine tk 0 ?_ rfl (by kernel_rfl) hS (fun _ _ _ h=>h) ?_ ?_;rotate_left
     ·(intro w h;(try dsimp only at h);go_split_ands;go_simp;try with_reducible rfl)
     (try simp only[Act.put,B0])
     refine tk 1 ?_ rfl (by kernel_rfl) hS (fun _ _ _ h=>h) ?_ ?_;rotate_left
     ·(intro w h;(try dsimp only at h);go_split_ands;go_simp;try with_reducible rfl)
     (try simp only[Act.put,B0])
     refine tk 2 ?_ rfl (by kernel_rfl) hS (fun _ _ _ h=>h) ?_ ?_;rotate_left
     ·(intro w h;(try dsimp only at h);go_split_ands;go_simp;try with_reducible rfl)
     (try simp only[Act.put,B0])
     refine tk 5 ?_ rfl (by kernel_rfl) hS (fun _ _ _ h=>h) ?_ ?_;rotate_left
     ·(intro w h;(try dsimp only at h);go_split_ands;go_simp;try with_reducible rfl)
     (try simp only[Act.put,B0])
     refine tk 6 ?_ rfl (by kernel_rfl) hS (fun _ _ _ h=>h) ?_ ?_;rotate_left
     ·(intro w h;(try dsimp only at h);go_split_ands;go_simp;try with_reducible rfl)
     (try simp only[Act.put,B0])
     refine tk 7 ?_ rfl (by kernel_rfl) hS (fun _ _ _ h=>h) ?_ ?_;rotate_left
     ·(intro w h;(try dsimp only at h);go_split_ands;go_simp;try with_reducible rfl)
     (try simp only[Act.put,B0])
     refine tk 8 ?_ rfl (by kernel_rfl) hS (fun _ _ _ h=>h) ?_ ?_;rotate_left
     ·(intro w h;(try dsimp only at h);go_split_ands;go_simp;try with_reducible rfl)
     (try simp only[Act.put,B0])
     refine tk 9 ?_ rfl (by kernel_rfl) hS (fun _ _ _ h=>h) ?_ ?_;rotate_left
     ·(intro w h;(try dsimp only at h);go_split_ands;go_simp;try with_reducible rfl)
     (try simp only[Act.put,B0])
     refine tk 12 ?_ rfl (by kernel_rfl) hS (fun _ _ _ h=>h) ?_ ?_;rotate_left
     ·(intro w h;(try dsimp only at h);go_split_ands;go_simp;try with_reducible rfl)
     (try simp only[Act.put,B0])
     refine tk 13 ?_ rfl (by kernel_rfl) hS (fun _ _ _ h=>h) ?_ ?_;rotate_left
     ·(intro w h;(try dsimp only at h);go_split_ands;go_simp;try with_reducible rfl)
     (try simp only[Act.put,B0])
     refine tk 14 ?_ rfl (by kernel_rfl) hS (fun _ _ _ h=>h) ?_ ?_;rotate_left
     ·(intro w h;(try dsimp only at h);go_split_ands;go_simp;try with_reducible rfl)
     (try simp only[Act.put,B0])
     refine tk 15 ?_ rfl (by kernel_rfl) hS (fun _ _ _ h=>h) ?_ ?_;rotate_left
     ·(intro w h;(try dsimp only at h);go_split_ands;go_simp;try with_reducible rfl)
     (try simp only[Act.put,B0])
     refine tk 16 ?_ rfl (by kernel_rfl) hS (fun _ _ _ h=>h) ?_ ?_;rotate_left
     ·(intro w h;(try dsimp only at h);go_split_ands;go_simp;try with_reducible rfl)
     (try simp only[Act.put,B0])
     refine tk 17 ?_ rfl (by kernel_rfl) hS (fun _ _ _ h=>h) ?_ ?_;rotate_left
     ·(intro w h;(try dsimp only at h);go_split_ands;go_simp;try with_reducible rfl)
     (try simp only[Act.put,B0])
     generalize w6.drew=wd at *;(
      refine As8 (i:=3) (j:=10) (k:=18) (by kernel_rfl) rfl rfl rfl (fun K hK=>?_) (fun K hK=>?_) (fun K hK=>?_)
      ·go_simp
       refine E6 hK (HSf.out _ (HT.out.al _).k) ?_;clear hK K hS;intro hS;(try simp only[Act.put,B0])
       have HXR:=A2 (HT.out.bx [.int .i64 r.rd] 3);replace HT:=A2 (HT.out.al (.cells #[.int .i64 r.rd] 3));generalize wd.heap.size=gxR at *;generalize wd.alloc (.cells #[.int .i64 r.rd] 3)=w7 at *;refine As8 (i:=4) (j:=10) (k:=18) (by kernel_rfl) rfl rfl rfl (fun K hK=>?_) (fun K hK=>?_) (fun K hK=>?_)
       ·refine L6 (w0:=we) (k:=1) (HIf.out _ HT.out.k) rfl _ _ 22 rfl we.heap.size (Nat.le_refl _) (A7.size (HIf.out _ HT.out.k)) 3 (.int .i64 0) 8 K8 (.slice ar nr cr) k ((K5 C k).map (Value.int .i64)) rfl (HT.out.f.r ⟨3,1,(.slice ar nr cr),k,((K5 C k).map (Value.int .i64))⟩ (by simp[R4])) ⟨gxR,0,none⟩ 1 1 [.int .i64 r.rd] rfl rfl (M7 HXR.out) (fun u hu=>by simp at hu;subst hu;rfl) (by decide) (by have:=Hkn.out;unfold maxLen;omega) (by have:=Hkn.out;omega) ?_
        intro v' q hown hg hl;obtain⟨ar2,nr2,cr2,rfl⟩:=G5 hown;replace HT:=A2 (HT.out.push (i:=1) (x:=⟨3,1,(.slice ar nr cr),k,((K5 C k).map (Value.int .i64))⟩) rfl hown hg hl (fun b hb=>.inl hb));refine E6 hK (HSf.out _ HT.out.k) ?_;clear hK K hS;intro hS;(try simp only[Act.put,B0])
        clear hown hg hl HXR;generalize q.w=w8 at *;refine eO (i:=10) (j:=18) (by kernel_rfl) rfl rfl (fun K hK=>?_) (fun K hK=>?_)
        ·go_simp
         refine E6 hK (HSf.out _ (HT.out.al _).k) ?_;clear hK K hS;intro hS;(try simp only[Act.put,B0])
         have HXD:=A2 (HT.out.bx [.int .i64 d] 3);replace HT:=A2 (HT.out.al (.cells #[.int .i64 d] 3));generalize w8.heap.size=gxD at *;generalize w8.alloc (.cells #[.int .i64 d] 3)=w9 at *;refine eO (i:=11) (j:=18) (by kernel_rfl) rfl rfl (fun K hK=>?_) (fun K hK=>?_)
         ·refine L6 (w0:=we) (k:=1) (HIf.out _ HT.out.k) rfl _ _ 22 rfl we.heap.size (Nat.le_refl _) (A7.size (HIf.out _ HT.out.k)) 3 (.int .i64 0) 8 K8 (.slice ad nd cd) k ((I2 C k).map (Value.int .i64)) rfl (HT.out.f.r ⟨3,1,(.slice ad nd cd),k,((I2 C k).map (Value.int .i64))⟩ (by simp[R4])) ⟨gxD,0,none⟩ 1 1 [.int .i64 d] rfl rfl (M7 HXD.out) (fun u hu=>by simp at hu;subst hu;rfl) (by decide) (by have:=Hkn.out;unfold maxLen;omega) (by have:=Hkn.out;omega) ?_
          intro v' q hown hg hl;obtain⟨ad2,nd2,cd2,rfl⟩:=G5 hown;replace HT:=A2 (HT.out.push (i:=2) (x:=⟨3,1,(.slice ad nd cd),k,((I2 C k).map (Value.int .i64))⟩) rfl hown hg hl (fun b hb=>.inr (.inl hb)));refine E6 hK (HSf.out _ HT.out.k) ?_;clear hK K hS;intro hS;(try simp only[Act.put,B0])
          clear hown hg hl HXD;generalize q.w=w10 at *;refine M3 (i:=18) (by kernel_rfl) rfl (fun K hK=>?_);go_simp;refine E6 hK (HSf.out _ (HT.out.al _).k) ?_;clear hK K hS;intro hS;(try simp only[Act.put,B0])
          have HXS:=A2 (HT.out.bx [.int .i64 tt] 3);replace HT:=A2 (HT.out.al (.cells #[.int .i64 tt] 3));generalize w10.heap.size=gxS at *;generalize w10.alloc (.cells #[.int .i64 tt] 3)=w11 at *;refine M3 (i:=19) (by kernel_rfl) rfl (fun K hK=>?_);refine L6 (w0:=we) (k:=1) (HIf.out _ HT.out.k) rfl _ _ 22 rfl we.heap.size (Nat.le_refl _) (A7.size (HIf.out _ HT.out.k)) 3 (.int .i64 0) 8 K8 (.slice as' ns cs') k ((H7 p C (B2 us) k).map (Value.int .i64)) rfl (HT.out.f.r ⟨3,1,(.slice as' ns cs'),k,((H7 p C (B2 us) k).map (Value.int .i64))⟩ (by simp[R4])) ⟨gxS,0,none⟩ 1 1 [.int .i64 tt] rfl rfl (M7 HXS.out) (fun u hu=>by simp at hu;subst hu;rfl) (by decide) (by have:=Hkn.out;unfold maxLen;omega) (by have:=Hkn.out;omega) ?_;intro v' q hown hg hl;obtain⟨as2,ns2,cs2,rfl⟩:=G5 hown;replace HT:=A2 (HT.out.push (i:=3) (x:=⟨3,1,(.slice as' ns cs'),k,((H7 p C (B2 us) k).map (Value.int .i64))⟩) rfl hown hg hl (fun b hb=>.inr (.inr hb)));refine E6 hK (HSf.out _ HT.out.k) ?_;clear hK K hS;intro hS;(try simp only[Act.put,B0])
          clear hown hg hl HXS;generalize q.w=w12 at *;refine tk 20 ?_ rfl (by kernel_rfl) hS (fun _ _ _ h=>h) ?_ ?_;rotate_left
          ·(intro w h;(try dsimp only at h);go_split_ands;go_simp;try with_reducible rfl)
          (try simp only[Act.put,B0])
          refine tk 21 ?_ rfl (by kernel_rfl) hS (fun _ _ _ h=>h) ?_ ?_;rotate_left
          ·(intro w h;(try dsimp only at h);go_split_ands;go_simp;try with_reducible rfl)
          (try simp only[Act.put,B0])
          refine G6 22 (by kernel_rfl) rfl fun K hK=>?_;go_simp;refine M0 hK (by kernel_rfl) ?_;clear hK K;(try clear hS)
          (try simp only[Act.put,B0])
          have S1:=A2 (HIf.out _ HT.out.k);have E8:=HT.out.f;simp only[R4,List.set_cons_zero,List.set_cons_succ]at E8;rw[←Htt.out,←Huk.out,←Hd.out]at E8;rw[aX p C (B2 us) k L _ _ _ _ gn va HrA.out,Huk.out]at E8;have HFe:=A2 E8;clear E8 HT;have bC:=Hcn.out.1;have hlt:=Hlt.out;go_wp2_with fail;go_roundw
          case rel=>obtain⟨y9,e9⟩:=S1.out;exact⟨k+1,y9,_,Hlt.out,by go_num,e9,e9 ▸ HFe.out,aA.out,aY.out⟩
          case measure=>have:=Hlt.out;simp[intOf];omega
         ·go_simp
          refine E6 hK (HSf.out _ (HT.out.al _).k) ?_;clear hK K hS;intro hS;(try simp only[Act.put,B0])
          have HXS:=A2 (HT.out.bx [.int .i64 tt] 3);replace HT:=A2 (HT.out.al (.cells #[.int .i64 tt] 3));replace HXD:=A2 (V4 HXD.out (.cells #[.int .i64 tt] 3));generalize w9.heap.size=gxS at *;generalize w9.alloc (.cells #[.int .i64 tt] 3)=w10 at *;refine M3 (i:=11) (by kernel_rfl) rfl (fun K hK=>?_);refine L6 (w0:=we) (k:=1) (HIf.out _ HT.out.k) rfl _ _ 22 rfl we.heap.size (Nat.le_refl _) (A7.size (HIf.out _ HT.out.k)) 3 (.int .i64 0) 8 K8 (.slice ad nd cd) k ((I2 C k).map (Value.int .i64)) rfl (HT.out.f.r ⟨3,1,(.slice ad nd cd),k,((I2 C k).map (Value.int .i64))⟩ (by simp[R4])) ⟨gxD,0,none⟩ 1 1 [.int .i64 d] rfl rfl (M7 HXD.out) (fun u hu=>by simp at hu;subst hu;rfl) (by decide) (by have:=Hkn.out;unfold maxLen;omega) (by have:=Hkn.out;omega) ?_;intro v' q hown hg hl;obtain⟨ad2,nd2,cd2,rfl⟩:=G5 hown;replace HT:=A2 (HT.out.push (i:=2) (x:=⟨3,1,(.slice ad nd cd),k,((I2 C k).map (Value.int .i64))⟩) rfl hown hg hl (fun b hb=>.inr (.inl hb)));refine E6 hK (HSf.out _ HT.out.k) ?_;clear hK K hS;intro hS;(try simp only[Act.put,B0])
          replace HXS:=A2 (S8 HXS.out hg HlD.out);clear hown hg hl HXD;generalize q.w=w11 at *;refine M3 (i:=19) (by kernel_rfl) rfl (fun K hK=>?_);refine L6 (w0:=we) (k:=1) (HIf.out _ HT.out.k) rfl _ _ 22 rfl we.heap.size (Nat.le_refl _) (A7.size (HIf.out _ HT.out.k)) 3 (.int .i64 0) 8 K8 (.slice as' ns cs') k ((H7 p C (B2 us) k).map (Value.int .i64)) rfl (HT.out.f.r ⟨3,1,(.slice as' ns cs'),k,((H7 p C (B2 us) k).map (Value.int .i64))⟩ (by simp[R4])) ⟨gxS,0,none⟩ 1 1 [.int .i64 tt] rfl rfl (M7 HXS.out) (fun u hu=>by simp at hu;subst hu;rfl) (by decide) (by have:=Hkn.out;unfold maxLen;omega) (by have:=Hkn.out;omega) ?_;intro v' q hown hg hl;obtain⟨as2,ns2,cs2,rfl⟩:=G5 hown;replace HT:=A2 (HT.out.push (i:=3) (x:=⟨3,1,(.slice as' ns cs'),k,((H7 p C (B2 us) k).map (Value.int .i64))⟩) rfl hown hg hl (fun b hb=>.inr (.inr hb)));refine E6 hK (HSf.out _ HT.out.k) ?_;clear hK K hS;intro hS;(try simp only[Act.put,B0])
          clear hown hg hl HXS;generalize q.w=w12 at *;refine tk 20 ?_ rfl (by kernel_rfl) hS (fun _ _ _ h=>h) ?_ ?_;rotate_left
          ·(intro w h;(try dsimp only at h);go_split_ands;go_simp;try with_reducible rfl)
          (try simp only[Act.put,B0])
          refine tk 21 ?_ rfl (by kernel_rfl) hS (fun _ _ _ h=>h) ?_ ?_;rotate_left
          ·(intro w h;(try dsimp only at h);go_split_ands;go_simp;try with_reducible rfl)
          (try simp only[Act.put,B0])
          refine G6 22 (by kernel_rfl) rfl fun K hK=>?_;go_simp;refine M0 hK (by kernel_rfl) ?_;clear hK K;(try clear hS)
          (try simp only[Act.put,B0])
          have S1:=A2 (HIf.out _ HT.out.k);have E8:=HT.out.f;simp only[R4,List.set_cons_zero,List.set_cons_succ]at E8;rw[←Htt.out,←Huk.out,←Hd.out]at E8;rw[aX p C (B2 us) k L _ _ _ _ gn va HrA.out,Huk.out]at E8;have HFe:=A2 E8;clear E8 HT;have bC:=Hcn.out.1;have hlt:=Hlt.out;go_wp2_with fail;go_roundw
          case rel=>obtain⟨y9,e9⟩:=S1.out;exact⟨k+1,y9,_,Hlt.out,by go_num,e9,e9 ▸ HFe.out,aA.out,aY.out⟩
          case measure=>have:=Hlt.out;simp[intOf];omega
        ·go_simp
         refine E6 hK (HSf.out _ (HT.out.al _).k) ?_;clear hK K hS;intro hS;(try simp only[Act.put,B0])
         have HXS:=A2 (HT.out.bx [.int .i64 tt] 3);replace HT:=A2 (HT.out.al (.cells #[.int .i64 tt] 3));generalize w8.heap.size=gxS at *;generalize w8.alloc (.cells #[.int .i64 tt] 3)=w9 at *;refine M3 (i:=10) (by kernel_rfl) rfl (fun K hK=>?_);go_simp;refine E6 hK (HSf.out _ (HT.out.al _).k) ?_;clear hK K hS;intro hS;(try simp only[Act.put,B0])
         have HXD:=A2 (HT.out.bx [.int .i64 d] 3);replace HT:=A2 (HT.out.al (.cells #[.int .i64 d] 3));replace HXS:=A2 (V4 HXS.out (.cells #[.int .i64 d] 3));generalize w9.heap.size=gxD at *;generalize w9.alloc (.cells #[.int .i64 d] 3)=w10 at *;refine M3 (i:=11) (by kernel_rfl) rfl (fun K hK=>?_);refine L6 (w0:=we) (k:=1) (HIf.out _ HT.out.k) rfl _ _ 22 rfl we.heap.size (Nat.le_refl _) (A7.size (HIf.out _ HT.out.k)) 3 (.int .i64 0) 8 K8 (.slice ad nd cd) k ((I2 C k).map (Value.int .i64)) rfl (HT.out.f.r ⟨3,1,(.slice ad nd cd),k,((I2 C k).map (Value.int .i64))⟩ (by simp[R4])) ⟨gxD,0,none⟩ 1 1 [.int .i64 d] rfl rfl (M7 HXD.out) (fun u hu=>by simp at hu;subst hu;rfl) (by decide) (by have:=Hkn.out;unfold maxLen;omega) (by have:=Hkn.out;omega) ?_;intro v' q hown hg hl;obtain⟨ad2,nd2,cd2,rfl⟩:=G5 hown;replace HT:=A2 (HT.out.push (i:=2) (x:=⟨3,1,(.slice ad nd cd),k,((I2 C k).map (Value.int .i64))⟩) rfl hown hg hl (fun b hb=>.inr (.inl hb)));refine E6 hK (HSf.out _ HT.out.k) ?_;clear hK K hS;intro hS;(try simp only[Act.put,B0])
         replace HXS:=A2 (S8 HXS.out hg HlD.out);clear hown hg hl HXD;generalize q.w=w11 at *;refine M3 (i:=19) (by kernel_rfl) rfl (fun K hK=>?_);refine L6 (w0:=we) (k:=1) (HIf.out _ HT.out.k) rfl _ _ 22 rfl we.heap.size (Nat.le_refl _) (A7.size (HIf.out _ HT.out.k)) 3 (.int .i64 0) 8 K8 (.slice as' ns cs') k ((H7 p C (B2 us) k).map (Value.int .i64)) rfl (HT.out.f.r ⟨3,1,(.slice as' ns cs'),k,((H7 p C (B2 us) k).map (Value.int .i64))⟩ (by simp[R4])) ⟨gxS,0,none⟩ 1 1 [.int .i64 tt] rfl rfl (M7 HXS.out) (fun u hu=>by simp at hu;subst hu;rfl) (by decide) (by have:=Hkn.out;unfold maxLen;omega) (by have:=Hkn.out;omega) ?_;intro v' q hown hg hl;obtain⟨as2,ns2,cs2,rfl⟩:=G5 hown;replace HT:=A2 (HT.out.push (i:=3) (x:=⟨3,1,(.slice as' ns cs'),k,((H7 p C (B2 us) k).map (Value.int .i64))⟩) rfl hown hg hl (fun b hb=>.inr (.inr hb)));refine E6 hK (HSf.out _ HT.out.k) ?_;clear hK K hS;intro hS;(try simp only[Act.put,B0])
         clear hown hg hl HXS;generalize q.w=w12 at *;refine tk 20 ?_ rfl (by kernel_rfl) hS (fun _ _ _ h=>h) ?_ ?_;rotate_left
         ·(intro w h;(try dsimp only at h);go_split_ands;go_simp;try with_reducible rfl)
         (try simp only[Act.put,B0])
         refine tk 21 ?_ rfl (by kernel_rfl) hS (fun _ _ _ h=>h) ?_ ?_;rotate_left
         ·(intro w h;(try dsimp only at h);go_split_ands;go_simp;try with_reducible rfl)
         (try simp only[Act.put,B0])
         refine G6 22 (by kernel_rfl) rfl fun K hK=>?_;go_simp;refine M0 hK (by kernel_rfl) ?_;clear hK K;(try clear hS)
         (try simp only[Act.put,B0])
         have S1:=A2 (HIf.out _ HT.out.k);have E8:=HT.out.f;simp only[R4,List.set_cons_zero,List.set_cons_succ]at E8;rw[←Htt.out,←Huk.out,←Hd.out]at E8;rw[aX p C (B2 us) k L _ _ _ _ gn va HrA.out,Huk.out]at E8;have HFe:=A2 E8;clear E8 HT;have bC:=Hcn.out.1;have hlt:=Hlt.out;go_wp2_with fail;go_roundw
         case rel=>obtain⟨y9,e9⟩:=S1.out;exact⟨k+1,y9,_,Hlt.out,by go_num,e9,e9 ▸ HFe.out,aA.out,aY.out⟩
         case measure=>have:=Hlt.out;simp[intOf];omega
       ·go_simp
        refine E6 hK (HSf.out _ (HT.out.al _).k) ?_;clear hK K hS;intro hS;(try simp only[Act.put,B0])
        have HXD:=A2 (HT.out.bx [.int .i64 d] 3);replace HT:=A2 (HT.out.al (.cells #[.int .i64 d] 3));replace HXR:=A2 (V4 HXR.out (.cells #[.int .i64 d] 3));generalize w7.heap.size=gxD at *;generalize w7.alloc (.cells #[.int .i64 d] 3)=w8 at *;refine eO (i:=4) (j:=18) (by kernel_rfl) rfl rfl (fun K hK=>?_) (fun K hK=>?_)
        ·refine L6 (w0:=we) (k:=1) (HIf.out _ HT.out.k) rfl _ _ 22 rfl we.heap.size (Nat.le_refl _) (A7.size (HIf.out _ HT.out.k)) 3 (.int .i64 0) 8 K8 (.slice ar nr cr) k ((K5 C k).map (Value.int .i64)) rfl (HT.out.f.r ⟨3,1,(.slice ar nr cr),k,((K5 C k).map (Value.int .i64))⟩ (by simp[R4])) ⟨gxR,0,none⟩ 1 1 [.int .i64 r.rd] rfl rfl (M7 HXR.out) (fun u hu=>by simp at hu;subst hu;rfl) (by decide) (by have:=Hkn.out;unfold maxLen;omega) (by have:=Hkn.out;omega) ?_
         intro v' q hown hg hl;obtain⟨ar2,nr2,cr2,rfl⟩:=G5 hown;replace HT:=A2 (HT.out.push (i:=1) (x:=⟨3,1,(.slice ar nr cr),k,((K5 C k).map (Value.int .i64))⟩) rfl hown hg hl (fun b hb=>.inl hb));refine E6 hK (HSf.out _ HT.out.k) ?_;clear hK K hS;intro hS;(try simp only[Act.put,B0])
         replace HXD:=A2 (S8 HXD.out hg HlR.out);clear hown hg hl HXR;generalize q.w=w9 at *;refine eO (i:=11) (j:=18) (by kernel_rfl) rfl rfl (fun K hK=>?_) (fun K hK=>?_)
         ·refine L6 (w0:=we) (k:=1) (HIf.out _ HT.out.k) rfl _ _ 22 rfl we.heap.size (Nat.le_refl _) (A7.size (HIf.out _ HT.out.k)) 3 (.int .i64 0) 8 K8 (.slice ad nd cd) k ((I2 C k).map (Value.int .i64)) rfl (HT.out.f.r ⟨3,1,(.slice ad nd cd),k,((I2 C k).map (Value.int .i64))⟩ (by simp[R4])) ⟨gxD,0,none⟩ 1 1 [.int .i64 d] rfl rfl (M7 HXD.out) (fun u hu=>by simp at hu;subst hu;rfl) (by decide) (by have:=Hkn.out;unfold maxLen;omega) (by have:=Hkn.out;omega) ?_
          intro v' q hown hg hl;obtain⟨ad2,nd2,cd2,rfl⟩:=G5 hown;replace HT:=A2 (HT.out.push (i:=2) (x:=⟨3,1,(.slice ad nd cd),k,((I2 C k).map (Value.int .i64))⟩) rfl hown hg hl (fun b hb=>.inr (.inl hb)));refine E6 hK (HSf.out _ HT.out.k) ?_;clear hK K hS;intro hS;(try simp only[Act.put,B0])
          clear hown hg hl HXD;generalize q.w=w10 at *;refine M3 (i:=18) (by kernel_rfl) rfl (fun K hK=>?_);go_simp;refine E6 hK (HSf.out _ (HT.out.al _).k) ?_;clear hK K hS;intro hS;(try simp only[Act.put,B0])
          have HXS:=A2 (HT.out.bx [.int .i64 tt] 3);replace HT:=A2 (HT.out.al (.cells #[.int .i64 tt] 3));generalize w10.heap.size=gxS at *;generalize w10.alloc (.cells #[.int .i64 tt] 3)=w11 at *;refine M3 (i:=19) (by kernel_rfl) rfl (fun K hK=>?_);refine L6 (w0:=we) (k:=1) (HIf.out _ HT.out.k) rfl _ _ 22 rfl we.heap.size (Nat.le_refl _) (A7.size (HIf.out _ HT.out.k)) 3 (.int .i64 0) 8 K8 (.slice as' ns cs') k ((H7 p C (B2 us) k).map (Value.int .i64)) rfl (HT.out.f.r ⟨3,1,(.slice as' ns cs'),k,((H7 p C (B2 us) k).map (Value.int .i64))⟩ (by simp[R4])) ⟨gxS,0,none⟩ 1 1 [.int .i64 tt] rfl rfl (M7 HXS.out) (fun u hu=>by simp at hu;subst hu;rfl) (by decide) (by have:=Hkn.out;unfold maxLen;omega) (by have:=Hkn.out;omega) ?_;intro v' q hown hg hl;obtain⟨as2,ns2,cs2,rfl⟩:=G5 hown;replace HT:=A2 (HT.out.push (i:=3) (x:=⟨3,1,(.slice as' ns cs'),k,((H7 p C (B2 us) k).map (Value.int .i64))⟩) rfl hown hg hl (fun b hb=>.inr (.inr hb)));refine E6 hK (HSf.out _ HT.out.k) ?_;clear hK K hS;intro hS;(try simp only[Act.put,B0])
          clear hown hg hl HXS;generalize q.w=w12 at *;refine tk 20 ?_ rfl (by kernel_rfl) hS (fun _ _ _ h=>h) ?_ ?_;rotate_left
          ·(intro w h;(try dsimp only at h);go_split_ands;go_simp;try with_reducible rfl)
          (try simp only[Act.put,B0])
          refine tk 21 ?_ rfl (by kernel_rfl) hS (fun _ _ _ h=>h) ?_ ?_;rotate_left
          ·(intro w h;(try dsimp only at h);go_split_ands;go_simp;try with_reducible rfl)
          (try simp only[Act.put,B0])
          refine G6 22 (by kernel_rfl) rfl fun K hK=>?_;go_simp;refine M0 hK (by kernel_rfl) ?_;clear hK K;(try clear hS)
          (try simp only[Act.put,B0])
          have S1:=A2 (HIf.out _ HT.out.k);have E8:=HT.out.f;simp only[R4,List.set_cons_zero,List.set_cons_succ]at E8;rw[←Htt.out,←Huk.out,←Hd.out]at E8;rw[aX p C (B2 us) k L _ _ _ _ gn va HrA.out,Huk.out]at E8;have HFe:=A2 E8;clear E8 HT;have bC:=Hcn.out.1;have hlt:=Hlt.out;go_wp2_with fail;go_roundw
          case rel=>obtain⟨y9,e9⟩:=S1.out;exact⟨k+1,y9,_,Hlt.out,by go_num,e9,e9 ▸ HFe.out,aA.out,aY.out⟩
          case measure=>have:=Hlt.out;simp[intOf];omega
         ·go_simp
          refine E6 hK (HSf.out _ (HT.out.al _).k) ?_;clear hK K hS;intro hS;(try simp only[Act.put,B0])
          have HXS:=A2 (HT.out.bx [.int .i64 tt] 3);replace HT:=A2 (HT.out.al (.cells #[.int .i64 tt] 3));replace HXD:=A2 (V4 HXD.out (.cells #[.int .i64 tt] 3));generalize w9.heap.size=gxS at *;generalize w9.alloc (.cells #[.int .i64 tt] 3)=w10 at *;refine M3 (i:=11) (by kernel_rfl) rfl (fun K hK=>?_);refine L6 (w0:=we) (k:=1) (HIf.out _ HT.out.k) rfl _ _ 22 rfl we.heap.size (Nat.le_refl _) (A7.size (HIf.out _ HT.out.k)) 3 (.int .i64 0) 8 K8 (.slice ad nd cd) k ((I2 C k).map (Value.int .i64)) rfl (HT.out.f.r ⟨3,1,(.slice ad nd cd),k,((I2 C k).map (Value.int .i64))⟩ (by simp[R4])) ⟨gxD,0,none⟩ 1 1 [.int .i64 d] rfl rfl (M7 HXD.out) (fun u hu=>by simp at hu;subst hu;rfl) (by decide) (by have:=Hkn.out;unfold maxLen;omega) (by have:=Hkn.out;omega) ?_;intro v' q hown hg hl;obtain⟨ad2,nd2,cd2,rfl⟩:=G5 hown;replace HT:=A2 (HT.out.push (i:=2) (x:=⟨3,1,(.slice ad nd cd),k,((I2 C k).map (Value.int .i64))⟩) rfl hown hg hl (fun b hb=>.inr (.inl hb)));refine E6 hK (HSf.out _ HT.out.k) ?_;clear hK K hS;intro hS;(try simp only[Act.put,B0])
          replace HXS:=A2 (S8 HXS.out hg HlD.out);clear hown hg hl HXD;generalize q.w=w11 at *;refine M3 (i:=19) (by kernel_rfl) rfl (fun K hK=>?_);refine L6 (w0:=we) (k:=1) (HIf.out _ HT.out.k) rfl _ _ 22 rfl we.heap.size (Nat.le_refl _) (A7.size (HIf.out _ HT.out.k)) 3 (.int .i64 0) 8 K8 (.slice as' ns cs') k ((H7 p C (B2 us) k).map (Value.int .i64)) rfl (HT.out.f.r ⟨3,1,(.slice as' ns cs'),k,((H7 p C (B2 us) k).map (Value.int .i64))⟩ (by simp[R4])) ⟨gxS,0,none⟩ 1 1 [.int .i64 tt] rfl rfl (M7 HXS.out) (fun u hu=>by simp at hu;subst hu;rfl) (by decide) (by have:=Hkn.out;unfold maxLen;omega) (by have:=Hkn.out;omega) ?_;intro v' q hown hg hl;obtain⟨as2,ns2,cs2,rfl⟩:=G5 hown;replace HT:=A2 (HT.out.push (i:=3) (x:=⟨3,1,(.slice as' ns cs'),k,((H7 p C (B2 us) k).map (Value.int .i64))⟩) rfl hown hg hl (fun b hb=>.inr (.inr hb)));refine E6 hK (HSf.out _ HT.out.k) ?_;clear hK K hS;intro hS;(try simp only[Act.put,B0])
          clear hown hg hl HXS;generalize q.w=w12 at *;refine tk 20 ?_ rfl (by kernel_rfl) hS (fun _ _ _ h=>h) ?_ ?_;rotate_left
          ·(intro w h;(try dsimp only at h);go_split_ands;go_simp;try with_reducible rfl)
          (try simp only[Act.put,B0])
          refine tk 21 ?_ rfl (by kernel_rfl) hS (fun _ _ _ h=>h) ?_ ?_;rotate_left
          ·(intro w h;(try dsimp only at h);go_split_ands;go_simp;try with_reducible rfl)
          (try simp only[Act.put,B0])
          refine G6 22 (by kernel_rfl) rfl fun K hK=>?_;go_simp;refine M0 hK (by kernel_rfl) ?_;clear hK K;(try clear hS)
          (try simp only[Act.put,B0])
          have S1:=A2 (HIf.out _ HT.out.k);have E8:=HT.out.f;simp only[R4,List.set_cons_zero,List.set_cons_succ]at E8;rw[←Htt.out,←Huk.out,←Hd.out]at E8;rw[aX p C (B2 us) k L _ _ _ _ gn va HrA.out,Huk.out]at E8;have HFe:=A2 E8;clear E8 HT;have bC:=Hcn.out.1;have hlt:=Hlt.out;go_wp2_with fail;go_roundw
          case rel=>obtain⟨y9,e9⟩:=S1.out;exact⟨k+1,y9,_,Hlt.out,by go_num,e9,e9 ▸ HFe.out,aA.out,aY.out⟩
          case measure=>have:=Hlt.out;simp[intOf];omega
        ·go_simp
         refine E6 hK (HSf.out _ (HT.out.al _).k) ?_;clear hK K hS;intro hS;(try simp only[Act.put,B0])
         have HXS:=A2 (HT.out.bx [.int .i64 tt] 3);replace HT:=A2 (HT.out.al (.cells #[.int .i64 tt] 3));replace HXR:=A2 (V4 HXR.out (.cells #[.int .i64 tt] 3));replace HXD:=A2 (V4 HXD.out (.cells #[.int .i64 tt] 3));generalize w8.heap.size=gxS at *;generalize w8.alloc (.cells #[.int .i64 tt] 3)=w9 at *;refine M3 (i:=4) (by kernel_rfl) rfl (fun K hK=>?_);refine L6 (w0:=we) (k:=1) (HIf.out _ HT.out.k) rfl _ _ 22 rfl we.heap.size (Nat.le_refl _) (A7.size (HIf.out _ HT.out.k)) 3 (.int .i64 0) 8 K8 (.slice ar nr cr) k ((K5 C k).map (Value.int .i64)) rfl (HT.out.f.r ⟨3,1,(.slice ar nr cr),k,((K5 C k).map (Value.int .i64))⟩ (by simp[R4])) ⟨gxR,0,none⟩ 1 1 [.int .i64 r.rd] rfl rfl (M7 HXR.out) (fun u hu=>by simp at hu;subst hu;rfl) (by decide) (by have:=Hkn.out;unfold maxLen;omega) (by have:=Hkn.out;omega) ?_;intro v' q hown hg hl;obtain⟨ar2,nr2,cr2,rfl⟩:=G5 hown;replace HT:=A2 (HT.out.push (i:=1) (x:=⟨3,1,(.slice ar nr cr),k,((K5 C k).map (Value.int .i64))⟩) rfl hown hg hl (fun b hb=>.inl hb));refine E6 hK (HSf.out _ HT.out.k) ?_;clear hK K hS;intro hS;(try simp only[Act.put,B0])
         replace HXD:=A2 (S8 HXD.out hg HlR.out);replace HXS:=A2 (S8 HXS.out hg HlR.out);clear hown hg hl HXR;generalize q.w=w10 at *;refine M3 (i:=11) (by kernel_rfl) rfl (fun K hK=>?_);refine L6 (w0:=we) (k:=1) (HIf.out _ HT.out.k) rfl _ _ 22 rfl we.heap.size (Nat.le_refl _) (A7.size (HIf.out _ HT.out.k)) 3 (.int .i64 0) 8 K8 (.slice ad nd cd) k ((I2 C k).map (Value.int .i64)) rfl (HT.out.f.r ⟨3,1,(.slice ad nd cd),k,((I2 C k).map (Value.int .i64))⟩ (by simp[R4])) ⟨gxD,0,none⟩ 1 1 [.int .i64 d] rfl rfl (M7 HXD.out) (fun u hu=>by simp at hu;subst hu;rfl) (by decide) (by have:=Hkn.out;unfold maxLen;omega) (by have:=Hkn.out;omega) ?_;intro v' q hown hg hl;obtain⟨ad2,nd2,cd2,rfl⟩:=G5 hown;replace HT:=A2 (HT.out.push (i:=2) (x:=⟨3,1,(.slice ad nd cd),k,((I2 C k).map (Value.int .i64))⟩) rfl hown hg hl (fun b hb=>.inr (.inl hb)));refine E6 hK (HSf.out _ HT.out.k) ?_;clear hK K hS;intro hS;(try simp only[Act.put,B0])
         replace HXS:=A2 (S8 HXS.out hg HlD.out);clear hown hg hl HXD;generalize q.w=w11 at *;refine M3 (i:=19) (by kernel_rfl) rfl (fun K hK=>?_);refine L6 (w0:=we) (k:=1) (HIf.out _ HT.out.k) rfl _ _ 22 rfl we.heap.size (Nat.le_refl _) (A7.size (HIf.out _ HT.out.k)) 3 (.int .i64 0) 8 K8 (.slice as' ns cs') k ((H7 p C (B2 us) k).map (Value.int .i64)) rfl (HT.out.f.r ⟨3,1,(.slice as' ns cs'),k,((H7 p C (B2 us) k).map (Value.int .i64))⟩ (by simp[R4])) ⟨gxS,0,none⟩ 1 1 [.int .i64 tt] rfl rfl (M7 HXS.out) (fun u hu=>by simp at hu;subst hu;rfl) (by decide) (by have:=Hkn.out;unfold maxLen;omega) (by have:=Hkn.out;omega) ?_;intro v' q hown hg hl;obtain⟨as2,ns2,cs2,rfl⟩:=G5 hown;replace HT:=A2 (HT.out.push (i:=3) (x:=⟨3,1,(.slice as' ns cs'),k,((H7 p C (B2 us) k).map (Value.int .i64))⟩) rfl hown hg hl (fun b hb=>.inr (.inr hb)));refine E6 hK (HSf.out _ HT.out.k) ?_;clear hK K hS;intro hS;(try simp only[Act.put,B0])
         clear hown hg hl HXS;generalize q.w=w12 at *;refine tk 20 ?_ rfl (by kernel_rfl) hS (fun _ _ _ h=>h) ?_ ?_;rotate_left
         ·(intro w h;(try dsimp only at h);go_split_ands;go_simp;try with_reducible rfl)
         (try simp only[Act.put,B0])
         refine tk 21 ?_ rfl (by kernel_rfl) hS (fun _ _ _ h=>h) ?_ ?_;rotate_left
         ·(intro w h;(try dsimp only at h);go_split_ands;go_simp;try with_reducible rfl)
         (try simp only[Act.put,B0])
         refine G6 22 (by kernel_rfl) rfl fun K hK=>?_;go_simp;refine M0 hK (by kernel_rfl) ?_;clear hK K;(try clear hS)
         (try simp only[Act.put,B0])
         have S1:=A2 (HIf.out _ HT.out.k);have E8:=HT.out.f;simp only[R4,List.set_cons_zero,List.set_cons_succ]at E8;rw[←Htt.out,←Huk.out,←Hd.out]at E8;rw[aX p C (B2 us) k L _ _ _ _ gn va HrA.out,Huk.out]at E8;have HFe:=A2 E8;clear E8 HT;have bC:=Hcn.out.1;have hlt:=Hlt.out;go_wp2_with fail;go_roundw
         case rel=>obtain⟨y9,e9⟩:=S1.out;exact⟨k+1,y9,_,Hlt.out,by go_num,e9,e9 ▸ HFe.out,aA.out,aY.out⟩
         case measure=>have:=Hlt.out;simp[intOf];omega
       ·go_simp
        refine E6 hK (HSf.out _ (HT.out.al _).k) ?_;clear hK K hS;intro hS;(try simp only[Act.put,B0])
        have HXS:=A2 (HT.out.bx [.int .i64 tt] 3);replace HT:=A2 (HT.out.al (.cells #[.int .i64 tt] 3));replace HXR:=A2 (V4 HXR.out (.cells #[.int .i64 tt] 3));generalize w7.heap.size=gxS at *;generalize w7.alloc (.cells #[.int .i64 tt] 3)=w8 at *;refine eO (i:=4) (j:=10) (by kernel_rfl) rfl rfl (fun K hK=>?_) (fun K hK=>?_)
        ·refine L6 (w0:=we) (k:=1) (HIf.out _ HT.out.k) rfl _ _ 22 rfl we.heap.size (Nat.le_refl _) (A7.size (HIf.out _ HT.out.k)) 3 (.int .i64 0) 8 K8 (.slice ar nr cr) k ((K5 C k).map (Value.int .i64)) rfl (HT.out.f.r ⟨3,1,(.slice ar nr cr),k,((K5 C k).map (Value.int .i64))⟩ (by simp[R4])) ⟨gxR,0,none⟩ 1 1 [.int .i64 r.rd] rfl rfl (M7 HXR.out) (fun u hu=>by simp at hu;subst hu;rfl) (by decide) (by have:=Hkn.out;unfold maxLen;omega) (by have:=Hkn.out;omega) ?_
         intro v' q hown hg hl;obtain⟨ar2,nr2,cr2,rfl⟩:=G5 hown;replace HT:=A2 (HT.out.push (i:=1) (x:=⟨3,1,(.slice ar nr cr),k,((K5 C k).map (Value.int .i64))⟩) rfl hown hg hl (fun b hb=>.inl hb));refine E6 hK (HSf.out _ HT.out.k) ?_;clear hK K hS;intro hS;(try simp only[Act.put,B0])
         replace HXS:=A2 (S8 HXS.out hg HlR.out);clear hown hg hl HXR;generalize q.w=w9 at *;refine M3 (i:=10) (by kernel_rfl) rfl (fun K hK=>?_);go_simp;refine E6 hK (HSf.out _ (HT.out.al _).k) ?_;clear hK K hS;intro hS;(try simp only[Act.put,B0])
         have HXD:=A2 (HT.out.bx [.int .i64 d] 3);replace HT:=A2 (HT.out.al (.cells #[.int .i64 d] 3));replace HXS:=A2 (V4 HXS.out (.cells #[.int .i64 d] 3));generalize w9.heap.size=gxD at *;generalize w9.alloc (.cells #[.int .i64 d] 3)=w10 at *;refine M3 (i:=11) (by kernel_rfl) rfl (fun K hK=>?_);refine L6 (w0:=we) (k:=1) (HIf.out _ HT.out.k) rfl _ _ 22 rfl we.heap.size (Nat.le_refl _) (A7.size (HIf.out _ HT.out.k)) 3 (.int .i64 0) 8 K8 (.slice ad nd cd) k ((I2 C k).map (Value.int .i64)) rfl (HT.out.f.r ⟨3,1,(.slice ad nd cd),k,((I2 C k).map (Value.int .i64))⟩ (by simp[R4])) ⟨gxD,0,none⟩ 1 1 [.int .i64 d] rfl rfl (M7 HXD.out) (fun u hu=>by simp at hu;subst hu;rfl) (by decide) (by have:=Hkn.out;unfold maxLen;omega) (by have:=Hkn.out;omega) ?_;intro v' q hown hg hl;obtain⟨ad2,nd2,cd2,rfl⟩:=G5 hown;replace HT:=A2 (HT.out.push (i:=2) (x:=⟨3,1,(.slice ad nd cd),k,((I2 C k).map (Value.int .i64))⟩) rfl hown hg hl (fun b hb=>.inr (.inl hb)));refine E6 hK (HSf.out _ HT.out.k) ?_;clear hK K hS;intro hS;(try simp only[Act.put,B0])
         replace HXS:=A2 (S8 HXS.out hg HlD.out);clear hown hg hl HXD;generalize q.w=w11 at *;refine M3 (i:=19) (by kernel_rfl) rfl (fun K hK=>?_);refine L6 (w0:=we) (k:=1) (HIf.out _ HT.out.k) rfl _ _ 22 rfl we.heap.size (Nat.le_refl _) (A7.size (HIf.out _ HT.out.k)) 3 (.int .i64 0) 8 K8 (.slice as' ns cs') k ((H7 p C (B2 us) k).map (Value.int .i64)) rfl (HT.out.f.r ⟨3,1,(.slice as' ns cs'),k,((H7 p C (B2 us) k).map (Value.int .i64))⟩ (by simp[R4])) ⟨gxS,0,none⟩ 1 1 [.int .i64 tt] rfl rfl (M7 HXS.out) (fun u hu=>by simp at hu;subst hu;rfl) (by decide) (by have:=Hkn.out;unfold maxLen;omega) (by have:=Hkn.out;omega) ?_;intro v' q hown hg hl;obtain⟨as2,ns2,cs2,rfl⟩:=G5 hown;replace HT:=A2 (HT.out.push (i:=3) (x:=⟨3,1,(.slice as' ns cs'),k,((H7 p C (B2 us) k).map (Value.int .i64))⟩) rfl hown hg hl (fun b hb=>.inr (.inr hb)));refine E6 hK (HSf.out _ HT.out.k) ?_;clear hK K hS;intro hS;(try simp only[Act.put,B0])
         clear hown hg hl HXS;generalize q.w=w12 at *;refine tk 20 ?_ rfl (by kernel_rfl) hS (fun _ _ _ h=>h) ?_ ?_;rotate_left
         ·(intro w h;(try dsimp only at h);go_split_ands;go_simp;try with_reducible rfl)
         (try simp only[Act.put,B0])
         refine tk 21 ?_ rfl (by kernel_rfl) hS (fun _ _ _ h=>h) ?_ ?_;rotate_left
         ·(intro w h;(try dsimp only at h);go_split_ands;go_simp;try with_reducible rfl)
         (try simp only[Act.put,B0])
         refine G6 22 (by kernel_rfl) rfl fun K hK=>?_;go_simp;refine M0 hK (by kernel_rfl) ?_;clear hK K;(try clear hS)
         (try simp only[Act.put,B0])
         have S1:=A2 (HIf.out _ HT.out.k);have E8:=HT.out.f;simp only[R4,List.set_cons_zero,List.set_cons_succ]at E8;rw[←Htt.out,←Huk.out,←Hd.out]at E8;rw[aX p C (B2 us) k L _ _ _ _ gn va HrA.out,Huk.out]at E8;have HFe:=A2 E8;clear E8 HT;have bC:=Hcn.out.1;have hlt:=Hlt.out;go_wp2_with fail;go_roundw
         case rel=>obtain⟨y9,e9⟩:=S1.out;exact⟨k+1,y9,_,Hlt.out,by go_num,e9,e9 ▸ HFe.out,aA.out,aY.out⟩
         case measure=>have:=Hlt.out;simp[intOf];omega
        ·go_simp
         refine E6 hK (HSf.out _ (HT.out.al _).k) ?_;clear hK K hS;intro hS;(try simp only[Act.put,B0])
         have HXD:=A2 (HT.out.bx [.int .i64 d] 3);replace HT:=A2 (HT.out.al (.cells #[.int .i64 d] 3));replace HXR:=A2 (V4 HXR.out (.cells #[.int .i64 d] 3));replace HXS:=A2 (V4 HXS.out (.cells #[.int .i64 d] 3));generalize w8.heap.size=gxD at *;generalize w8.alloc (.cells #[.int .i64 d] 3)=w9 at *;refine M3 (i:=4) (by kernel_rfl) rfl (fun K hK=>?_);refine L6 (w0:=we) (k:=1) (HIf.out _ HT.out.k) rfl _ _ 22 rfl we.heap.size (Nat.le_refl _) (A7.size (HIf.out _ HT.out.k)) 3 (.int .i64 0) 8 K8 (.slice ar nr cr) k ((K5 C k).map (Value.int .i64)) rfl (HT.out.f.r ⟨3,1,(.slice ar nr cr),k,((K5 C k).map (Value.int .i64))⟩ (by simp[R4])) ⟨gxR,0,none⟩ 1 1 [.int .i64 r.rd] rfl rfl (M7 HXR.out) (fun u hu=>by simp at hu;subst hu;rfl) (by decide) (by have:=Hkn.out;unfold maxLen;omega) (by have:=Hkn.out;omega) ?_;intro v' q hown hg hl;obtain⟨ar2,nr2,cr2,rfl⟩:=G5 hown;replace HT:=A2 (HT.out.push (i:=1) (x:=⟨3,1,(.slice ar nr cr),k,((K5 C k).map (Value.int .i64))⟩) rfl hown hg hl (fun b hb=>.inl hb));refine E6 hK (HSf.out _ HT.out.k) ?_;clear hK K hS;intro hS;(try simp only[Act.put,B0])
         replace HXS:=A2 (S8 HXS.out hg HlR.out);replace HXD:=A2 (S8 HXD.out hg HlR.out);clear hown hg hl HXR;generalize q.w=w10 at *;refine M3 (i:=11) (by kernel_rfl) rfl (fun K hK=>?_);refine L6 (w0:=we) (k:=1) (HIf.out _ HT.out.k) rfl _ _ 22 rfl we.heap.size (Nat.le_refl _) (A7.size (HIf.out _ HT.out.k)) 3 (.int .i64 0) 8 K8 (.slice ad nd cd) k ((I2 C k).map (Value.int .i64)) rfl (HT.out.f.r ⟨3,1,(.slice ad nd cd),k,((I2 C k).map (Value.int .i64))⟩ (by simp[R4])) ⟨gxD,0,none⟩ 1 1 [.int .i64 d] rfl rfl (M7 HXD.out) (fun u hu=>by simp at hu;subst hu;rfl) (by decide) (by have:=Hkn.out;unfold maxLen;omega) (by have:=Hkn.out;omega) ?_;intro v' q hown hg hl;obtain⟨ad2,nd2,cd2,rfl⟩:=G5 hown;replace HT:=A2 (HT.out.push (i:=2) (x:=⟨3,1,(.slice ad nd cd),k,((I2 C k).map (Value.int .i64))⟩) rfl hown hg hl (fun b hb=>.inr (.inl hb)));refine E6 hK (HSf.out _ HT.out.k) ?_;clear hK K hS;intro hS;(try simp only[Act.put,B0])
         replace HXS:=A2 (S8 HXS.out hg HlD.out);clear hown hg hl HXD;generalize q.w=w11 at *;refine M3 (i:=19) (by kernel_rfl) rfl (fun K hK=>?_);refine L6 (w0:=we) (k:=1) (HIf.out _ HT.out.k) rfl _ _ 22 rfl we.heap.size (Nat.le_refl _) (A7.size (HIf.out _ HT.out.k)) 3 (.int .i64 0) 8 K8 (.slice as' ns cs') k ((H7 p C (B2 us) k).map (Value.int .i64)) rfl (HT.out.f.r ⟨3,1,(.slice as' ns cs'),k,((H7 p C (B2 us) k).map (Value.int .i64))⟩ (by simp[R4])) ⟨gxS,0,none⟩ 1 1 [.int .i64 tt] rfl rfl (M7 HXS.out) (fun u hu=>by simp at hu;subst hu;rfl) (by decide) (by have:=Hkn.out;unfold maxLen;omega) (by have:=Hkn.out;omega) ?_;intro v' q hown hg hl;obtain⟨as2,ns2,cs2,rfl⟩:=G5 hown;replace HT:=A2 (HT.out.push (i:=3) (x:=⟨3,1,(.slice as' ns cs'),k,((H7 p C (B2 us) k).map (Value.int .i64))⟩) rfl hown hg hl (fun b hb=>.inr (.inr hb)));refine E6 hK (HSf.out _ HT.out.k) ?_;clear hK K hS;intro hS;(try simp only[Act.put,B0])
         clear hown hg hl HXS;generalize q.w=w12 at *;refine tk 20 ?_ rfl (by kernel_rfl) hS (fun _ _ _ h=>h) ?_ ?_;rotate_left
         ·(intro w h;(try dsimp only at h);go_split_ands;go_simp;try with_reducible rfl)
         (try simp only[Act.put,B0])
         refine tk 21 ?_ rfl (by kernel_rfl) hS (fun _ _ _ h=>h) ?_ ?_;rotate_left
         ·(intro w h;(try dsimp only at h);go_split_ands;go_simp;try with_reducible rfl)
         (try simp only[Act.put,B0])
         refine G6 22 (by kernel_rfl) rfl fun K hK=>?_;go_simp;refine M0 hK (by kernel_rfl) ?_;clear hK K;(try clear hS)
         (try simp only[Act.put,B0])
         have S1:=A2 (HIf.out _ HT.out.k);have E8:=HT.out.f;simp only[R4,List.set_cons_zero,List.set_cons_succ]at E8;rw[←Htt.out,←Huk.out,←Hd.out]at E8;rw[aX p C (B2 us) k L _ _ _ _ gn va HrA.out,Huk.out]at E8;have HFe:=A2 E8;clear E8 HT;have bC:=Hcn.out.1;have hlt:=Hlt.out;go_wp2_with fail;go_roundw
         case rel=>obtain⟨y9,e9⟩:=S1.out;exact⟨k+1,y9,_,Hlt.out,by go_num,e9,e9 ▸ HFe.out,aA.out,aY.out⟩
         case measure=>have:=Hlt.out;simp[intOf];omega
      ·go_simp
       refine E6 hK (HSf.out _ (HT.out.al _).k) ?_;clear hK K hS;intro hS;(try simp only[Act.put,B0])
       have HXD:=A2 (HT.out.bx [.int .i64 d] 3);replace HT:=A2 (HT.out.al (.cells #[.int .i64 d] 3));generalize wd.heap.size=gxD at *;generalize wd.alloc (.cells #[.int .i64 d] 3)=w7 at *;refine eO (i:=3) (j:=18) (by kernel_rfl) rfl rfl (fun K hK=>?_) (fun K hK=>?_)
       ·go_simp
        refine E6 hK (HSf.out _ (HT.out.al _).k) ?_;clear hK K hS;intro hS;(try simp only[Act.put,B0])
        have HXR:=A2 (HT.out.bx [.int .i64 r.rd] 3);replace HT:=A2 (HT.out.al (.cells #[.int .i64 r.rd] 3));replace HXD:=A2 (V4 HXD.out (.cells #[.int .i64 r.rd] 3));generalize w7.heap.size=gxR at *;generalize w7.alloc (.cells #[.int .i64 r.rd] 3)=w8 at *;refine eO (i:=4) (j:=18) (by kernel_rfl) rfl rfl (fun K hK=>?_) (fun K hK=>?_)
        ·refine L6 (w0:=we) (k:=1) (HIf.out _ HT.out.k) rfl _ _ 22 rfl we.heap.size (Nat.le_refl _) (A7.size (HIf.out _ HT.out.k)) 3 (.int .i64 0) 8 K8 (.slice ar nr cr) k ((K5 C k).map (Value.int .i64)) rfl (HT.out.f.r ⟨3,1,(.slice ar nr cr),k,((K5 C k).map (Value.int .i64))⟩ (by simp[R4])) ⟨gxR,0,none⟩ 1 1 [.int .i64 r.rd] rfl rfl (M7 HXR.out) (fun u hu=>by simp at hu;subst hu;rfl) (by decide) (by have:=Hkn.out;unfold maxLen;omega) (by have:=Hkn.out;omega) ?_
         intro v' q hown hg hl;obtain⟨ar2,nr2,cr2,rfl⟩:=G5 hown;replace HT:=A2 (HT.out.push (i:=1) (x:=⟨3,1,(.slice ar nr cr),k,((K5 C k).map (Value.int .i64))⟩) rfl hown hg hl (fun b hb=>.inl hb));refine E6 hK (HSf.out _ HT.out.k) ?_;clear hK K hS;intro hS;(try simp only[Act.put,B0])
         replace HXD:=A2 (S8 HXD.out hg HlR.out);clear hown hg hl HXR;generalize q.w=w9 at *;refine eO (i:=11) (j:=18) (by kernel_rfl) rfl rfl (fun K hK=>?_) (fun K hK=>?_)
         ·refine L6 (w0:=we) (k:=1) (HIf.out _ HT.out.k) rfl _ _ 22 rfl we.heap.size (Nat.le_refl _) (A7.size (HIf.out _ HT.out.k)) 3 (.int .i64 0) 8 K8 (.slice ad nd cd) k ((I2 C k).map (Value.int .i64)) rfl (HT.out.f.r ⟨3,1,(.slice ad nd cd),k,((I2 C k).map (Value.int .i64))⟩ (by simp[R4])) ⟨gxD,0,none⟩ 1 1 [.int .i64 d] rfl rfl (M7 HXD.out) (fun u hu=>by simp at hu;subst hu;rfl) (by decide) (by have:=Hkn.out;unfold maxLen;omega) (by have:=Hkn.out;omega) ?_
          intro v' q hown hg hl;obtain⟨ad2,nd2,cd2,rfl⟩:=G5 hown;replace HT:=A2 (HT.out.push (i:=2) (x:=⟨3,1,(.slice ad nd cd),k,((I2 C k).map (Value.int .i64))⟩) rfl hown hg hl (fun b hb=>.inr (.inl hb)));refine E6 hK (HSf.out _ HT.out.k) ?_;clear hK K hS;intro hS;(try simp only[Act.put,B0])
          clear hown hg hl HXD;generalize q.w=w10 at *;refine M3 (i:=18) (by kernel_rfl) rfl (fun K hK=>?_);go_simp;refine E6 hK (HSf.out _ (HT.out.al _).k) ?_;clear hK K hS;intro hS;(try simp only[Act.put,B0])
          have HXS:=A2 (HT.out.bx [.int .i64 tt] 3);replace HT:=A2 (HT.out.al (.cells #[.int .i64 tt] 3));generalize w10.heap.size=gxS at *;generalize w10.alloc (.cells #[.int .i64 tt] 3)=w11 at *;refine M3 (i:=19) (by kernel_rfl) rfl (fun K hK=>?_);refine L6 (w0:=we) (k:=1) (HIf.out _ HT.out.k) rfl _ _ 22 rfl we.heap.size (Nat.le_refl _) (A7.size (HIf.out _ HT.out.k)) 3 (.int .i64 0) 8 K8 (.slice as' ns cs') k ((H7 p C (B2 us) k).map (Value.int .i64)) rfl (HT.out.f.r ⟨3,1,(.slice as' ns cs'),k,((H7 p C (B2 us) k).map (Value.int .i64))⟩ (by simp[R4])) ⟨gxS,0,none⟩ 1 1 [.int .i64 tt] rfl rfl (M7 HXS.out) (fun u hu=>by simp at hu;subst hu;rfl) (by decide) (by have:=Hkn.out;unfold maxLen;omega) (by have:=Hkn.out;omega) ?_;intro v' q hown hg hl;obtain⟨as2,ns2,cs2,rfl⟩:=G5 hown;replace HT:=A2 (HT.out.push (i:=3) (x:=⟨3,1,(.slice as' ns cs'),k,((H7 p C (B2 us) k).map (Value.int .i64))⟩) rfl hown hg hl (fun b hb=>.inr (.inr hb)));refine E6 hK (HSf.out _ HT.out.k) ?_;clear hK K hS;intro hS;(try simp only[Act.put,B0])
          clear hown hg hl HXS;generalize q.w=w12 at *;refine tk 20 ?_ rfl (by kernel_rfl) hS (fun _ _ _ h=>h) ?_ ?_;rotate_left
          ·(intro w h;(try dsimp only at h);go_split_ands;go_simp;try with_reducible rfl)
          (try simp only[Act.put,B0])
          refine tk 21 ?_ rfl (by kernel_rfl) hS (fun _ _ _ h=>h) ?_ ?_;rotate_left
          ·(intro w h;(try dsimp only at h);go_split_ands;go_simp;try with_reducible rfl)
          (try simp only[Act.put,B0])
          refine G6 22 (by kernel_rfl) rfl fun K hK=>?_;go_simp;refine M0 hK (by kernel_rfl) ?_;clear hK K;(try clear hS)
          (try simp only[Act.put,B0])
          have S1:=A2 (HIf.out _ HT.out.k);have E8:=HT.out.f;simp only[R4,List.set_cons_zero,List.set_cons_succ]at E8;rw[←Htt.out,←Huk.out,←Hd.out]at E8;rw[aX p C (B2 us) k L _ _ _ _ gn va HrA.out,Huk.out]at E8;have HFe:=A2 E8;clear E8 HT;have bC:=Hcn.out.1;have hlt:=Hlt.out;go_wp2_with fail;go_roundw
          case rel=>obtain⟨y9,e9⟩:=S1.out;exact⟨k+1,y9,_,Hlt.out,by go_num,e9,e9 ▸ HFe.out,aA.out,aY.out⟩
          case measure=>have:=Hlt.out;simp[intOf];omega
         ·go_simp
          refine E6 hK (HSf.out _ (HT.out.al _).k) ?_;clear hK K hS;intro hS;(try simp only[Act.put,B0])
          have HXS:=A2 (HT.out.bx [.int .i64 tt] 3);replace HT:=A2 (HT.out.al (.cells #[.int .i64 tt] 3));replace HXD:=A2 (V4 HXD.out (.cells #[.int .i64 tt] 3));generalize w9.heap.size=gxS at *;generalize w9.alloc (.cells #[.int .i64 tt] 3)=w10 at *;refine M3 (i:=11) (by kernel_rfl) rfl (fun K hK=>?_);refine L6 (w0:=we) (k:=1) (HIf.out _ HT.out.k) rfl _ _ 22 rfl we.heap.size (Nat.le_refl _) (A7.size (HIf.out _ HT.out.k)) 3 (.int .i64 0) 8 K8 (.slice ad nd cd) k ((I2 C k).map (Value.int .i64)) rfl (HT.out.f.r ⟨3,1,(.slice ad nd cd),k,((I2 C k).map (Value.int .i64))⟩ (by simp[R4])) ⟨gxD,0,none⟩ 1 1 [.int .i64 d] rfl rfl (M7 HXD.out) (fun u hu=>by simp at hu;subst hu;rfl) (by decide) (by have:=Hkn.out;unfold maxLen;omega) (by have:=Hkn.out;omega) ?_;intro v' q hown hg hl;obtain⟨ad2,nd2,cd2,rfl⟩:=G5 hown;replace HT:=A2 (HT.out.push (i:=2) (x:=⟨3,1,(.slice ad nd cd),k,((I2 C k).map (Value.int .i64))⟩) rfl hown hg hl (fun b hb=>.inr (.inl hb)));refine E6 hK (HSf.out _ HT.out.k) ?_;clear hK K hS;intro hS;(try simp only[Act.put,B0])
          replace HXS:=A2 (S8 HXS.out hg HlD.out);clear hown hg hl HXD;generalize q.w=w11 at *;refine M3 (i:=19) (by kernel_rfl) rfl (fun K hK=>?_);refine L6 (w0:=we) (k:=1) (HIf.out _ HT.out.k) rfl _ _ 22 rfl we.heap.size (Nat.le_refl _) (A7.size (HIf.out _ HT.out.k)) 3 (.int .i64 0) 8 K8 (.slice as' ns cs') k ((H7 p C (B2 us) k).map (Value.int .i64)) rfl (HT.out.f.r ⟨3,1,(.slice as' ns cs'),k,((H7 p C (B2 us) k).map (Value.int .i64))⟩ (by simp[R4])) ⟨gxS,0,none⟩ 1 1 [.int .i64 tt] rfl rfl (M7 HXS.out) (fun u hu=>by simp at hu;subst hu;rfl) (by decide) (by have:=Hkn.out;unfold maxLen;omega) (by have:=Hkn.out;omega) ?_;intro v' q hown hg hl;obtain⟨as2,ns2,cs2,rfl⟩:=G5 hown;replace HT:=A2 (HT.out.push (i:=3) (x:=⟨3,1,(.slice as' ns cs'),k,((H7 p C (B2 us) k).map (Value.int .i64))⟩) rfl hown hg hl (fun b hb=>.inr (.inr hb)));refine E6 hK (HSf.out _ HT.out.k) ?_;clear hK K hS;intro hS;(try simp only[Act.put,B0])
          clear hown hg hl HXS;generalize q.w=w12 at *;refine tk 20 ?_ rfl (by kernel_rfl) hS (fun _ _ _ h=>h) ?_ ?_;rotate_left
          ·(intro w h;(try dsimp only at h);go_split_ands;go_simp;try with_reducible rfl)
          (try simp only[Act.put,B0])
          refine tk 21 ?_ rfl (by kernel_rfl) hS (fun _ _ _ h=>h) ?_ ?_;rotate_left
          ·(intro w h;(try dsimp only at h);go_split_ands;go_simp;try with_reducible rfl)
          (try simp only[Act.put,B0])
          refine G6 22 (by kernel_rfl) rfl fun K hK=>?_;go_simp;refine M0 hK (by kernel_rfl) ?_;clear hK K;(try clear hS)
          (try simp only[Act.put,B0])
          have S1:=A2 (HIf.out _ HT.out.k);have E8:=HT.out.f;simp only[R4,List.set_cons_zero,List.set_cons_succ]at E8;rw[←Htt.out,←Huk.out,←Hd.out]at E8;rw[aX p C (B2 us) k L _ _ _ _ gn va HrA.out,Huk.out]at E8;have HFe:=A2 E8;clear E8 HT;have bC:=Hcn.out.1;have hlt:=Hlt.out;go_wp2_with fail;go_roundw
          case rel=>obtain⟨y9,e9⟩:=S1.out;exact⟨k+1,y9,_,Hlt.out,by go_num,e9,e9 ▸ HFe.out,aA.out,aY.out⟩
          case measure=>have:=Hlt.out;simp[intOf];omega
        ·go_simp
         refine E6 hK (HSf.out _ (HT.out.al _).k) ?_;clear hK K hS;intro hS;(try simp only[Act.put,B0])
         have HXS:=A2 (HT.out.bx [.int .i64 tt] 3);replace HT:=A2 (HT.out.al (.cells #[.int .i64 tt] 3));replace HXD:=A2 (V4 HXD.out (.cells #[.int .i64 tt] 3));replace HXR:=A2 (V4 HXR.out (.cells #[.int .i64 tt] 3));generalize w8.heap.size=gxS at *;generalize w8.alloc (.cells #[.int .i64 tt] 3)=w9 at *;refine M3 (i:=4) (by kernel_rfl) rfl (fun K hK=>?_);refine L6 (w0:=we) (k:=1) (HIf.out _ HT.out.k) rfl _ _ 22 rfl we.heap.size (Nat.le_refl _) (A7.size (HIf.out _ HT.out.k)) 3 (.int .i64 0) 8 K8 (.slice ar nr cr) k ((K5 C k).map (Value.int .i64)) rfl (HT.out.f.r ⟨3,1,(.slice ar nr cr),k,((K5 C k).map (Value.int .i64))⟩ (by simp[R4])) ⟨gxR,0,none⟩ 1 1 [.int .i64 r.rd] rfl rfl (M7 HXR.out) (fun u hu=>by simp at hu;subst hu;rfl) (by decide) (by have:=Hkn.out;unfold maxLen;omega) (by have:=Hkn.out;omega) ?_;intro v' q hown hg hl;obtain⟨ar2,nr2,cr2,rfl⟩:=G5 hown;replace HT:=A2 (HT.out.push (i:=1) (x:=⟨3,1,(.slice ar nr cr),k,((K5 C k).map (Value.int .i64))⟩) rfl hown hg hl (fun b hb=>.inl hb));refine E6 hK (HSf.out _ HT.out.k) ?_;clear hK K hS;intro hS;(try simp only[Act.put,B0])
         replace HXD:=A2 (S8 HXD.out hg HlR.out);replace HXS:=A2 (S8 HXS.out hg HlR.out);clear hown hg hl HXR;generalize q.w=w10 at *;refine M3 (i:=11) (by kernel_rfl) rfl (fun K hK=>?_);refine L6 (w0:=we) (k:=1) (HIf.out _ HT.out.k) rfl _ _ 22 rfl we.heap.size (Nat.le_refl _) (A7.size (HIf.out _ HT.out.k)) 3 (.int .i64 0) 8 K8 (.slice ad nd cd) k ((I2 C k).map (Value.int .i64)) rfl (HT.out.f.r ⟨3,1,(.slice ad nd cd),k,((I2 C k).map (Value.int .i64))⟩ (by simp[R4])) ⟨gxD,0,none⟩ 1 1 [.int .i64 d] rfl rfl (M7 HXD.out) (fun u hu=>by simp at hu;subst hu;rfl) (by decide) (by have:=Hkn.out;unfold maxLen;omega) (by have:=Hkn.out;omega) ?_;intro v' q hown hg hl;obtain⟨ad2,nd2,cd2,rfl⟩:=G5 hown;replace HT:=A2 (HT.out.push (i:=2) (x:=⟨3,1,(.slice ad nd cd),k,((I2 C k).map (Value.int .i64))⟩) rfl hown hg hl (fun b hb=>.inr (.inl hb)));refine E6 hK (HSf.out _ HT.out.k) ?_;clear hK K hS;intro hS;(try simp only[Act.put,B0])
         replace HXS:=A2 (S8 HXS.out hg HlD.out);clear hown hg hl HXD;generalize q.w=w11 at *;refine M3 (i:=19) (by kernel_rfl) rfl (fun K hK=>?_);refine L6 (w0:=we) (k:=1) (HIf.out _ HT.out.k) rfl _ _ 22 rfl we.heap.size (Nat.le_refl _) (A7.size (HIf.out _ HT.out.k)) 3 (.int .i64 0) 8 K8 (.slice as' ns cs') k ((H7 p C (B2 us) k).map (Value.int .i64)) rfl (HT.out.f.r ⟨3,1,(.slice as' ns cs'),k,((H7 p C (B2 us) k).map (Value.int .i64))⟩ (by simp[R4])) ⟨gxS,0,none⟩ 1 1 [.int .i64 tt] rfl rfl (M7 HXS.out) (fun u hu=>by simp at hu;subst hu;rfl) (by decide) (by have:=Hkn.out;unfold maxLen;omega) (by have:=Hkn.out;omega) ?_;intro v' q hown hg hl;obtain⟨as2,ns2,cs2,rfl⟩:=G5 hown;replace HT:=A2 (HT.out.push (i:=3) (x:=⟨3,1,(.slice as' ns cs'),k,((H7 p C (B2 us) k).map (Value.int .i64))⟩) rfl hown hg hl (fun b hb=>.inr (.inr hb)));refine E6 hK (HSf.out _ HT.out.k) ?_;clear hK K hS;intro hS;(try simp only[Act.put,B0])
         clear hown hg hl HXS;generalize q.w=w12 at *;refine tk 20 ?_ rfl (by kernel_rfl) hS (fun _ _ _ h=>h) ?_ ?_;rotate_left
         ·(intro w h;(try dsimp only at h);go_split_ands;go_simp;try with_reducible rfl)
         (try simp only[Act.put,B0])
         refine tk 21 ?_ rfl (by kernel_rfl) hS (fun _ _ _ h=>h) ?_ ?_;rotate_left
         ·(intro w h;(try dsimp only at h);go_split_ands;go_simp;try with_reducible rfl)
         (try simp only[Act.put,B0])
         refine G6 22 (by kernel_rfl) rfl fun K hK=>?_;go_simp;refine M0 hK (by kernel_rfl) ?_;clear hK K;(try clear hS)
         (try simp only[Act.put,B0])
         have S1:=A2 (HIf.out _ HT.out.k);have E8:=HT.out.f;simp only[R4,List.set_cons_zero,List.set_cons_succ]at E8;rw[←Htt.out,←Huk.out,←Hd.out]at E8;rw[aX p C (B2 us) k L _ _ _ _ gn va HrA.out,Huk.out]at E8;have HFe:=A2 E8;clear E8 HT;have bC:=Hcn.out.1;have hlt:=Hlt.out;go_wp2_with fail;go_roundw
         case rel=>obtain⟨y9,e9⟩:=S1.out;exact⟨k+1,y9,_,Hlt.out,by go_num,e9,e9 ▸ HFe.out,aA.out,aY.out⟩
         case measure=>have:=Hlt.out;simp[intOf];omega
       ·go_simp
        refine E6 hK (HSf.out _ (HT.out.al _).k) ?_;clear hK K hS;intro hS;(try simp only[Act.put,B0])
        have HXS:=A2 (HT.out.bx [.int .i64 tt] 3);replace HT:=A2 (HT.out.al (.cells #[.int .i64 tt] 3));replace HXD:=A2 (V4 HXD.out (.cells #[.int .i64 tt] 3));generalize w7.heap.size=gxS at *;generalize w7.alloc (.cells #[.int .i64 tt] 3)=w8 at *;refine M3 (i:=3) (by kernel_rfl) rfl (fun K hK=>?_);go_simp;refine E6 hK (HSf.out _ (HT.out.al _).k) ?_;clear hK K hS;intro hS;(try simp only[Act.put,B0])
        have HXR:=A2 (HT.out.bx [.int .i64 r.rd] 3);replace HT:=A2 (HT.out.al (.cells #[.int .i64 r.rd] 3));replace HXD:=A2 (V4 HXD.out (.cells #[.int .i64 r.rd] 3));replace HXS:=A2 (V4 HXS.out (.cells #[.int .i64 r.rd] 3));generalize w8.heap.size=gxR at *;generalize w8.alloc (.cells #[.int .i64 r.rd] 3)=w9 at *;refine M3 (i:=4) (by kernel_rfl) rfl (fun K hK=>?_);refine L6 (w0:=we) (k:=1) (HIf.out _ HT.out.k) rfl _ _ 22 rfl we.heap.size (Nat.le_refl _) (A7.size (HIf.out _ HT.out.k)) 3 (.int .i64 0) 8 K8 (.slice ar nr cr) k ((K5 C k).map (Value.int .i64)) rfl (HT.out.f.r ⟨3,1,(.slice ar nr cr),k,((K5 C k).map (Value.int .i64))⟩ (by simp[R4])) ⟨gxR,0,none⟩ 1 1 [.int .i64 r.rd] rfl rfl (M7 HXR.out) (fun u hu=>by simp at hu;subst hu;rfl) (by decide) (by have:=Hkn.out;unfold maxLen;omega) (by have:=Hkn.out;omega) ?_;intro v' q hown hg hl;obtain⟨ar2,nr2,cr2,rfl⟩:=G5 hown;replace HT:=A2 (HT.out.push (i:=1) (x:=⟨3,1,(.slice ar nr cr),k,((K5 C k).map (Value.int .i64))⟩) rfl hown hg hl (fun b hb=>.inl hb));refine E6 hK (HSf.out _ HT.out.k) ?_;clear hK K hS;intro hS;(try simp only[Act.put,B0])
        replace HXD:=A2 (S8 HXD.out hg HlR.out);replace HXS:=A2 (S8 HXS.out hg HlR.out);clear hown hg hl HXR;generalize q.w=w10 at *;refine M3 (i:=11) (by kernel_rfl) rfl (fun K hK=>?_);refine L6 (w0:=we) (k:=1) (HIf.out _ HT.out.k) rfl _ _ 22 rfl we.heap.size (Nat.le_refl _) (A7.size (HIf.out _ HT.out.k)) 3 (.int .i64 0) 8 K8 (.slice ad nd cd) k ((I2 C k).map (Value.int .i64)) rfl (HT.out.f.r ⟨3,1,(.slice ad nd cd),k,((I2 C k).map (Value.int .i64))⟩ (by simp[R4])) ⟨gxD,0,none⟩ 1 1 [.int .i64 d] rfl rfl (M7 HXD.out) (fun u hu=>by simp at hu;subst hu;rfl) (by decide) (by have:=Hkn.out;unfold maxLen;omega) (by have:=Hkn.out;omega) ?_;intro v' q hown hg hl;obtain⟨ad2,nd2,cd2,rfl⟩:=G5 hown;replace HT:=A2 (HT.out.push (i:=2) (x:=⟨3,1,(.slice ad nd cd),k,((I2 C k).map (Value.int .i64))⟩) rfl hown hg hl (fun b hb=>.inr (.inl hb)));refine E6 hK (HSf.out _ HT.out.k) ?_;clear hK K hS;intro hS;(try simp only[Act.put,B0])
        replace HXS:=A2 (S8 HXS.out hg HlD.out);clear hown hg hl HXD;generalize q.w=w11 at *;refine M3 (i:=19) (by kernel_rfl) rfl (fun K hK=>?_);refine L6 (w0:=we) (k:=1) (HIf.out _ HT.out.k) rfl _ _ 22 rfl we.heap.size (Nat.le_refl _) (A7.size (HIf.out _ HT.out.k)) 3 (.int .i64 0) 8 K8 (.slice as' ns cs') k ((H7 p C (B2 us) k).map (Value.int .i64)) rfl (HT.out.f.r ⟨3,1,(.slice as' ns cs'),k,((H7 p C (B2 us) k).map (Value.int .i64))⟩ (by simp[R4])) ⟨gxS,0,none⟩ 1 1 [.int .i64 tt] rfl rfl (M7 HXS.out) (fun u hu=>by simp at hu;subst hu;rfl) (by decide) (by have:=Hkn.out;unfold maxLen;omega) (by have:=Hkn.out;omega) ?_;intro v' q hown hg hl;obtain⟨as2,ns2,cs2,rfl⟩:=G5 hown;replace HT:=A2 (HT.out.push (i:=3) (x:=⟨3,1,(.slice as' ns cs'),k,((H7 p C (B2 us) k).map (Value.int .i64))⟩) rfl hown hg hl (fun b hb=>.inr (.inr hb)));refine E6 hK (HSf.out _ HT.out.k) ?_;clear hK K hS;intro hS;(try simp only[Act.put,B0])
        clear hown hg hl HXS;generalize q.w=w12 at *;refine tk 20 ?_ rfl (by kernel_rfl) hS (fun _ _ _ h=>h) ?_ ?_;rotate_left
        ·(intro w h;(try dsimp only at h);go_split_ands;go_simp;try with_reducible rfl)
        (try simp only[Act.put,B0])
        refine tk 21 ?_ rfl (by kernel_rfl) hS (fun _ _ _ h=>h) ?_ ?_;rotate_left
        ·(intro w h;(try dsimp only at h);go_split_ands;go_simp;try with_reducible rfl)
        (try simp only[Act.put,B0])
        refine G6 22 (by kernel_rfl) rfl fun K hK=>?_;go_simp;refine M0 hK (by kernel_rfl) ?_;clear hK K;(try clear hS)
        (try simp only[Act.put,B0])
        have S1:=A2 (HIf.out _ HT.out.k);have E8:=HT.out.f;simp only[R4,List.set_cons_zero,List.set_cons_succ]at E8;rw[←Htt.out,←Huk.out,←Hd.out]at E8;rw[aX p C (B2 us) k L _ _ _ _ gn va HrA.out,Huk.out]at E8;have HFe:=A2 E8;clear E8 HT;have bC:=Hcn.out.1;have hlt:=Hlt.out;go_wp2_with fail;go_roundw
        case rel=>obtain⟨y9,e9⟩:=S1.out;exact⟨k+1,y9,_,Hlt.out,by go_num,e9,e9 ▸ HFe.out,aA.out,aY.out⟩
        case measure=>have:=Hlt.out;simp[intOf];omega
      ·go_simp
       refine E6 hK (HSf.out _ (HT.out.al _).k) ?_;clear hK K hS;intro hS;(try simp only[Act.put,B0])
       have HXS:=A2 (HT.out.bx [.int .i64 tt] 3);replace HT:=A2 (HT.out.al (.cells #[.int .i64 tt] 3));generalize wd.heap.size=gxS at *;generalize wd.alloc (.cells #[.int .i64 tt] 3)=w7 at *;refine eO (i:=3) (j:=10) (by kernel_rfl) rfl rfl (fun K hK=>?_) (fun K hK=>?_)
       ·go_simp
        refine E6 hK (HSf.out _ (HT.out.al _).k) ?_;clear hK K hS;intro hS;(try simp only[Act.put,B0])
        have HXR:=A2 (HT.out.bx [.int .i64 r.rd] 3);replace HT:=A2 (HT.out.al (.cells #[.int .i64 r.rd] 3));replace HXS:=A2 (V4 HXS.out (.cells #[.int .i64 r.rd] 3));generalize w7.heap.size=gxR at *;generalize w7.alloc (.cells #[.int .i64 r.rd] 3)=w8 at *;refine eO (i:=4) (j:=10) (by kernel_rfl) rfl rfl (fun K hK=>?_) (fun K hK=>?_)
        ·refine L6 (w0:=we) (k:=1) (HIf.out _ HT.out.k) rfl _ _ 22 rfl we.heap.size (Nat.le_refl _) (A7.size (HIf.out _ HT.out.k)) 3 (.int .i64 0) 8 K8 (.slice ar nr cr) k ((K5 C k).map (Value.int .i64)) rfl (HT.out.f.r ⟨3,1,(.slice ar nr cr),k,((K5 C k).map (Value.int .i64))⟩ (by simp[R4])) ⟨gxR,0,none⟩ 1 1 [.int .i64 r.rd] rfl rfl (M7 HXR.out) (fun u hu=>by simp at hu;subst hu;rfl) (by decide) (by have:=Hkn.out;unfold maxLen;omega) (by have:=Hkn.out;omega) ?_
         intro v' q hown hg hl;obtain⟨ar2,nr2,cr2,rfl⟩:=G5 hown;replace HT:=A2 (HT.out.push (i:=1) (x:=⟨3,1,(.slice ar nr cr),k,((K5 C k).map (Value.int .i64))⟩) rfl hown hg hl (fun b hb=>.inl hb));refine E6 hK (HSf.out _ HT.out.k) ?_;clear hK K hS;intro hS;(try simp only[Act.put,B0])
         replace HXS:=A2 (S8 HXS.out hg HlR.out);clear hown hg hl HXR;generalize q.w=w9 at *;refine M3 (i:=10) (by kernel_rfl) rfl (fun K hK=>?_);go_simp;refine E6 hK (HSf.out _ (HT.out.al _).k) ?_;clear hK K hS;intro hS;(try simp only[Act.put,B0])
         have HXD:=A2 (HT.out.bx [.int .i64 d] 3);replace HT:=A2 (HT.out.al (.cells #[.int .i64 d] 3));replace HXS:=A2 (V4 HXS.out (.cells #[.int .i64 d] 3));generalize w9.heap.size=gxD at *;generalize w9.alloc (.cells #[.int .i64 d] 3)=w10 at *;refine M3 (i:=11) (by kernel_rfl) rfl (fun K hK=>?_);refine L6 (w0:=we) (k:=1) (HIf.out _ HT.out.k) rfl _ _ 22 rfl we.heap.size (Nat.le_refl _) (A7.size (HIf.out _ HT.out.k)) 3 (.int .i64 0) 8 K8 (.slice ad nd cd) k ((I2 C k).map (Value.int .i64)) rfl (HT.out.f.r ⟨3,1,(.slice ad nd cd),k,((I2 C k).map (Value.int .i64))⟩ (by simp[R4])) ⟨gxD,0,none⟩ 1 1 [.int .i64 d] rfl rfl (M7 HXD.out) (fun u hu=>by simp at hu;subst hu;rfl) (by decide) (by have:=Hkn.out;unfold maxLen;omega) (by have:=Hkn.out;omega) ?_;intro v' q hown hg hl;obtain⟨ad2,nd2,cd2,rfl⟩:=G5 hown;replace HT:=A2 (HT.out.push (i:=2) (x:=⟨3,1,(.slice ad nd cd),k,((I2 C k).map (Value.int .i64))⟩) rfl hown hg hl (fun b hb=>.inr (.inl hb)));refine E6 hK (HSf.out _ HT.out.k) ?_;clear hK K hS;intro hS;(try simp only[Act.put,B0])
         replace HXS:=A2 (S8 HXS.out hg HlD.out);clear hown hg hl HXD;generalize q.w=w11 at *;refine M3 (i:=19) (by kernel_rfl) rfl (fun K hK=>?_);refine L6 (w0:=we) (k:=1) (HIf.out _ HT.out.k) rfl _ _ 22 rfl we.heap.size (Nat.le_refl _) (A7.size (HIf.out _ HT.out.k)) 3 (.int .i64 0) 8 K8 (.slice as' ns cs') k ((H7 p C (B2 us) k).map (Value.int .i64)) rfl (HT.out.f.r ⟨3,1,(.slice as' ns cs'),k,((H7 p C (B2 us) k).map (Value.int .i64))⟩ (by simp[R4])) ⟨gxS,0,none⟩ 1 1 [.int .i64 tt] rfl rfl (M7 HXS.out) (fun u hu=>by simp at hu;subst hu;rfl) (by decide) (by have:=Hkn.out;unfold maxLen;omega) (by have:=Hkn.out;omega) ?_;intro v' q hown hg hl;obtain⟨as2,ns2,cs2,rfl⟩:=G5 hown;replace HT:=A2 (HT.out.push (i:=3) (x:=⟨3,1,(.slice as' ns cs'),k,((H7 p C (B2 us) k).map (Value.int .i64))⟩) rfl hown hg hl (fun b hb=>.inr (.inr hb)));refine E6 hK (HSf.out _ HT.out.k) ?_;clear hK K hS;intro hS;(try simp only[Act.put,B0])
         clear hown hg hl HXS;generalize q.w=w12 at *;refine tk 20 ?_ rfl (by kernel_rfl) hS (fun _ _ _ h=>h) ?_ ?_;rotate_left
         ·(intro w h;(try dsimp only at h);go_split_ands;go_simp;try with_reducible rfl)
         (try simp only[Act.put,B0])
         refine tk 21 ?_ rfl (by kernel_rfl) hS (fun _ _ _ h=>h) ?_ ?_;rotate_left
         ·(intro w h;(try dsimp only at h);go_split_ands;go_simp;try with_reducible rfl)
         (try simp only[Act.put,B0])
         refine G6 22 (by kernel_rfl) rfl fun K hK=>?_;go_simp;refine M0 hK (by kernel_rfl) ?_;clear hK K;(try clear hS)
         (try simp only[Act.put,B0])
         have S1:=A2 (HIf.out _ HT.out.k);have E8:=HT.out.f;simp only[R4,List.set_cons_zero,List.set_cons_succ]at E8;rw[←Htt.out,←Huk.out,←Hd.out]at E8;rw[aX p C (B2 us) k L _ _ _ _ gn va HrA.out,Huk.out]at E8;have HFe:=A2 E8;clear E8 HT;have bC:=Hcn.out.1;have hlt:=Hlt.out;go_wp2_with fail;go_roundw
         case rel=>obtain⟨y9,e9⟩:=S1.out;exact⟨k+1,y9,_,Hlt.out,by go_num,e9,e9 ▸ HFe.out,aA.out,aY.out⟩
         case measure=>have:=Hlt.out;simp[intOf];omega
        ·go_simp
         refine E6 hK (HSf.out _ (HT.out.al _).k) ?_;clear hK K hS;intro hS;(try simp only[Act.put,B0])
         have HXD:=A2 (HT.out.bx [.int .i64 d] 3);replace HT:=A2 (HT.out.al (.cells #[.int .i64 d] 3));replace HXS:=A2 (V4 HXS.out (.cells #[.int .i64 d] 3));replace HXR:=A2 (V4 HXR.out (.cells #[.int .i64 d] 3));generalize w8.heap.size=gxD at *;generalize w8.alloc (.cells #[.int .i64 d] 3)=w9 at *;refine M3 (i:=4) (by kernel_rfl) rfl (fun K hK=>?_);refine L6 (w0:=we) (k:=1) (HIf.out _ HT.out.k) rfl _ _ 22 rfl we.heap.size (Nat.le_refl _) (A7.size (HIf.out _ HT.out.k)) 3 (.int .i64 0) 8 K8 (.slice ar nr cr) k ((K5 C k).map (Value.int .i64)) rfl (HT.out.f.r ⟨3,1,(.slice ar nr cr),k,((K5 C k).map (Value.int .i64))⟩ (by simp[R4])) ⟨gxR,0,none⟩ 1 1 [.int .i64 r.rd] rfl rfl (M7 HXR.out) (fun u hu=>by simp at hu;subst hu;rfl) (by decide) (by have:=Hkn.out;unfold maxLen;omega) (by have:=Hkn.out;omega) ?_;intro v' q hown hg hl;obtain⟨ar2,nr2,cr2,rfl⟩:=G5 hown;replace HT:=A2 (HT.out.push (i:=1) (x:=⟨3,1,(.slice ar nr cr),k,((K5 C k).map (Value.int .i64))⟩) rfl hown hg hl (fun b hb=>.inl hb));refine E6 hK (HSf.out _ HT.out.k) ?_;clear hK K hS;intro hS;(try simp only[Act.put,B0])
         replace HXS:=A2 (S8 HXS.out hg HlR.out);replace HXD:=A2 (S8 HXD.out hg HlR.out);clear hown hg hl HXR;generalize q.w=w10 at *;refine M3 (i:=11) (by kernel_rfl) rfl (fun K hK=>?_);refine L6 (w0:=we) (k:=1) (HIf.out _ HT.out.k) rfl _ _ 22 rfl we.heap.size (Nat.le_refl _) (A7.size (HIf.out _ HT.out.k)) 3 (.int .i64 0) 8 K8 (.slice ad nd cd) k ((I2 C k).map (Value.int .i64)) rfl (HT.out.f.r ⟨3,1,(.slice ad nd cd),k,((I2 C k).map (Value.int .i64))⟩ (by simp[R4])) ⟨gxD,0,none⟩ 1 1 [.int .i64 d] rfl rfl (M7 HXD.out) (fun u hu=>by simp at hu;subst hu;rfl) (by decide) (by have:=Hkn.out;unfold maxLen;omega) (by have:=Hkn.out;omega) ?_;intro v' q hown hg hl;obtain⟨ad2,nd2,cd2,rfl⟩:=G5 hown;replace HT:=A2 (HT.out.push (i:=2) (x:=⟨3,1,(.slice ad nd cd),k,((I2 C k).map (Value.int .i64))⟩) rfl hown hg hl (fun b hb=>.inr (.inl hb)));refine E6 hK (HSf.out _ HT.out.k) ?_;clear hK K hS;intro hS;(try simp only[Act.put,B0])
         replace HXS:=A2 (S8 HXS.out hg HlD.out);clear hown hg hl HXD;generalize q.w=w11 at *;refine M3 (i:=19) (by kernel_rfl) rfl (fun K hK=>?_);refine L6 (w0:=we) (k:=1) (HIf.out _ HT.out.k) rfl _ _ 22 rfl we.heap.size (Nat.le_refl _) (A7.size (HIf.out _ HT.out.k)) 3 (.int .i64 0) 8 K8 (.slice as' ns cs') k ((H7 p C (B2 us) k).map (Value.int .i64)) rfl (HT.out.f.r ⟨3,1,(.slice as' ns cs'),k,((H7 p C (B2 us) k).map (Value.int .i64))⟩ (by simp[R4])) ⟨gxS,0,none⟩ 1 1 [.int .i64 tt] rfl rfl (M7 HXS.out) (fun u hu=>by simp at hu;subst hu;rfl) (by decide) (by have:=Hkn.out;unfold maxLen;omega) (by have:=Hkn.out;omega) ?_;intro v' q hown hg hl;obtain⟨as2,ns2,cs2,rfl⟩:=G5 hown;replace HT:=A2 (HT.out.push (i:=3) (x:=⟨3,1,(.slice as' ns cs'),k,((H7 p C (B2 us) k).map (Value.int .i64))⟩) rfl hown hg hl (fun b hb=>.inr (.inr hb)));refine E6 hK (HSf.out _ HT.out.k) ?_;clear hK K hS;intro hS;(try simp only[Act.put,B0])
         clear hown hg hl HXS;generalize q.w=w12 at *;refine tk 20 ?_ rfl (by kernel_rfl) hS (fun _ _ _ h=>h) ?_ ?_;rotate_left
         ·(intro w h;(try dsimp only at h);go_split_ands;go_simp;try with_reducible rfl)
         (try simp only[Act.put,B0])
         refine tk 21 ?_ rfl (by kernel_rfl) hS (fun _ _ _ h=>h) ?_ ?_;rotate_left
         ·(intro w h;(try dsimp only at h);go_split_ands;go_simp;try with_reducible rfl)
         (try simp only[Act.put,B0])
         refine G6 22 (by kernel_rfl) rfl fun K hK=>?_;go_simp;refine M0 hK (by kernel_rfl) ?_;clear hK K;(try clear hS)
         (try simp only[Act.put,B0])
         have S1:=A2 (HIf.out _ HT.out.k);have E8:=HT.out.f;simp only[R4,List.set_cons_zero,List.set_cons_succ]at E8;rw[←Htt.out,←Huk.out,←Hd.out]at E8;rw[aX p C (B2 us) k L _ _ _ _ gn va HrA.out,Huk.out]at E8;have HFe:=A2 E8;clear E8 HT;have bC:=Hcn.out.1;have hlt:=Hlt.out;go_wp2_with fail;go_roundw
         case rel=>obtain⟨y9,e9⟩:=S1.out;exact⟨k+1,y9,_,Hlt.out,by go_num,e9,e9 ▸ HFe.out,aA.out,aY.out⟩
         case measure=>have:=Hlt.out;simp[intOf];omega
       ·go_simp
        refine E6 hK (HSf.out _ (HT.out.al _).k) ?_;clear hK K hS;intro hS;(try simp only[Act.put,B0])
        have HXD:=A2 (HT.out.bx [.int .i64 d] 3);replace HT:=A2 (HT.out.al (.cells #[.int .i64 d] 3));replace HXS:=A2 (V4 HXS.out (.cells #[.int .i64 d] 3));generalize w7.heap.size=gxD at *;generalize w7.alloc (.cells #[.int .i64 d] 3)=w8 at *;refine M3 (i:=3) (by kernel_rfl) rfl (fun K hK=>?_);go_simp;refine E6 hK (HSf.out _ (HT.out.al _).k) ?_;clear hK K hS;intro hS;(try simp only[Act.put,B0])
        have HXR:=A2 (HT.out.bx [.int .i64 r.rd] 3);replace HT:=A2 (HT.out.al (.cells #[.int .i64 r.rd] 3));replace HXS:=A2 (V4 HXS.out (.cells #[.int .i64 r.rd] 3));replace HXD:=A2 (V4 HXD.out (.cells #[.int .i64 r.rd] 3));generalize w8.heap.size=gxR at *;generalize w8.alloc (.cells #[.int .i64 r.rd] 3)=w9 at *;refine M3 (i:=4) (by kernel_rfl) rfl (fun K hK=>?_);refine L6 (w0:=we) (k:=1) (HIf.out _ HT.out.k) rfl _ _ 22 rfl we.heap.size (Nat.le_refl _) (A7.size (HIf.out _ HT.out.k)) 3 (.int .i64 0) 8 K8 (.slice ar nr cr) k ((K5 C k).map (Value.int .i64)) rfl (HT.out.f.r ⟨3,1,(.slice ar nr cr),k,((K5 C k).map (Value.int .i64))⟩ (by simp[R4])) ⟨gxR,0,none⟩ 1 1 [.int .i64 r.rd] rfl rfl (M7 HXR.out) (fun u hu=>by simp at hu;subst hu;rfl) (by decide) (by have:=Hkn.out;unfold maxLen;omega) (by have:=Hkn.out;omega) ?_;intro v' q hown hg hl;obtain⟨ar2,nr2,cr2,rfl⟩:=G5 hown;replace HT:=A2 (HT.out.push (i:=1) (x:=⟨3,1,(.slice ar nr cr),k,((K5 C k).map (Value.int .i64))⟩) rfl hown hg hl (fun b hb=>.inl hb));refine E6 hK (HSf.out _ HT.out.k) ?_;clear hK K hS;intro hS;(try simp only[Act.put,B0])
        replace HXS:=A2 (S8 HXS.out hg HlR.out);replace HXD:=A2 (S8 HXD.out hg HlR.out);clear hown hg hl HXR;generalize q.w=w10 at *;refine M3 (i:=11) (by kernel_rfl) rfl (fun K hK=>?_);refine L6 (w0:=we) (k:=1) (HIf.out _ HT.out.k) rfl _ _ 22 rfl we.heap.size (Nat.le_refl _) (A7.size (HIf.out _ HT.out.k)) 3 (.int .i64 0) 8 K8 (.slice ad nd cd) k ((I2 C k).map (Value.int .i64)) rfl (HT.out.f.r ⟨3,1,(.slice ad nd cd),k,((I2 C k).map (Value.int .i64))⟩ (by simp[R4])) ⟨gxD,0,none⟩ 1 1 [.int .i64 d] rfl rfl (M7 HXD.out) (fun u hu=>by simp at hu;subst hu;rfl) (by decide) (by have:=Hkn.out;unfold maxLen;omega) (by have:=Hkn.out;omega) ?_;intro v' q hown hg hl;obtain⟨ad2,nd2,cd2,rfl⟩:=G5 hown;replace HT:=A2 (HT.out.push (i:=2) (x:=⟨3,1,(.slice ad nd cd),k,((I2 C k).map (Value.int .i64))⟩) rfl hown hg hl (fun b hb=>.inr (.inl hb)));refine E6 hK (HSf.out _ HT.out.k) ?_;clear hK K hS;intro hS;(try simp only[Act.put,B0])
        replace HXS:=A2 (S8 HXS.out hg HlD.out);clear hown hg hl HXD;generalize q.w=w11 at *;refine M3 (i:=19) (by kernel_rfl) rfl (fun K hK=>?_);refine L6 (w0:=we) (k:=1) (HIf.out _ HT.out.k) rfl _ _ 22 rfl we.heap.size (Nat.le_refl _) (A7.size (HIf.out _ HT.out.k)) 3 (.int .i64 0) 8 K8 (.slice as' ns cs') k ((H7 p C (B2 us) k).map (Value.int .i64)) rfl (HT.out.f.r ⟨3,1,(.slice as' ns cs'),k,((H7 p C (B2 us) k).map (Value.int .i64))⟩ (by simp[R4])) ⟨gxS,0,none⟩ 1 1 [.int .i64 tt] rfl rfl (M7 HXS.out) (fun u hu=>by simp at hu;subst hu;rfl) (by decide) (by have:=Hkn.out;unfold maxLen;omega) (by have:=Hkn.out;omega) ?_;intro v' q hown hg hl;obtain⟨as2,ns2,cs2,rfl⟩:=G5 hown;replace HT:=A2 (HT.out.push (i:=3) (x:=⟨3,1,(.slice as' ns cs'),k,((H7 p C (B2 us) k).map (Value.int .i64))⟩) rfl hown hg hl (fun b hb=>.inr (.inr hb)));refine E6 hK (HSf.out _ HT.out.k) ?_;clear hK K hS;intro hS;(try simp only[Act.put,B0])
        clear hown hg hl HXS;generalize q.w=w12 at *;refine tk 20 ?_ rfl (by kernel_rfl) hS (fun _ _ _ h=>h) ?_ ?_;rotate_left
        ·(intro w h;(try dsimp only at h);go_split_ands;go_simp;try with_reducible rfl)
        (try simp only[Act.put,B0])
        refine tk 21 ?_ rfl (by kernel_rfl) hS (fun _ _ _ h=>h) ?_ ?_;rotate_left
        ·(intro w h;(try dsimp only at h);go_split_ands;go_simp;try with_reducible rfl)
        (try simp only[Act.put,B0])
        refine G6 22 (by kernel_rfl) rfl fun K hK=>?_;go_simp;refine M0 hK (by kernel_rfl) ?_;clear hK K;(try clear hS)
        (try simp only[Act.put,B0])
        have S1:=A2 (HIf.out _ HT.out.k);have E8:=HT.out.f;simp only[R4,List.set_cons_zero,List.set_cons_succ]at E8;rw[←Htt.out,←Huk.out,←Hd.out]at E8;rw[aX p C (B2 us) k L _ _ _ _ gn va HrA.out,Huk.out]at E8;have HFe:=A2 E8;clear E8 HT;have bC:=Hcn.out.1;have hlt:=Hlt.out;go_wp2_with fail;go_roundw
        case rel=>obtain⟨y9,e9⟩:=S1.out;exact⟨k+1,y9,_,Hlt.out,by go_num,e9,e9 ▸ HFe.out,aA.out,aY.out⟩
        case measure=>have:=Hlt.out;simp[intOf];omega
     )
    ·obtain rfl:k=C.length:=by omega
     clear hlt hk;have hnb:nb=C.length:=jN (HFm.out.r _ (A0 (nU p C (B2 us) C.length L (.slice ab nb cb) (.slice ar nr cr) (.slice ad nd cd) (.slice as' ns cs'))));have hnr:nr=C.length:=jN (HFm.out.r _ (A0 (sB p C (B2 us) C.length L (.slice ab nb cb) (.slice ar nr cr) (.slice ad nd cd) (.slice as' ns cs'))));have hnd:nd=C.length:=jN (HFm.out.r _ (A0 (sE p C (B2 us) C.length L (.slice ab nb cb) (.slice ar nr cr) (.slice ad nd cd) (.slice as' ns cs'))));have hns:ns=C.length:=jN (HFm.out.r _ (A0 (sF p C (B2 us) C.length L (.slice ab nb cb) (.slice ar nr cr) (.slice ad nd cd) (.slice as' ns cs'))));rw[hnb,hnr,hnd,hns]at HFm⊢;clear hnb hnr hnd hns;have HIr:=A2 (show Q9 y.w ar (K5 C C.length)from by
      obtain⟨_,a0,c0,e0,h0⟩:=rS (HFm.out.r _ (A0 (sB p C (B2 us) C.length L (.slice ab C.length cb) (.slice ar C.length cr) (.slice ad C.length cd) (.slice as' C.length cs'))));have e1:ar=a0:=by simp only[Value.slice.injEq]at e0;exact e0.1
      rw[e1];exact h0)
     have HId:=A2 (show Q9 y.w ad (I2 C C.length)from by
      obtain⟨_,a0,c0,e0,h0⟩:=rS (HFm.out.r _ (A0 (sE p C (B2 us) C.length L (.slice ab C.length cb) (.slice ar C.length cr) (.slice ad C.length cd) (.slice as' C.length cs'))));have e1:ad=a0:=by simp only[Value.slice.injEq]at e0;exact e0.1
      rw[e1];exact h0)
     have HIs:=A2 (show Q9 y.w as' (H7 p C (B2 us) C.length)from by
      obtain⟨_,a0,c0,e0,h0⟩:=rS (HFm.out.r _ (A0 (sF p C (B2 us) C.length L (.slice ab C.length cb) (.slice ar C.length cr) (.slice ad C.length cd) (.slice as' C.length cs'))));have e1:as'=a0:=by simp only[Value.slice.injEq]at e0;exact e0.1
      rw[e1];exact h0)
     have BF0:=A2 HBi.out;have c4:y.w.cell? ⟨bx+1,4,none⟩=some (.int .i64 p.cap):=(HBp.out.since y).c 4 _ rfl;have hcall:=Bk1 y.w (A6.self y.w) p.cap C.length (K5 C C.length) (I2 C C.length) (H7 p C (B2 us) C.length) ar ad as' cr cd cs' HIr.out HId.out HIs.out (Bo9 Hok.out Hcn.out.1 (fun r hr=>(Hcn.out.2.1 r hr).1) HBi.out);rw[Bo8,show(A6.self y.w).w=y.w from rfl]at hcall;unfold rV at hcall;clear HIr HId HIs;go_upto_region 35 with(go_at_call 55;(with_reducible refine hcall.mono ?_);clear hcall;rintro _ _ ⟨pv,y3,rfl,rfl,hpo⟩;(obtain⟨ap,np,cp,rfl⟩:=G5 hpo);(have HPo:=A2 hpo);clear hpo)
     clear c4;have hnp:np=C.length:=(jN HPo.out).trans (xO p C (B2 us));rw[hnp]at HPo⊢;clear hnp;rw[xO]at HPo;have HF7:=A2 (HFm.out.row (w':=y3.w) ⟨y3,rfl⟩ (x:=⟨3,1,.slice ap C.length cp,C.length,(R9 p.cap (U2 p C (B2 us))).map (Value.int .i64)⟩) HPo.out (A7.size ⟨y,rfl⟩));have HW7:=A2 (show A7 we y3.w from A7.trans ⟨y,rfl⟩ ⟨y3,rfl⟩);clear HFm HPo;generalize y3.w=w7 at *;go_upto_region 37 with(at_make;refine AF6 (w0:=w7) ⟨A6.self w7,rfl⟩ rfl _ _ 67 rfl w7.heap.size (Nat.le_refl _) 76 (.agg #[.int .i64 0,.int .i64 0,.slice none 0 0,.int .i64 0]) 4 48 At0 .i64 .i64 C.length rfl rfl (by have:=Hcn.out.1;omega) (by have:=Hcn.out.1;unfold maxLen;omega) ?_;intro ov q hown0 _;(have HOv:=A2 hown0);clear hown0)
     obtain⟨y4,hy4⟩:=A7.trans HW7.out ⟨q,rfl⟩;have HF8:=A2 (show S7 y4.w we.heap.size (R6 p C (B2 us) L (.slice ab C.length cb) (.slice ar C.length cr) (.slice ad C.length cd) (.slice as' C.length cs') (.slice ap C.length cp) ov []) L from by rw[←hy4];exact HF7.out.row (w':=q.w) ⟨q,rfl⟩ (x:=⟨76,4,ov,0,[]⟩) HOv.out (A7.size HW7.out));rw[hy4];clear HF7 HW7 HOv hy4;go_wp2_with fail;go_loopw [28,136] (fun ov i wr=>∃(k:Nat) (y:A6 we) (L':List J5) (F:List I1),k≤C.length∧i= .int .i64 k∧wr=y.w∧S7 y.w we.heap.size (R6 p C (B2 us) L (.slice ab C.length cb) (.slice ar C.length cr) (.slice ad C.length cd) (.slice as' C.length cs') (.slice ap C.length cp) ov F) L'∧gZ p C (B2 us) k L'∧hJ p C (B2 us) k L' F∧bQ L'=bQ L) (fun _ i _ =>C.length-(intOf i).toNat)
     case atStart=>exact⟨0,y4,L,[],by omega,rfl,rfl,HF8.out,HLo.out.three,Bp0 _ _ _ _,rfl⟩
     case round=>
      obtain⟨k,y5,L',F,hk,rfl,rfl,hF,hL3,hF3,hpt⟩:=hrel;clear HF8 HLo;obtain⟨ao,no,co,rfl⟩:=G5 (hF.r _ (A0 (jO p C (B2 us) L (.slice ab C.length cb) (.slice ar C.length cr) (.slice ad C.length cd) (.slice as' C.length cs') (.slice ap C.length cp) _ F)));have HF:=A2 hF;have HL3:=A2 hL3;have HF3:=A2 hF3;have HPt:=A2 hpt;clear hF hL3 hF3 hpt;by_cases hlt:k<C.length
      ·have Hlt:=A2 hlt
       obtain⟨x,hx,hx1,hx2,hx3⟩:=HL3.out.at hlt;have Hx:=A2 hx;have Hx1:=A2 hx1;have Hx2:=A2 hx2;have Hx3:=A2 hx3;have Htt:=A2 (Bq0 Hok.out HBi.out hlt);obtain⟨b1,o1,rfl,h1b,c1⟩:=xP (HF.out.r _ (A0 (Bp6 p C (B2 us) L (.slice ab C.length cb) (.slice ar C.length cr) (.slice ad C.length cd) (.slice as' C.length cs') (.slice ap C.length cp) (.slice ao no co) F))) (by rw[←HPt.out];exact Bq1 hx);obtain⟨b2,o2,rfl,h2b,c2⟩:=xP (HF.out.r _ (A0 (Bp8 p C (B2 us) L (.slice (some ⟨b1,o1,none⟩) C.length cb) (.slice ar C.length cr) (.slice ad C.length cd) (.slice as' C.length cs') (.slice ap C.length cp) (.slice ao no co) F))) (At2 (i:=k) (by rw[xO];exact hlt));obtain⟨b3,o3,rfl,h3b,c3⟩:=xP (HF.out.r _ (A0 (Bp7 p C (B2 us) L (.slice (some ⟨b1,o1,none⟩) C.length cb) (.slice ar C.length cr) (.slice ad C.length cd) (.slice as' C.length cs') (.slice (some ⟨b2,o2,none⟩) C.length cp) (.slice ao no co) F))) (At2 (i:=k) (by rw[As9];exact hlt));rw[show B2 (H7 p C (B2 us) C.length) k=(L8 p (C1 C k) (B2 us k)).tt from by unfold H7;rw[fH _ _ _ hlt]]at c3;obtain⟨pd,hpd⟩:∃a,B2 (R9 p.cap (U2 p C (B2 us))) k=a:=⟨_,rfl⟩
       obtain⟨sm,hsm⟩:∃a,(L8 p (C1 C k) (B2 us k)).tt=a:=⟨_,rfl⟩
       have Hpd:=A2 hpd;have Hsm:=A2 hsm;rw[hpd]at c2;rw[hsm]at c3;rw[hpd,hsm]at Htt;have hq:pd-sm≤0∧-1000000000000≤pd-sm:=by have:=Htt.out.1;omega
       have hw1:IntKind.i64.wrap (pd-sm)=pd-sm:=IntWalk.i64_in _ ⟨by omega,by omega⟩;have hk0:(0:Int)≤(k:Int):=by omega
       have hkl:(k:Int)<(C.length:Int):=by omega
       have Hbm:=A2 (HF.out.bl x (A0 hx));have HS2:=A2 (show∀w':World,A7 y5.w w'→w'.cell? ⟨b2,o2+k,none⟩=some (.int .i64 pd)∧w'.cell? ⟨b3,o3+k,none⟩=some (.int .i64 sm)from fun w' hw=>by obtain⟨z,rfl⟩:=hw;exact⟨A6.cell c2 h2b z,A6.cell c3 h3b z⟩);have HFd:=A2 (HF.out.to (A7.drew' (A7.self _)));have yJ:=A2 (show A7 we y5.w.drew from A7.trans ⟨y5,rfl⟩ (A7.drew' (A7.self _)));have HC1:=A2 (Aq7 we y5.w.drew yJ.out x.g x.id x.rd x.v x.b (Hbm.out.to (A7.drew' (A7.self _))) 6 0 (pd-sm) (by rw[hx3];have:=Bf4 p (C1 C k) (B2 us k);omega) (by rw[hx3,hsm,show sm+(pd-sm)=pd from by omega];have:=Htt.out.1;exact⟨by omega,by omega⟩));unfold rO at HC1;clear hx1 hx2 hx3 hpd hsm h1b h2b h3b hlt hk hx;go_upto_region 40 with fail;clear c1 c2 c3;refine R0 (fun w'=>w'.cell? ⟨b2,o2+k,none⟩=some (.int .i64 pd)∧w'.cell? ⟨b3,o3+k,none⟩=some (.int .i64 sm)) 10 (by kernel_rfl) (HS2.out _ (A7.drew' (A7.self _))) (fun hS=>?_);refine tk 0 ?_ rfl (by kernel_rfl) hS (fun _ _ _ h=>h) ?_ ?_;rotate_left
       ·(intro w h;(try dsimp only at h);go_split_ands;go_simp;try with_reducible rfl)
       (try simp only[Act.put,B0])
       refine tk 1 ?_ rfl (by kernel_rfl) hS (fun _ _ _ h=>h) ?_ ?_;rotate_left
       ·(intro w h;(try dsimp only at h);go_split_ands;go_simp;try with_reducible rfl)
       (try simp only[Act.put,B0])
       refine tk 2 ?_ rfl (by kernel_rfl) hS (fun _ _ _ h=>h) ?_ ?_;rotate_left
       ·(intro w h;(try dsimp only at h);go_split_ands;go_simp;try with_reducible rfl)
       (try simp only[Act.put,B0])
       refine tk 3 ?_ rfl (by kernel_rfl) hS (fun _ _ _ h=>h) ?_ ?_;rotate_left
       ·(intro w h;(try dsimp only at h);go_split_ands;go_simp;try with_reducible rfl)
       (try simp only[Act.put,B0])
       refine tk 4 ?_ rfl (by kernel_rfl) hS (fun _ _ _ h=>h) ?_ ?_;rotate_left
       ·(intro w h;(try dsimp only at h);go_split_ands;go_simp;try with_reducible rfl)
       (try simp only[Act.put,B0])
       refine tk 5 ?_ rfl (by kernel_rfl) hS (fun _ _ _ h=>h) ?_ ?_;rotate_left
       ·(intro w h;(try dsimp only at h);go_split_ands;go_simp;try with_reducible rfl)
       (try simp only[Act.put,B0])
       refine tk 6 ?_ rfl (by kernel_rfl) hS (fun _ _ _ h=>h) ?_ ?_;rotate_left
       ·(intro w h;(try dsimp only at h);go_split_ands;go_simp;try with_reducible rfl)
       (try simp only[Act.put,B0])
       refine tk 7 ?_ rfl (by kernel_rfl) hS (fun _ _ _ h=>h) ?_ ?_;rotate_left
       ·(intro w h;(try dsimp only at h);go_split_ands;go_simp;try with_reducible rfl)
       (try simp only[Act.put,B0])
       refine tk 8 ?_ rfl (by kernel_rfl) hS (fun _ _ _ h=>h) ?_ ?_;rotate_left
       ·(intro w h;(try dsimp only at h);go_split_ands;go_simp;try with_reducible rfl)
       (try simp only[Act.put,B0])
       refine tk 9 ?_ rfl (by kernel_rfl) hS (fun _ _ _ h=>h) ?_ ?_;rotate_left
       ·(intro w h;(try dsimp only at h);go_split_ands;go_simp;try with_reducible rfl)
       (try simp only[Act.put,B0])
       refine G6 10 (by kernel_rfl) rfl fun K hK=>?_;(go_simp;(with_reducible refine HC1.out.mono ?_);rintro _ w6 ⟨rfl,v',hb1,hb2,hb3⟩;(have Hb1:=A2 hb1);(have Hb2:=A2 hb2);(have Hb3:=A2 hb3);clear hb1 hb2 hb3)
       refine M0 hK (by kernel_rfl) ?_;clear hK K;(try clear hS)
       (try simp only[Act.put,B0])
       obtain⟨x7,hx7⟩:∃z:J5,{x with v:=v',b:=(l8 p C (B2 us) k).b}=z:=⟨_,rfl⟩
       have hxb:x.b.add 6 0 (pd-sm)=(l8 p C (B2 us) k).b:=by rw[Hx3.out,←Hpd.out,←Hsm.out];rfl
       rw[hxb]at Hb1;clear hxb HC1;have HF6:=A2 (HFd.out.add Hx.out Hb1.out Hb2.out Hb3.out);have HW6:=A2 (HFd.out.since yJ.out Hb2.out (fun b hb=>.inr ⟨x,A0 Hx.out,by unfold J5.blk;simpa using hb⟩));have HL6:=A2 (HL3.out.next Hx.out v');have HP6:=A2 ((Bq2 Hx.out v' (l8 p C (B2 us) k).b).trans HPt.out);have Hx7:=A2 hx7;rw[hx7]at HF6 HL6 HP6;clear HFd yJ HS2 Hbm Hb2 Hb3 hx7 HF HL3 HPt;have hfin:=Bo0 w6 (A6.self w6) (bx+1) (bx+2) x.g (fun z=>(HBv.out.to (A7.trans HW6.out ⟨z,rfl⟩)).c 0 _ rfl);rw[show(A6.self w6).w=w6 from rfl]at hfin;go_upto_region 42 with(go_at_call 56;(with_reducible refine hfin.mono ?_);clear hfin;rintro _ _ ⟨rfl,y6,rfl⟩)
       replace HF6:=A2 (HF6.out.to (⟨y6,rfl⟩:∃z:A6 w6,y6.w=z.w));replace HW6:=A2 (A7.trans HW6.out ⟨y6,rfl⟩);replace Hb1:=A2 (Hb1.out.to (⟨y6,rfl⟩:∃z:A6 w6,y6.w=z.w));generalize y6.w=w6' at *;obtain⟨fx,hfx,hff,hfv⟩:=Bq3 Hb1.out;rw[Htt.out.2]at hfx;have HB7:=A2 Hb1.out.bx;rw[Htt.out.2]at HB7;have Hfx:=A2 hfx;have Hff:=A2 hff;have Hfv:=A2 hfv;clear hfx hff hfv;obtain⟨ai,ni,ci,rfl⟩:=G5 Hb1.out.it;have c0:w6'.cell? ⟨x.g,0,none⟩=some (.int .i64 x.id):=HB7.out.c 0 _ rfl;have c1:w6'.cell? ⟨x.g,1,none⟩=some (.int .i64 x.rd):=HB7.out.c 1 _ rfl;have c2:w6'.cell? ⟨x.g,2,none⟩=some (.slice ai ni ci):=HB7.out.c 2 _ rfl;have c3:w6'.cell? ⟨x.g,3,none⟩=some (.int .i64 pd):=HB7.out.c 3 _ rfl;have hq3:¬(1000000000000<pd):=by have:=Htt.out.1;omega
       clear hw1 hq;have hno:no=F.length:=jN (HF6.out.r _ (A0 (jO p C (B2 us) L (.slice (some ⟨b1,o1,none⟩) C.length cb) (.slice ar C.length cr) (.slice ad C.length cd) (.slice (some ⟨b3,o3,none⟩) C.length cs') (.slice (some ⟨b2,o2,none⟩) C.length cp) (.slice ao no co) F)));rw[hno]at HF6⊢;clear hno;go_upto_region 45 with(at_builtin;(refine fU (k:=4) (w0:=we) ?hwQ rfl _ _ 67 rfl we.heap.size (Nat.le_refl _) ?hbQ 76 (.agg #[.int .i64 0,.int .i64 0,.slice none 0 0,.int .i64 0]) 48 At0 (.slice ao F.length co) F.length (B6 I1.cs F) rfl ?BD2 ⟨w6'.heap.size,0,none⟩ 1 1 [.int .i64 x.id,.int .i64 x.rd,.slice ai ni ci,.int .i64 pd] rfl rfl (Z1 w6' [.int .i64 x.id,.int .i64 x.rd,.slice ai ni ci,.int .i64 pd] _) ?h1Q (by decide) ?BB9 ?BC5 ?_;rotate_right 1;intro v6 q6 hown6 hg6 hl6;(obtain⟨ao2,no2,co2,rfl⟩:=G5 hown6);(have X2:=A2 hown6);(have Hg6:=A2 hg6);(have Hl6:=A2 hl6);clear hown6 hg6 hl6))
       case hwQ=>exact A7.alloc HW6.out _
       case hbQ=>have:=A7.size HW6.out;simp;omega
       case BD2=>exact fV (HF6.out.r _ (A0 (jO p C (B2 us) L (.slice (some ⟨b1,o1,none⟩) C.length cb) (.slice ar C.length cr) (.slice ad C.length cd) (.slice (some ⟨b3,o3,none⟩) C.length cs') (.slice (some ⟨b2,o2,none⟩) C.length cp) (.slice ao F.length co) F)))
       case h1Q=>first|exact⟨rfl,rfl,rfl,rfl⟩|(rw[←Hfx.out];exact Ar9 fx)
       case BB9=>have:=Hcn.out.1;have:=Hlt.out;have:=HF3.out.len;unfold maxLen;omega
       case BC5=>have:=Hcn.out.1;have:=Hlt.out;have:=HF3.out.len;omega
       have Hpu:=A2 (HF6.out.push (i:=5) (jO p C (B2 us) L (.slice (some ⟨b1,o1,none⟩) C.length cb) (.slice ar C.length cr) (.slice ad C.length cd) (.slice (some ⟨b3,o3,none⟩) C.length cs') (.slice (some ⟨b2,o2,none⟩) C.length cp) (.slice ao F.length co) F) (A7.alloc (A7.self _) _) X2.out Hg6.out Hl6.out).1;rw[←Hfx.out,Bp9]at Hpu;have HF8:=A2 (HF3.out.next Hx.out (y':=x7) (x:=fx) (by rw[Hff.out,Hx1.out,Hx2.out];rfl) (by rw[Hfv.out,←Hx7.out]));clear c0 c1 c2 c3 X2 Hg6 Hl6 HF6 Hb1 HB7;have bC:=Hcn.out.1;have hlt:=Hlt.out;go_wp2_with fail;go_roundw
       case rel=>exact⟨k+1,q6,_,_,Hlt.out,by go_num,rfl,Hpu.out,HL6.out,HF8.out,HP6.out⟩
       case measure=>have:=Hlt.out;simp[intOf];omega
      ·obtain rfl:k=C.length:=by omega
       have hcall:=Bm5 y5.w we.heap.size _ _ F (HF.out.r _ (A0 (jO p C (B2 us) L (.slice ab C.length cb) (.slice ar C.length cr) (.slice ad C.length cd) (.slice as' C.length cs') (.slice ap C.length cp) (.slice ao no co) F))) (by have:=Hcn.out.1;have:=HF3.out.len;omega);unfold As1 at hcall;have HFin:=A2 (fun(w':World) (F':List I1) (hg:y5.w.grownBy w' (Value.slice ao no co).ownBlock) (hp:F'.Perm F) (hs:F'.Pairwise fun x y=>x.id≤y.id) (ho:w'.ownsRow we.heap.size 76 4 (.slice ao no co) F.length (B6 I1.cs F'))=>HPG.out w' (A7.trans HWe.out (HF.out.since ⟨y5,rfl⟩ (At3 hg) (fun b hb=>.inl ⟨_,A0 (jO p C (B2 us) L (.slice ab C.length cb) (.slice ar C.length cr) (.slice ad C.length cd) (.slice as' C.length cs') (.slice ap C.length cp) (.slice ao no co) F),hb⟩))) (.slice ao no co) (B2 us) F' ((HfE.out (B2 us)).trans HBi.out) HUo.out.2 (Bq4 HC.out HF.out HL3.out HF3.out hg hp hs ho (A7.size HWe.out)));clear HF HL3 HF3 HPt hlt hk;go_wp2_with(go_at_call 62;(with_reducible refine hcall.mono ?_);clear hcall;rintro _ w9 ⟨rfl,hg9,F',hp9,hs9,ho9⟩;(have HR9:=A2 (HFin.out w9 F' hg9 hp9 hs9 ho9));clear hg9 hp9 hs9 ho9);exact HR9.out
end Go.Proofs.YtmmlmhnjjfnpnaaGreat
