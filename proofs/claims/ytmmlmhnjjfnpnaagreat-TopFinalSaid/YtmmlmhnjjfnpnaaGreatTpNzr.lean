/- Texts that belong together. -/
import Derived.Test.YtmmlmhnjjfnpnaaGreatTpNzq
set_option linter.all false
namespace Go.Proofs.YtmmlmhnjjfnpnaaGreat
open Go.RowKit
theorem Ax5 {f:D5} {p:E4} (h:lJ f p=true):p.pl.length≤80∧p.dk.length≤40:=by
 unfold lJ at h;simp only[Bool.and_eq_true,decide_eq_true_eq]at h;omega
theorem Bw5 {f:D5} {p:E4} {la lb:List Ev} {ha hb:Int} {M N:List A8} (HM:dC f (G9 la) ha M) (HN:dC f (G9 lb) hb N) (hab:ha≤hb) (hF:nY (P1 f (G9 la)) (P1 f (G9 lb)) ha) (l1:(G9 la).length≤512) (l2:(G9 lb).length≤512) {u v:Nat→Int} {F G:List I1} (hu:S5 p.ps (M5 M) u∧(F.map I1.far).Perm (cI p (M5 M) u)) (hv:S5 p.ps (M5 N) v∧(G.map I1.far).Perm (cI p (M5 N) v)) {x:I1} (hx:x∈F):∃(j:Nat) (g:I1),G[j]? =some g∧g.id=x.id∧g.rd=x.rd∧g.tt=x.tt∧g.it=x.it:=by
 have h1:=hu.2.mem_iff.1 (List.mem_map_of_mem hx);have h2:=Bu1 HM HN hab hF l1 l2 hu.1 hv.1 h1;obtain⟨g,hg,he⟩:=List.mem_map.1 (hv.2.mem_iff.2 h2);obtain⟨j,hj,rfl⟩:=List.mem_iff_getElem.1 hg;exact⟨j,_,A3 hj,congrArg eM.id he,congrArg eM.rd he,congrArg (fun z:eM=>z.b.2) he,congrArg (fun z:eM=>z.b.1) he⟩
set_option maxRecDepth 200000 in
set_option maxHeartbeats 64000000 in
theorem Bw6 (w:World) (x:A6 w) (f:D5) (da ta:Option Addr) (dc tc:Nat) (hf:Y6 w f da ta) (p:E4) (ga pa la ka fa:Option Addr) (gc pc lc kc fc:Nat) (hp:p.pl.length≤4611686018427387904→p.dk.length≤4611686018427387904→dA w p ga pa la ka fa) (hq1:p.tr.length≤9223372036854775807) (hq2:p.ps.length≤9223372036854775807) (hq3:p.pl.length≤9223372036854775807) (hq4:p.dk.length≤9223372036854775807) (hq5:p.fn.length≤9223372036854775807) (hz1:la=none→lc=0) (hz2:ka=none→kc=0) (a:Option Addr) (l:List Ev) (c:Nat) (h:D0 Ev.cs 9 w a l) (hl:l.length≤9223372036854775807) (hI:∀e∈l,T4 e.p) (t:Int) (ht:0≤t∧t≤255):
 Calls Tryz.prog 4 #[.agg #[.int .i64 f.bk,.int .i64 f.rd,.int .i64 f.dv,.slice da f.dk.length dc,.slice ta f.tk.length tc,.slice ga p.tr.length gc,.slice pa p.ps.length pc,.slice la p.pl.length lc,.slice ka p.dk.length kc,.int .i64 p.cap,.slice fa p.fn.length fc,.int .i64 p.fd],.slice a l.length c,.int .u8 t] x.w fun o w'=>o= .returned (.bool true)∧∃y:A6 w,w'=y.w:=by
 have HP:=A2 (fun(w':World) (h:A7 w w')=>show(fun(o:Ending) (w':World)=>o= .returned (.bool true)∧∃y:A6 w,w'=y.w) (.returned (.bool true)) w' from⟨rfl,h⟩);generalize(fun(o:Ending) (w':World)=>o= .returned (.bool true)∧∃y:A6 w,w'=y.w)=PO at *;have HA:=A2 (fun(W:World)=>show Calls Tryz.prog 7 #[] W (fun o w'=>o= .returned (.bool true)∧∃y:A6 W,w'=y.w)from Br7 W (A6.self W));have HF:=A2 hf;have HPr:=A2 hp;have HL:=A2 h;have HI:=A2 hI;have Ht:=A2 ht;have Hz1:=A2 hz1;have Hz2:=A2 hz2;clear hf hp h hI ht hz1 hz2;go_enter Tryz.func4,Tryz.ntmps4;go_upto_region 1 with fail;obtain⟨W,bx,y0,hW,hbx,-,B8,Hup,Hbx,HB0⟩:=J8 x (([.int .i64 f.bk,.int .i64 f.rd,.int .i64 f.dv,.slice da f.dk.length dc,.slice ta f.tk.length tc,.slice ga p.tr.length gc,.slice pa p.ps.length pc,.slice la p.pl.length lc,.slice ka p.dk.length kc,.int .i64 p.cap,.slice fa p.fn.length fc,.int .i64 p.fd]:List Value)) 55;rw[hW,hbx];clear hW hbx;have hB0:=fun y:A6 W=>HB0.since y;clear HB0;have HB:=A2 (hB0 y0);have HWa:=A2 (show A7 w y0.w from Hup.out y0);have Hlt:=A2 (show w.heap.size≤bx from by have:=Hbx.out;omega);clear hB0 B8 Hup Hbx;generalize y0.w=wa at *;obtain⟨c0,c1,c2,c3,c4,c5,c6,c7,c8,c9,c10,c11,cf⟩:=Ac7 HB.out;clear cf;obtain⟨v,hv⟩:∃v,lJ f p=v:=⟨_,rfl⟩
 have hcall:=Bu5 wa (A6.self wa) f da ta dc tc (HF.out.to HWa.out) p ga pa la ka fa gc pc lc kc fc hq1 hq2 hq3 hq4 hq5;clear hq1 hq2 hq3 hq4 hq5;rw[show(A6.self wa).w=wa from rfl,hv]at hcall;by_cases h0:v=false
 ·subst h0
  go_wp2_with(first|(go_at_call 7;(with_reducible refine(HA.out _).mono ?_);rintro _ _ ⟨rfl,ya,rfl⟩)|(go_at_call 13;(with_reducible refine hcall.mono ?_);rintro _ _ ⟨rfl,y1,rfl⟩));first
   |exact HP.out _ (A7.trans HWa.out (A7.trans ⟨y1,rfl⟩ ⟨ya,rfl⟩))
   |(go_ret;exact HP.out _ (A7.trans HWa.out (A7.trans ⟨y1,rfl⟩ ⟨ya,rfl⟩)))
 obtain rfl:v=true:=by simpa using h0
 replace HPr:=A2 (HPr.out (by have:=Ax5 hv;omega) (by have:=Ax5 hv;omega));by_cases h40:40<l.length
 ·have h41:(40:Int)<(l.length:Int):=by omega
  go_wp2_with(first|(go_at_call 7;(with_reducible refine(HA.out _).mono ?_);rintro _ _ ⟨rfl,ya,rfl⟩)|(go_at_call 13;(with_reducible refine hcall.mono ?_);rintro _ _ ⟨rfl,y1,rfl⟩));first
   |exact HP.out _ (A7.trans HWa.out (A7.trans ⟨y1,rfl⟩ ⟨ya,rfl⟩))
   |(go_ret;exact HP.out _ (A7.trans HWa.out (A7.trans ⟨y1,rfl⟩ ⟨ya,rfl⟩)))
 have h41:¬(40:Int)<(l.length:Int):=by omega
 have H40:=A2 (show l.length≤40 from by omega);clear h0 hv h40;go_upto_region 3 with(go_at_call 13;(with_reducible refine hcall.mono ?_);clear hcall;rintro _ _ ⟨rfl,y1,rfl⟩)
 clear c0 c1 c2 c3 c4 c5 c6 c7 c8 c9 c10 c11;clear h41 hl;replace HB:=A2 (HB.out.since y1);have HWb:=A2 (A7.trans HWa.out ⟨y1,rfl⟩);clear HWa;generalize y1.w=wb at *;have d2:∀y:A6 wb,y.w.cell? ⟨bx,2,none⟩=some (.int .i64 f.dv):=fun y=>(HB.out.since y).c 2 _ rfl;have HN:=A2 (fun(y:A6 wb)=>show Calls Tryz.prog 14 #[.int .i64 f.dv] y.w (iY y.w f.dv)from AR2 y.w (A6.self y.w) f.dv);unfold iY at HN;by_cases hn:1≤f.dv∧f.dv≤256;rotate_left
 ·simp only[if_neg hn]at HN
  clear hn;have HN2:=A2 (fun(y:A6 wb)=>(HN.out y));have d2w:=d2 (A6.self wb);rw[show(A6.self wb).w=wb from rfl]at d2w;have HN0:=HN.out (A6.self wb);rw[show(A6.self wb).w=wb from rfl]at HN0;go_upto_region 4 with(go_at_call 14;(with_reducible refine HN0.mono ?_);rintro _ _ ⟨rfl,y2,rfl⟩)
  clear d2w HN0;go_wp2_with(first|(go_at_call 7;(with_reducible refine(HA.out _).mono ?_);rintro _ _ ⟨rfl,ya,rfl⟩)|(go_at_call 14;(with_reducible refine(HN2.out _).mono ?_);rintro _ _ ⟨rfl,y3,rfl⟩));first
   |exact HP.out _ (A7.trans HWb.out (A7.trans (A7.trans ⟨y2,rfl⟩ ⟨y3,rfl⟩) ⟨ya,rfl⟩))
   |(go_ret;exact HP.out _ (A7.trans HWb.out (A7.trans (A7.trans ⟨y2,rfl⟩ ⟨y3,rfl⟩) ⟨ya,rfl⟩)))
 simp only[if_pos hn]at HN;obtain⟨N,hN⟩:∃N:Nat,f.dv=(N:Int):=⟨f.dv.toNat,by omega⟩
 have Ay7:=A2 (show N≤256 from by omega);rw[hN]at HN d2;have HNv:=A2 hN;clear hn hN;have d2w:=d2 (A6.self wb);rw[show(A6.self wb).w=wb from rfl]at d2w;have HN0:=HN.out (A6.self wb);rw[show(A6.self wb).w=wb from rfl]at HN0;go_upto_region 4 with(go_at_call 14;(with_reducible refine HN0.mono ?_);rintro _ _ ⟨pA,bA,y2,rfl,rfl,hpA,hbA,hRA⟩)
 clear d2w HN0;have HRA:=A2 hRA;have HbA:=A2 hbA;have HN1:=HN.out y2;go_upto_region 5 with(go_at_call 14;(with_reducible refine HN1.mono ?_);rintro _ _ ⟨pB,bB,y3,rfl,rfl,hpB,hbB,hRB⟩)
 clear HN1 HN d2;replace HRA:=A2 (HRA.out.since y3);have Hne:=A2 (show bA≠bB from by have:=hRA.lt.2;omega);have HbB:=A2 (show wb.heap.size≤bB from by have:=y2.b.size;omega);obtain⟨y4,e4⟩:=y2.trans y3;rw[e4]at HRA hRB⊢;have HRB:=A2 hRB;clear hRA hbA hpA hpB hbB hRB e4;obtain⟨kk,hkk,hkl⟩:=Bs2 (a:=t) (n:=(l.length:Int)+1) (m:=l.length+1) Ht.out.1 (by omega) (by omega);have hw1:IntKind.i64.wrap t=t:=IntWalk.i64_in _ ⟨by have:=Ht.out;omega,by have:=Ht.out;omega⟩;have hw2:IntKind.i64.wrap ((l.length:Int)+1)=(l.length:Int)+1:=IntWalk.i64_in _ ⟨by omega,by have:=H40.out;omega⟩;have hw3:IntKind.i64.wrap (kk:Int)=(kk:Int):=IntWalk.i64_in _ ⟨by omega,by have:=H40.out;omega⟩;have hne:¬(l.length:Int)+1=0:=by omega
 have Hkl:=A2 hkl;clear hkl;go_upto_region 8 with fail;clear hkk hw1 hw2 hw3 hne;go_wp2_with fail;go_loopw [12] (fun i wr=>∃(j:Nat) (y:A6 wb) (La Lb:List Ev),j≤l.length∧i= .int .i64 j∧wr=y.w∧R8 y.w pA bA N La∧R8 y.w pB bB N Lb∧i8 N l kk j La Lb) (fun i _ =>l.length-(intOf i).toNat)
 case atStart=>exact⟨0,y4,[],[],by omega,rfl,rfl,HRA.out,HRB.out,Bw4 _ _ _⟩
 case round=>
  clear HRA HRB;obtain⟨j,y,La,Lb,hj,rfl,rfl,hRA,hRB,hT⟩:=hrel;have HRA:=A2 hRA;have HRB:=A2 hRB;have HT:=A2 hT;clear hRA hRB hT;by_cases hlt:j<l.length
  ·obtain⟨e,he⟩:∃e,l[j]? =some e:=⟨_,A3 hlt⟩
   obtain⟨b1,off1,hx1,ra0,ra1,ra2,ra3,ra4,ra5,ra6,ra7,ra8⟩:=Bw2 (HL.out.to HWb.out) he;have sX:=A2 (A0 he);have hj0:(0:Int)≤(j:Int):=by omega
   have hjl:(j:Int)<(l.length:Int):=by omega
   subst hx1;clear he;have HB1:=A2 (Ai1 y.w pB bB N Lb e HRB.out);unfold aT Ev.ag at HB1;obtain⟨ae,hae⟩:∃ae,i4 N Lb e=ae:=⟨_,rfl⟩
   obtain⟨fb,hfb⟩:∃fb,bI N Lb e=fb:=⟨_,rfl⟩
   rw[hae,hfb]at HB1;clear hfb;have ARM:=A2 (fun(w4:World) (hg:y.w.grownBy w4 (some bB))=>show∃z:A6 wb,w4=z.w from y.grown hg (fun k hk=>by rw[←Option.some.inj hk];exact HbB.out));have KEEP:=A2 (fun(w4:World) (hg:y.w.grownBy w4 (some bB))=>show R8 w4 pA bA N La from HRA.out.keep HRB.out.m Hne.out hg);by_cases h0:ae=0
   ·subst h0
    by_cases hjk:j<kk
    ·have BC9:(j:Int)<(kk:Int):=by omega
     have HT2:=A2 (HT.out.both sX.out hjk);have HAdd:=A2 (fun(z:A6 wb) (h:R8 z.w pA bA N La)=>by have h1:=Ai1 z.w pA bA N La e h;unfold aT Ev.ag at h1;exact h1);go_wp2_with(first|(go_at_call 15;(with_reducible refine HB1.out.mono ?_);rintro _ w4 ⟨rfl,hg,hB2⟩;(have hA2:=KEEP.out w4 hg);obtain⟨z,rfl⟩:=ARM.out w4 hg;(have HA2:=A2 hA2);(have HB2:=A2 hB2);clear hA2 hB2 hg)|(go_at_call 15;(with_reducible refine(HAdd.out z HA2.out).mono ?_);rintro _ w5 ⟨rfl,hg,hA3⟩;(have hB3:=HB2.out.keep HA2.out.m Hne.out.symm hg);obtain⟨z2,rfl⟩:=z.grown hg (fun k hk=>by rw[←Option.some.inj hk];exact HbA.out);(have HA3:=A2 hA3);(have HB3:=A2 hB3);clear hA3 hB3 hg));go_roundw
     case rel=>exact⟨j+1,z2,_,_,by omega,by go_num,rfl,HA3.out,HB3.out,HT2.out⟩
     case measure=>simp[intOf];omega
    ·have BC9:¬(j:Int)<(kk:Int):=by omega
     have HT2:=A2 (HT.out.late sX.out hjk);go_wp2_with(go_at_call 15;(with_reducible refine HB1.out.mono ?_);rintro _ w4 ⟨rfl,hg,hB2⟩;(have hA2:=KEEP.out w4 hg);obtain⟨z,rfl⟩:=ARM.out w4 hg;(have HA2:=A2 hA2);(have HB2:=A2 hB2);clear hA2 hB2 hg);go_roundw
     case rel=>exact⟨j+1,z,_,_,by omega,by go_num,rfl,HA2.out,HB2.out,HT2.out⟩
     case measure=>simp[intOf];omega
   ·have HT2:=A2 (HT.out.none (by rw[hae];exact h0))
    go_wp2_with(go_at_call 15;(with_reducible refine HB1.out.mono ?_);rintro _ w4 ⟨rfl,hg,hB2⟩;(have hA2:=KEEP.out w4 hg);obtain⟨z,rfl⟩:=ARM.out w4 hg;(have HA2:=A2 hA2);(have HB2:=A2 hB2);clear hA2 hB2 hg);go_roundw
    case rel=>exact⟨j+1,z,_,_,by omega,by go_num,rfl,HA2.out,HB2.out,HT2.out⟩
    case measure=>simp[intOf];omega
  ·obtain rfl:j=l.length:=by omega
   have jY:=A2 (HT.out.fin (f:=f));have Hia:=A2 HT.out.ia;have Hib:=A2 HT.out.i;have Hlen:=A2 (HT.out.lens H40.out);have AA6:=A2 (HT.out.pls HI.out);obtain⟨fe,hfe⟩:∃fe,H9 f=fe:=⟨_,rfl⟩
   have Hfe:=A2 hfe;replace HB:=A2 (HB.out.since y);have HWd:=A2 (A7.trans HWb.out ⟨y,rfl⟩);clear HWb HT hj hlt hfe;go_upto_region 14 with fail;generalize y.w=wd at *;have e0:=fun(u:World) (hu:A7 wd u)=>(HB.out.to hu).c 0 _ rfl;have e1:=fun(u:World) (hu:A7 wd u)=>(HB.out.to hu).c 1 _ rfl;have e2:=fun(u:World) (hu:A7 wd u)=>(HB.out.to hu).c 2 _ rfl;have e3:=fun(u:World) (hu:A7 wd u)=>(HB.out.to hu).c 3 _ rfl;have e4:=fun(u:World) (hu:A7 wd u)=>(HB.out.to hu).c 4 _ rfl;have E1:=A2 (fun(u:World) (hu:A7 wd u)=>show Calls Tryz.prog 16 #[.pointer (some ⟨pA,0,none⟩)] u (rZ u (J3 La))from As4 u (A6.self u) pA bA N La (HRA.out.to hu) Hia.out);have A1:=A2 (fun(u:World) (hu:A7 wd u) (a:Option Addr) (n:Nat) (h:D0 Ev.cs 9 u a (J3 La))=>show Calls Tryz.prog 8 #[.agg #[.int .i64 f.bk,.int .i64 f.rd,.int .i64 f.dv,.slice da f.dk.length dc,.slice ta f.tk.length tc],.slice a (J3 La).length n] u (yF u f fe (G9 (J3 La)))from(xB u (A6.self u) f da ta dc tc (HF.out.to (A7.trans HWd.out hu)) a (J3 La) n h Hlen.out.1 (AA6.out.1)).mono (fun o w' h=>Ax4 Hfe.out h));refine R0 (fun w'=>A7 wd w') 9 (by kernel_rfl) (A7.drew' (A7.self _)) (fun hS=>?_);refine tk 0 ?_ rfl (by kernel_rfl) hS (fun _ _ _ h=>h) ?_ ?_;rotate_left
   ·(intro w h;(try dsimp only at h);go_split_ands;go_simp;try with_reducible rfl)
   (try simp only[Act.put,B0])
   refine tk 1 ?_ rfl (by kernel_rfl) hS (fun _ _ _ h=>h) ?_ ?_;rotate_left
   ·(intro w h;(try dsimp only at h);go_split_ands;go_simp;try with_reducible rfl)
   (try simp only[Act.put,B0])
   refine tk 2 ?_ rfl (by kernel_rfl) hS (fun _ _ _ h=>h) ?_ ?_;rotate_left
   ·(intro w h;(try dsimp only at h);go_split_ands;go_simp;try with_reducible rfl)
   (try simp only[Act.put,B0])
   refine G6 3 (by kernel_rfl) rfl fun K hK=>?_;(go_simp;(with_reducible refine(E1.out _ hS).mono ?_);rintro _ _ ⟨a1,n1,y5,rfl,rfl,hq1,hr1,hq2,hq3⟩;clear hq1 hq2 hq3;(have HR1:=A2 hr1);clear hr1)
   refine E6 hK (A7.trans hS ⟨y5,rfl⟩) ?_;clear hK K hS;intro hS;(try simp only[Act.put,B0])
   refine G6 4 (by kernel_rfl) rfl fun K hK=>?_;(go_simp;(with_reducible refine(A1.out _ hS a1 n1 HR1.out).mono ?_);rintro _ _ ⟨aR1,cR1,R1,y6,rfl,rfl,hr1,hr2⟩;(have sQ:=A2 hr1);(have jW:=A2 hr2);clear hr1 hr2)
   refine E6 hK (A7.trans hS ⟨y6,rfl⟩) ?_;clear hK K hS;intro hS;(try simp only[Act.put,B0])
   refine tk 5 ?_ rfl (by kernel_rfl) hS (fun _ _ _ h=>h) ?_ ?_;rotate_left
   ·(intro w h;(try dsimp only at h);go_split_ands;go_simp;try with_reducible rfl)
   (try simp only[Act.put,B0])
   refine tk 6 ?_ rfl (by kernel_rfl) hS (fun _ _ _ h=>h) ?_ ?_;rotate_left
   ·(intro w h;(try dsimp only at h);go_split_ands;go_simp;try with_reducible rfl)
   (try simp only[Act.put,B0])
   refine tk 7 ?_ rfl (by kernel_rfl) hS (fun _ _ _ h=>h) ?_ ?_;rotate_left
   ·(intro w h;(try dsimp only at h);go_split_ands;go_simp;try with_reducible rfl)
   (try simp only[Act.put,B0])
   refine tk 8 ?_ rfl (by kernel_rfl) hS (fun _ _ _ h=>h) ?_ ?_;rotate_left
   ·(intro w h;(try dsimp only at h);go_split_ands;go_simp;try with_reducible rfl)
   (try simp only[Act.put,B0])
   have HSw:=A2 hS;refine G6 9 (by kernel_rfl) rfl fun K hK=>?_;go_simp;refine M0 hK (by kernel_rfl) ?_;clear hK K;(try clear hS)
   (try simp only[Act.put,B0])
   clear E1 A1 HR1 e0 e1 e2 e3 e4;generalize y6.w=we at *;clear y6 y5;replace HB:=A2 (HB.out.to HSw.out);replace HWd:=A2 (A7.trans HWd.out HSw.out);replace HRA:=A2 (HRA.out.to HSw.out);replace HRB:=A2 (HRB.out.to HSw.out);clear HSw;go_upto_region 15 with fail;have e0:=fun(u:World) (hu:A7 we u)=>(HB.out.to hu).c 0 _ rfl;have e1:=fun(u:World) (hu:A7 we u)=>(HB.out.to hu).c 1 _ rfl;have e2:=fun(u:World) (hu:A7 we u)=>(HB.out.to hu).c 2 _ rfl;have e3:=fun(u:World) (hu:A7 we u)=>(HB.out.to hu).c 3 _ rfl;have e4:=fun(u:World) (hu:A7 we u)=>(HB.out.to hu).c 4 _ rfl;have E1:=A2 (fun(u:World) (hu:A7 we u)=>show Calls Tryz.prog 16 #[.pointer (some ⟨pB,0,none⟩)] u (rZ u (J3 Lb))from As4 u (A6.self u) pB bB N Lb (HRB.out.to hu) Hib.out);have A1:=A2 (fun(u:World) (hu:A7 we u) (a:Option Addr) (n:Nat) (h:D0 Ev.cs 9 u a (J3 Lb))=>show Calls Tryz.prog 8 #[.agg #[.int .i64 f.bk,.int .i64 f.rd,.int .i64 f.dv,.slice da f.dk.length dc,.slice ta f.tk.length tc],.slice a (J3 Lb).length n] u (yF u f fe (G9 (J3 Lb)))from(xB u (A6.self u) f da ta dc tc (HF.out.to (A7.trans HWd.out hu)) a (J3 Lb) n h Hlen.out.2 (AA6.out.2)).mono (fun o w' h=>Ax4 Hfe.out h));refine R0 (fun w'=>A7 we w') 9 (by kernel_rfl) (A7.drew' (A7.self _)) (fun hS=>?_);refine tk 0 ?_ rfl (by kernel_rfl) hS (fun _ _ _ h=>h) ?_ ?_;rotate_left
   ·(intro w h;(try dsimp only at h);go_split_ands;go_simp;try with_reducible rfl)
   (try simp only[Act.put,B0])
   refine tk 1 ?_ rfl (by kernel_rfl) hS (fun _ _ _ h=>h) ?_ ?_;rotate_left
   ·(intro w h;(try dsimp only at h);go_split_ands;go_simp;try with_reducible rfl)
   (try simp only[Act.put,B0])
   refine tk 2 ?_ rfl (by kernel_rfl) hS (fun _ _ _ h=>h) ?_ ?_;rotate_left
   ·(intro w h;(try dsimp only at h);go_split_ands;go_simp;try with_reducible rfl)
   (try simp only[Act.put,B0])
   refine G6 3 (by kernel_rfl) rfl fun K hK=>?_;(go_simp;(with_reducible refine(E1.out _ hS).mono ?_);rintro _ _ ⟨a1,n1,y5,rfl,rfl,hq1,hr1,hq2,hq3⟩;clear hq1 hq2 hq3;(have HR1:=A2 hr1);clear hr1)
   refine E6 hK (A7.trans hS ⟨y5,rfl⟩) ?_;clear hK K hS;intro hS;(try simp only[Act.put,B0])
   refine G6 4 (by kernel_rfl) rfl fun K hK=>?_;(go_simp;(with_reducible refine(A1.out _ hS a1 n1 HR1.out).mono ?_);rintro _ _ ⟨aR2,cR2,R2,y6,rfl,rfl,hr1,hr2⟩;(have Ay9:=A2 hr1);(have jX:=A2 hr2);clear hr1 hr2)
   refine E6 hK (A7.trans hS ⟨y6,rfl⟩) ?_;clear hK K hS;intro hS;(try simp only[Act.put,B0])
   refine tk 5 ?_ rfl (by kernel_rfl) hS (fun _ _ _ h=>h) ?_ ?_;rotate_left
   ·(intro w h;(try dsimp only at h);go_split_ands;go_simp;try with_reducible rfl)
   (try simp only[Act.put,B0])
   refine tk 6 ?_ rfl (by kernel_rfl) hS (fun _ _ _ h=>h) ?_ ?_;rotate_left
   ·(intro w h;(try dsimp only at h);go_split_ands;go_simp;try with_reducible rfl)
   (try simp only[Act.put,B0])
   refine tk 7 ?_ rfl (by kernel_rfl) hS (fun _ _ _ h=>h) ?_ ?_;rotate_left
   ·(intro w h;(try dsimp only at h);go_split_ands;go_simp;try with_reducible rfl)
   (try simp only[Act.put,B0])
   refine tk 8 ?_ rfl (by kernel_rfl) hS (fun _ _ _ h=>h) ?_ ?_;rotate_left
   ·(intro w h;(try dsimp only at h);go_split_ands;go_simp;try with_reducible rfl)
   (try simp only[Act.put,B0])
   have HSw:=A2 hS;refine G6 9 (by kernel_rfl) rfl fun K hK=>?_;go_simp;refine M0 hK (by kernel_rfl) ?_;clear hK K;(try clear hS)
   (try simp only[Act.put,B0])
   clear E1 A1 HR1 e0 e1 e2 e3 e4;generalize y6.w=wf at *;clear y6 y5;replace HB:=A2 (HB.out.to HSw.out);replace HWd:=A2 (A7.trans HWd.out HSw.out);replace HRA:=A2 (HRA.out.to HSw.out);replace HRB:=A2 (HRB.out.to HSw.out);replace sQ:=A2 (sQ.out.to HSw.out);clear HSw;go_upto_region 16 with fail;by_cases h0:fe=0;rotate_left
   ·go_wp2_with(go_at_call 7;(with_reducible refine(HA.out _).mono ?_);rintro _ _ ⟨rfl,ya,rfl⟩)
    first
     |exact HP.out _ (A7.trans HWd.out ⟨ya,rfl⟩)
     |(go_ret;exact HP.out _ (A7.trans HWd.out ⟨ya,rfl⟩))
   subst h0;replace jW:=A2 (jW.out rfl);replace jX:=A2 (jX.out rfl);go_upto_region 18 with fail;have HHa:=A2 (fun(u:World) (hu:A7 wf u)=>show Calls Tryz.prog 18 #[.pointer (some ⟨pA,0,none⟩)] u (fun o w'=>o= .returned (.int .i64 (hor N La))∧∃y:A6 u,w'=y.w)from As7 u (A6.self u) pA bA N La (HRA.out.to hu) Hia.out Ay7.out);have HHb:=A2 (fun(u:World) (hu:A7 wf u)=>show Calls Tryz.prog 18 #[.pointer (some ⟨pB,0,none⟩)] u (fun o w'=>o= .returned (.int .i64 (hor N Lb))∧∃y:A6 u,w'=y.w)from As7 u (A6.self u) pB bB N Lb (HRB.out.to hu) Hib.out Ay7.out);generalize hor N La=ha at *;generalize hor N Lb=hb at *;have FF1:=A2 (fun(u:World) (hu:A7 wf u)=>show Calls Tryz.prog 17 #[.slice aR1 R1.length cR1,.int .i64 ha] u (yE u R1 ha)from(Aw4 u (A6.self u) aR1 R1 cR1 (sQ.out.to hu) (by have:=sO jW.out Hlen.out.1;omega) (Aw9 jW.out Hlen.out.1) ha).mono (fun o w' h=>Aw8 h));have FF2:=A2 (fun(u:World) (hu:A7 wf u)=>show Calls Tryz.prog 17 #[.slice aR2 R2.length cR2,.int .i64 hb] u (yE u R2 hb)from(Aw4 u (A6.self u) aR2 R2 cR2 (Ay9.out.to hu) (by have:=sO jX.out Hlen.out.2;omega) (Aw9 jX.out Hlen.out.2) hb).mono (fun o w' h=>Aw8 h));have HH1:=HHa.out wf (A7.self wf);go_upto_region 19 with(first|(go_at_call 18;(with_reducible refine HH1.mono ?_);rintro _ _ ⟨rfl,z1,rfl⟩)|(go_at_call 17;(with_reducible refine(FF1.out z1.w (A7.of z1)).mono ?_);rintro _ _ ⟨aM,cM,M,z2,rfl,rfl,hm1,hm2,hm3⟩;(have HMr:=A2 hm1);(have HMe:=A2 (And.intro hm2 hm3));clear hm1 hm2 hm3)|(go_at_call 18;(with_reducible refine(HHb.out z2.w (A7.trans (A7.of z1) (A7.of z2))).mono ?_);rintro _ _ ⟨rfl,z3,rfl⟩)|(go_at_call 17;(with_reducible refine(FF2.out z3.w (A7.trans (A7.trans (A7.of z1) (A7.of z2)) (A7.of z3))).mono ?_);rintro _ _ ⟨aN,cN,M2,z4,rfl,rfl,hm1,hm2,hm3⟩;(have HNr:=A2 hm1);(have HNe:=A2 (And.intro hm2 hm3));clear hm1 hm2 hm3))
   have HSw:=A2 (show A7 wf z4.w from A7.trans (A7.trans (A7.trans ⟨z1,rfl⟩ ⟨z2,rfl⟩) ⟨z3,rfl⟩) ⟨z4,rfl⟩);replace HMr:=A2 ((HMr.out.to ⟨z3,rfl⟩).to ⟨z4,rfl⟩);have HMl:=A2 (show M.length≤40 from by have h1:=sO jW.out Hlen.out.1;have h2:=HMe.out.1;omega);have HNl:=A2 (show M2.length≤40 from by have h1:=sO jX.out Hlen.out.2;have h2:=HNe.out.1;omega);have HFM:=A2 (Av9 jW.out HMe.out.2);have HFN:=A2 (Av9 jX.out HNe.out.2);clear HH1 FF1 FF2 jW jX sQ Ay9 HMe HNe;replace HB:=A2 (HB.out.to HSw.out);replace HWd:=A2 (A7.trans HWd.out HSw.out);generalize z4.w=wg at *;clear z4 z3 z2 z1;obtain⟨c0,c1,c2,c3,c4,c5,c6,c7,c8,c9,c10,c11,cf⟩:=Ac7 HB.out;obtain⟨d0,d1,d2,d3,d4,d5,d6,d7,d8,d9,d10,d11,df⟩:=Ac6 HB.out;clear cf df;have FA1:=A2 (fun(u:World) (hu:A7 wg u)=>show Calls Tryz.prog 19 #[.agg #[.int .i64 f.bk,.int .i64 f.rd,.int .i64 f.dv,.slice da f.dk.length dc,.slice ta f.tk.length tc],.agg #[.slice ga p.tr.length gc,.slice pa p.ps.length pc,.slice la p.pl.length lc,.slice ka p.dk.length kc,.int .i64 p.cap,.slice fa p.fn.length fc,.int .i64 p.fd],.slice aM M.length cM,.slice none 0 0] u (yD u f p M)from(xQ u (A6.self u) f da ta dc tc (HF.out.to (A7.trans HWd.out hu)) p ga pa la ka fa gc pc lc kc fc (HPr.out.to (A7.trans HWd.out hu)) Hz1.out Hz2.out M aM cM (HMr.out.to hu) (by have:=HMl.out;omega) (Ax0 HFM.out)).mono (fun o w' h=>Aw7 h));have FA2:=A2 (fun(u:World) (hu:A7 wg u)=>show Calls Tryz.prog 19 #[.agg #[.int .i64 f.bk,.int .i64 f.rd,.int .i64 f.dv,.slice da f.dk.length dc,.slice ta f.tk.length tc],.agg #[.slice ga p.tr.length gc,.slice pa p.ps.length pc,.slice la p.pl.length lc,.slice ka p.dk.length kc,.int .i64 p.cap,.slice fa p.fn.length fc,.int .i64 p.fd],.slice aN M2.length cN,.slice none 0 0] u (yD u f p M2)from(xQ u (A6.self u) f da ta dc tc (HF.out.to (A7.trans HWd.out hu)) p ga pa la ka fa gc pc lc kc fc (HPr.out.to (A7.trans HWd.out hu)) Hz1.out Hz2.out M2 aN cN (HNr.out.to hu) (by have:=HNl.out;omega) (Ax0 HFN.out)).mono (fun o w' h=>Aw7 h));have FA0:=FA1.out wg (A7.self wg);go_upto_region 20 with(go_at_call 19;(with_reducible refine FA0.mono ?_);rintro _ _ ⟨aF,cF,F1,e1,u1,z5,rfl,rfl,hr,hu⟩;(have HF1:=A2 hr);(have HU1:=A2 hu);clear hr hu)
   clear FA0 c0 c1 c2 c3 c4 c5 c6 c7 c8 c9 c10 c11;have FA0:=FA2.out z5.w ⟨z5,rfl⟩;go_upto_region 21 with(go_at_call 19;(with_reducible refine FA0.mono ?_);rintro _ _ ⟨aG,cG,F2,e2,u2,z6,rfl,rfl,hr,hu⟩;(have HF2:=A2 hr);(have HU2:=A2 hu);clear hr hu)
   clear FA0 FA1 FA2 d0 d1 d2 d3 d4 d5 d6 d7 d8 d9 d10 d11;replace HF1:=A2 (HF1.out.to ⟨z6,rfl⟩);have HSv:=A2 (show A7 wg z6.w from A7.trans ⟨z5,rfl⟩ ⟨z6,rfl⟩);replace HMr:=A2 (HMr.out.to HSv.out);replace HNr:=A2 (HNr.out.to HSv.out);replace HWd:=A2 (A7.trans HWd.out HSv.out);replace HSw:=A2 (A7.trans HSw.out HSv.out);clear HSv HB;generalize z6.w=wh at *;clear z6 z5;have HFi:=A2 (fun(r:A8) (hr:r∈M)=>Bt9 HFM.out HFN.out jY.out.2 jY.out.1 (by have h1:=gV (J3 Lb);have h2:=Hlen.out.2;omega) hr);go_wp2_with fail;go_loopw [23] (fun i wr=>∃(k:Nat) (y:A6 wh),k≤M.length∧i= .int .i64 k∧wr=y.w) (fun i _ =>M.length-(intOf i).toNat)
   case atStart=>exact⟨0,A6.self wh,by omega,rfl,rfl⟩
   case round=>
    obtain⟨k,y,hk,rfl,rfl⟩:=hrel;by_cases hlt:k<M.length
    ·obtain⟨r,hr⟩:∃r,M[k]? =some r:=⟨_,A3 hlt⟩
     obtain⟨b1,off1,hx1,h1'⟩:=D0.ride HMr.out.c hr;have ra0:=h1'.c0;have ra1:=h1'.c1;have ra2:=h1'.c2;have ra3:=h1'.c3;have ra4:=h1'.c4;have ra5:=h1'.c5;have ra6:=h1'.c6;have ra7:=h1'.c7;have ra8:=h1'.c8;have ra9:=h1'.c9;have ra10:=h1'.c10;have ra11:=h1'.c11;have ra12:=h1'.c12;have Hr:=A2 (A0 hr);obtain⟨jj,q,hq1,hq2,hq3⟩:=HFi.out r Hr.out;have HqB:=A2 hq2;have hk0:(0:Int)≤(k:Int):=by omega
     have hkl:(k:Int)<(M.length:Int):=by omega
     have FC:=A2 (show Calls Tryz.prog 20 #[.slice aN M2.length cN,.int .i64 r.id] y.w (sJ y.w q)from Bu8 y.w (A6.self y.w) aN M2 cN (HNr.out.since y) (by have:=HNl.out;omega) jj q r.id (Av8 (HFN.out.ok (by have h1:=gV (J3 Lb);have h2:=Hlen.out.2;omega) (A0 hq1)).2) hq1 (Ax1 hq2).1 hq3);subst hx1;clear h1' hr hq1 hq2 hq3;go_upto_region 25 with(go_at_call 20;(with_reducible refine FC.out.mono ?_);rintro _ _ ⟨q2,z6,rfl,rfl,hb2,hm2⟩)
     obtain⟨y7,e7⟩:=y.trans z6;rw[e7]at hm2⊢;have HqE:=A2 (hb2.trans HqB.out);have HqM:=A2 hm2;clear hb2 hm2 e7 FC HqB;obtain⟨y8,e2,C5,hsz0,hlt0,HX0⟩:=L9 y7 [.int .i64 q2.id,.int .i64 q2.rd,.int .i64 q2.s0,.int .i64 q2.s1,.int .i64 q2.e0,.int .i64 q2.e1,.bool q2.op,.slice q2.la q2.legs.length q2.lc,.slice q2.pa q2.pauses.length q2.pc,.int .i64 q2.fw,.int .i64 q2.fp,.int .i64 q2.wh,.int .i64 q2.pl] 40;rw[e2];obtain⟨hx0,hx1,hx2,hx3,hx4,hx5,hx6,hx7,hx8,hx9,dF,dG,dH,hxf⟩:=bU HX0;(have HqN:=A2 (HqM.out.to C5))
     clear e2 C5;generalize y7.w.heap.size=gq at *;obtain⟨E9,G1,J4,I9,M8,O9,S2,S9,T0,aH,aB,aC,aD,G8⟩:=P8 HX0;have I5:=A2 (And.intro hsz0 hlt0);clear hlt0 hsz0 HX0;clear hx0 hx1 hx2 hx3 hx4 hx5 hx6 hx7 hx8 hx9 dF dG dH hxf G8;have ea:=fun{k:Addr} {v:Value} (h:∀y:A6 wh,y.w.cell? k=some v) (u:World) (hu:A7 y8.w u)=>A7.cell h (A7.trans ⟨y8,rfl⟩ hu);have eb:=fun{k:Addr} {v:Value} (h:∀y:A6 y8.w,y.w.cell? k=some v) (u:World) (hu:A7 y8.w u)=>A7.cell h hu;have ea0:=ea ra0;have ea1:=ea ra1;have ea2:=ea ra2;have ea3:=ea ra3;have ea4:=ea ra4;have ea5:=ea ra5;have ea6:=ea ra6;have ea7:=ea ra7;have ea8:=ea ra8;have ea9:=ea ra9;have ea10:=ea ra10;have ea11:=ea ra11;have ea12:=ea ra12;have eb0:=eb E9;have eb1:=eb G1;have eb2:=eb J4;have eb3:=eb I9;have eb4:=eb M8;have eb5:=eb O9;have eb6:=eb S2;have eb7:=eb S9;have eb8:=eb T0;have eb9:=eb aH;have eb10:=eb aB;have eb11:=eb aC;have eb12:=eb aD;clear ea eb;have EQ:=A2 (fun(u:World) (hu:A7 y8.w u)=>show Calls Tryz.prog 21 #[.agg #[.int .i64 r.id,.int .i64 r.rd,.int .i64 r.s0,.int .i64 r.s1,.int .i64 r.e0,.int .i64 r.e1,.bool r.op,.slice r.la r.legs.length r.lc,.slice r.pa r.pauses.length r.pc,.int .i64 r.fw,.int .i64 r.fp,.int .i64 r.wh,.int .i64 r.pl],.agg #[.int .i64 q2.id,.int .i64 q2.rd,.int .i64 q2.s0,.int .i64 q2.s1,.int .i64 q2.e0,.int .i64 q2.e1,.bool q2.op,.slice q2.la q2.legs.length q2.lc,.slice q2.pa q2.pauses.length q2.pc,.int .i64 q2.fw,.int .i64 q2.fp,.int .i64 q2.wh,.int .i64 q2.pl]] u (fun o w'=>o= .returned (.bool true)∧∃y:A6 u,w'=y.w)from Bw3 u (A6.self u) r q2 ((HMr.out.r r Hr.out).to (A7.trans ⟨y8,rfl⟩ hu)) ((HqN.out.at (fR HqN.out.l) (fR HqN.out.p)).to hu) HqE.out);clear ra0 E9 ra1 G1 ra2 J4 ra3 I9 ra4 M8 ra5 O9 ra6 S2 ra7 S9 ra8 T0 ra9 aH ra10 aB ra11 aC ra12 aD;refine R0 (fun w'=>A7 y8.w w') 10 (by kernel_rfl) (A7.drew' (A7.self _)) (fun hS=>?_);refine tk 0 ?_ rfl (by kernel_rfl) hS (fun _ _ _ h=>h) ?_ ?_;rotate_left
     ·(intro w h;(try dsimp only at h);go_split_ands;go_simp;try with_reducible rfl)
     (try simp only[Act.put,B0])
     refine tk 1 ?_ rfl (by kernel_rfl) hS (fun _ _ _ h=>h) ?_ ?_;rotate_left
     ·(intro w h;(try dsimp only at h);go_split_ands;go_simp;try with_reducible rfl)
     (try simp only[Act.put,B0])
     refine tk 2 ?_ rfl (by kernel_rfl) hS (fun _ _ _ h=>h) ?_ ?_;rotate_left
     ·(intro w h;(try dsimp only at h);go_split_ands;go_simp;try with_reducible rfl)
     (try simp only[Act.put,B0])
     refine tk 3 ?_ rfl (by kernel_rfl) hS (fun _ _ _ h=>h) ?_ ?_;rotate_left
     ·(intro w h;(try dsimp only at h);go_split_ands;go_simp;try with_reducible rfl)
     (try simp only[Act.put,B0])
     refine tk 4 ?_ rfl (by kernel_rfl) hS (fun _ _ _ h=>h) ?_ ?_;rotate_left
     ·(intro w h;(try dsimp only at h);go_split_ands;go_simp;try with_reducible rfl)
     (try simp only[Act.put,B0])
     refine tk 5 ?_ rfl (by kernel_rfl) hS (fun _ _ _ h=>h) ?_ ?_;rotate_left
     ·(intro w h;(try dsimp only at h);go_split_ands;go_simp;try with_reducible rfl)
     (try simp only[Act.put,B0])
     refine tk 6 ?_ rfl (by kernel_rfl) hS (fun _ _ _ h=>h) ?_ ?_;rotate_left
     ·(intro w h;(try dsimp only at h);go_split_ands;go_simp;try with_reducible rfl)
     (try simp only[Act.put,B0])
     refine tk 7 ?_ rfl (by kernel_rfl) hS (fun _ _ _ h=>h) ?_ ?_;rotate_left
     ·(intro w h;(try dsimp only at h);go_split_ands;go_simp;try with_reducible rfl)
     (try simp only[Act.put,B0])
     refine G6 8 (by kernel_rfl) rfl fun K hK=>?_;(go_simp;(with_reducible refine(EQ.out _ hS).mono ?_);rintro _ _ ⟨rfl,z9,rfl⟩)
     refine E6 hK (A7.trans hS ⟨z9,rfl⟩) ?_;clear hK K hS;intro hS;(try simp only[Act.put,B0])
     refine tk 9 ?_ rfl (by kernel_rfl) hS (fun _ _ _ h=>h) ?_ ?_;rotate_left
     ·(intro w h;(try dsimp only at h);go_split_ands;go_simp;try with_reducible rfl)
     (try simp only[Act.put,B0])
     have HSr:=A2 (show A7 wh z9.w from A7.trans ⟨y8,rfl⟩ hS);refine G6 10 (by kernel_rfl) rfl fun K hK=>?_;go_simp;refine M0 hK (by kernel_rfl) ?_;clear hK K;(try clear hS)
     (try simp only[Act.put,B0])
     clear EQ ea0 eb0 ea1 eb1 ea2 eb2 ea3 eb3 ea4 eb4 ea5 eb5 ea6 eb6 ea7 eb7 ea8 eb8 ea9 eb9 ea10 eb10 ea11 eb11 ea12 eb12;have BI7:=HMl.out;go_wp2_with fail;go_roundw
     case rel=>obtain⟨y10,e10⟩:=HSr.out;exact⟨k+1,y10,by omega,by go_num,e10⟩
     case measure=>simp[intOf];omega
    ·obtain rfl:k=M.length:=by omega
     have HLi:=A2 (fun(h1:e1=0) (h2:e2=0) (r:I1) (hr:r∈F1)=>Bw5 HFM.out HFN.out jY.out.2 jY.out.1 (by have h1:=gV (J3 La);have h2:=Hlen.out.1;omega) (by have h1:=gV (J3 Lb);have h2:=Hlen.out.2;omega) (HU1.out h1) (HU2.out h2) hr);clear HFi HU1 HU2 HFM HFN HMl HNl HMr HNr hlt hk;by_cases he1:e1=0;rotate_left
     ·go_wp2_with(go_at_call 7;(with_reducible refine(HA.out _).mono ?_);rintro _ _ ⟨rfl,ya,rfl⟩)
      first
       |exact HP.out _ (A7.trans HWd.out (A7.trans ⟨y,rfl⟩ ⟨ya,rfl⟩))
       |(go_ret;exact HP.out _ (A7.trans HWd.out (A7.trans ⟨y,rfl⟩ ⟨ya,rfl⟩)))
     by_cases he2:e2=0;rotate_left
     ·subst he1
      go_wp2_with(go_at_call 7;(with_reducible refine(HA.out _).mono ?_);rintro _ _ ⟨rfl,ya,rfl⟩);first
       |exact HP.out _ (A7.trans HWd.out (A7.trans ⟨y,rfl⟩ ⟨ya,rfl⟩))
       |(go_ret;exact HP.out _ (A7.trans HWd.out (A7.trans ⟨y,rfl⟩ ⟨ya,rfl⟩)))
     subst he1 he2;replace HLi:=A2 (HLi.out rfl rfl);have hFn:=HF1.out.n;go_wp2_with fail;go_loopw [26] (fun i wr=>∃(k:Nat) (z:A6 wh),k≤F1.length∧i= .int .i64 k∧wr=z.w) (fun i _ =>F1.length-(intOf i).toNat)
     case atStart=>exact⟨0,y,by omega,rfl,rfl⟩
     case round=>
      clear y;obtain⟨k,y,hk,rfl,rfl⟩:=hrel;by_cases hlt:k<F1.length
      ·obtain⟨r,hr⟩:∃r,F1[k]? =some r:=⟨_,A3 hlt⟩
       obtain⟨b1,off1,hx1,hb1,hc1⟩:=HF1.out.c k r hr;have ra0:∀y:A6 wh,y.w.cell? ⟨b1,off1+k*4,none⟩=some (.int .i64 r.id):=A6.cell (hc1 0 _ rfl) hb1;have ra1:∀y:A6 wh,y.w.cell? ⟨b1,off1+k*4+1,none⟩=some (.int .i64 r.rd):=A6.cell (hc1 1 _ rfl) hb1;have ra2:∀y:A6 wh,y.w.cell? ⟨b1,off1+k*4+2,none⟩=some (.slice r.ia r.it.length r.ic):=A6.cell (hc1 2 _ rfl) hb1;have ra3:∀y:A6 wh,y.w.cell? ⟨b1,off1+k*4+3,none⟩=some (.int .i64 r.tt):=A6.cell (hc1 3 _ rfl) hb1;have Hr:=A2 (A0 hr);obtain⟨jj,q,hq1,hq2⟩:=HLi.out r Hr.out;have hk0:(0:Int)≤(k:Int):=by omega
       have hkl:(k:Int)<(F1.length:Int):=by omega
       have LC:=A2 (fun(u:A6 wh)=>show Calls Tryz.prog 22 #[.slice aG F2.length cG,.agg #[.int .i64 r.id,.int .i64 r.rd,.slice r.ia r.it.length r.ic,.int .i64 r.tt]] u.w (fun o w'=>o= .returned (.bool true)∧∃y:A6 wh,w'=y.w)from Bw1 wh u aG cG F2 HF2.out.c HF2.out.n HF2.out.i r.id r.rd r.tt r.ia r.ic r.it (HF1.out.i r Hr.out).1 (HF1.out.i r Hr.out).2 jj q hq1 hq2);subst hx1;clear hc1 hb1 hr hq1 hq2;go_wp2_with(go_at_call 22;(with_reducible refine(LC.out y).mono ?_);rintro _ _ ⟨rfl,z,rfl⟩);go_roundw
       case rel=>exact⟨k+1,z,by omega,by go_num,rfl⟩
       case measure=>simp[intOf];omega
      ·obtain rfl:k=F1.length:=by omega
       clear HLi;have Hw:=A2 (A7.trans HSw.out (A7.of y));have HF0:=HHa.out y.w Hw.out;have hab:ha≤hb:=jY.out.2;go_wp2_with(first|(go_at_call 18;(with_reducible refine HF0.mono ?_);clear HF0;rintro _ _ ⟨rfl,z1,rfl⟩)|(go_at_call 18;(with_reducible refine(HHb.out z1.w (A7.trans Hw.out (A7.of z1))).mono ?_);rintro _ _ ⟨rfl,z2,rfl⟩)|(go_at_call 7;(with_reducible refine(HA.out _).mono ?_);rintro _ _ ⟨rfl,ya,rfl⟩));first
        |exact HP.out _ (A7.trans HWd.out (A7.trans (A7.of y) (A7.trans (A7.of z1) (A7.trans (A7.of z2) ⟨ya,rfl⟩))))
        |(go_ret;exact HP.out _ (A7.trans HWd.out (A7.trans (A7.of y) (A7.trans (A7.of z1) (A7.trans (A7.of z2) ⟨ya,rfl⟩)))))
end Go.Proofs.YtmmlmhnjjfnpnaaGreat
