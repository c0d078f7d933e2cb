/- Texts that belong together. -/
import Derived.Test.YtmmlmhnjjfnpnaaGreatTpQx
import Derived.Test.YtmmlmhnjjfnpnaaGreatTpQza
import Derived.BigQuiet
set_option linter.all false
namespace Go.Proofs.YtmmlmhnjjfnpnaaGreat
section
open Go.RowKit Go.ChangeMaps
theorem Al6 {w:World} {g:Nat} {a b:Value} (lt:g<w.heap.size) (h0:w.cell? ⟨g,0,none⟩=some a) (h1:w.cell? ⟨g,1,none⟩=some b) (hf:∀o,w.frozen? ⟨g,o,none⟩=false):C4 w g [a,b]:=by
 refine⟨lt,fun j v hv=>?_,hf⟩;match j,hv with
 |0,hv=>cases hv;exact h0
 |1,hv=>cases hv;exact h1
 |j+2,hv=>simp at hv
theorem qM {w:World} {g h i j:Nat} {u v:Value} (hne:g≠h) (hc:w.cell? ⟨g,i,none⟩=some u):(w.setCell ⟨h,j,none⟩ v).cell? ⟨g,i,none⟩=some u:=by
 rw[World.cell?_of_block (w:=w) (a:=⟨g,i,none⟩) (Below.heap_setCell w ⟨h,j,none⟩ v g hne)];exact hc
theorem qN {w:World} {g h r j:Nat} {a b c d v:Value} (h1:g≠r) (h2:h≠r) (hc:w.cell? ⟨g,0,none⟩=some a∧w.cell? ⟨g,1,none⟩=some b∧w.cell? ⟨h,0,none⟩=some c∧w.cell? ⟨h,1,none⟩=some d):(w.setCell ⟨r,j,none⟩ v).cell? ⟨g,0,none⟩=some a∧(w.setCell ⟨r,j,none⟩ v).cell? ⟨g,1,none⟩=some b∧(w.setCell ⟨r,j,none⟩ v).cell? ⟨h,0,none⟩=some c∧(w.setCell ⟨r,j,none⟩ v).cell? ⟨h,1,none⟩=some d:=
 ⟨qM h1 hc.1,qM h1 hc.2.1,qM h2 hc.2.2.1,qM h2 hc.2.2.2⟩
theorem I8.notS {w:World} {B p bi gg gs:Nat} {vr vp:Value} {R:List A9} {s:D7} (h:I8 w B p bi gg gs vr vp R s) {b:Nat} (hb:w.heap.size≤b):¬K9 p bi gg gs vr vp R b:=fun hs=>by
 have:=(h.ltS hs).2;omega
set_option maxRecDepth 100000 in
set_option maxHeartbeats 16000000 in
theorem vV (w:World) (B p bi gg gs:Nat) (vr vp:Value) (R:List A9) (s:D7) (h:I8 w B p bi gg gs vr vp R s) (b:Nat) (hbs:b<s.sp.length) (hbr:b<s.rg.length) (hpz:s.pz.length=R.length) (hk:B0 s.rg b<(R.length:Int)) (lK:0≤B0 s.rg b→0<(s.rat (B0 s.rg b).toNat).legs.length) (v:D8) (a t:Int):
 Calls Tryz.prog 79 #[.pointer (some ⟨p,0,none⟩),.int .i64 (b:Int),.agg #[.int .i64 v.w,.int .i64 v.p,.int .i64 v.r,.bool v.z],.agg #[.int .i64 a,.int .i64 t]] w (aK w B p bi gg gs vr vp R (Y8 s (b:Int) v a t)):=by
 have HP:=A3 (fun(w':World) (vr' vp':Value) (R':List A9) (h1:I8 w' B p bi gg gs vr' vp' R' (Y8 s (b:Int) v a t)) (h2:B7 (K9 p bi gg gs vr vp R) w w') (h3:∀b,K9 p bi gg gs vr' vp' R' b→K9 p bi gg gs vr vp R b∨w.heap.size≤b)=>show aK w B p bi gg gs vr vp R (Y8 s (b:Int) v a t) (.returned (.tuple #[])) w' from⟨rfl,vr',vp',R',h1,h2,h3⟩);generalize aK w B p bi gg gs vr vp R (Y8 s (b:Int) v a t)=PO at *;have Hh:=A3 h;have Hh0:=A3 h;have Hbs:=A3 hbs;have Hbr:=A3 hbr;have Hpz:=A3 hpz;have Hk:=A3 hk;have rY:=A3 lK;have hb0:(0:Int)≤(b:Int):=by omega
 have hbl:(b:Int)<(s.sp.length:Int):=by omega
 have yB:(b:Int)<(s.rg.length:Int):=by omega
 obtain⟨x,hx⟩:=A7.refl w;rw[hx];clear hx h hbs hbr hpz hk lK;go_enter Tryz.func79,Tryz.ntmps79;go_upto_region 1 with fail;obtain⟨W,bx,y0,hW,hbx,-,B8,Hup,Hbx,HB0,HB1⟩:=Z7 x [.int .i64 v.w,.int .i64 v.p,.int .i64 v.r,.bool v.z] 180 [.int .i64 a,.int .i64 t] 36;rw[hW,hbx];clear hW hbx;obtain⟨D9,E7,F9,G0,hf0⟩:=bO HB0;obtain⟨T9,V9,hf1⟩:=p8 HB1;clear HB0 HB1;have HK:=A3 (show B7 (K9 p bi gg gs vr vp R) w y0.w from by obtain⟨y,e⟩:=Hup.out y0;rw[e];exact B7.of y);replace Hh:=A3 ((Hh.out.to B8).to ⟨y0,rfl⟩);have HB1:=A3 (show C4 y0.w bx v.cs from qE (by have h1:=Hbx.out;have h2:=y0.b.size;omega) (D9 y0) (E7 y0) (F9 y0) (G0 y0) (fun o=>hf0 y0 o));have HB2:=A3 (show C4 y0.w (bx+1) [.int .i64 a,.int .i64 t]from Al6 (by have h1:=Hbx.out;have h2:=y0.b.size;omega) (T9 y0) (V9 y0) (fun o=>hf1 y0 o));have HN1:=A3 (Hh0.out.notS (b:=bx) Hbx.out.1);have HN2:=A3 (Hh0.out.notS (b:=bx+1) (by have:=Hbx.out;omega));have Hbw:=A3 (show w.heap.size≤bx from Hbx.out.1);clear B8 D9 E7 F9 G0 T9 V9 hf0 hf1 Hbx Hup;generalize bx+1=bw at *;generalize y0.w=w1 at *;have g4:∀w',A8 w1 w'→w'.cell? ⟨p,4,none⟩=some (.slice (some ⟨gs,0,none⟩) s.sp.length s.sp.length):=fun w' h=>(Hh.out.st.to h).c 4 _ rfl;have a0:∀w',A8 w1 w'→w'.cell? ⟨bx,0,none⟩=some (.int .i64 v.w):=fun w' h=>(HB1.out.to h).c 0 _ rfl;have a1:∀w',A8 w1 w'→w'.cell? ⟨bx,1,none⟩=some (.int .i64 v.p):=fun w' h=>(HB1.out.to h).c 1 _ rfl;have a2:∀w',A8 w1 w'→w'.cell? ⟨bx,2,none⟩=some (.int .i64 v.r):=fun w' h=>(HB1.out.to h).c 2 _ rfl;have a3:∀w',A8 w1 w'→w'.cell? ⟨bx,3,none⟩=some (.bool v.z):=fun w' h=>(HB1.out.to h).c 3 _ rfl;obtain⟨u3,hu3⟩:∃u,s.sp[b]? =some u:=⟨_,A4 Hbs.out⟩
 have q0:w1.cell? ⟨gs,b*4,none⟩=some (.int .i64 u3.w):=Hh.out.sp.c _ _ (H7 D8.len s.sp b u3 0 _ hu3 rfl);have q1:w1.cell? ⟨gs,b*4+1,none⟩=some (.int .i64 u3.p):=Hh.out.sp.c _ _ (H7 D8.len s.sp b u3 1 _ hu3 rfl);have q2:w1.cell? ⟨gs,b*4+2,none⟩=some (.int .i64 u3.r):=Hh.out.sp.c _ _ (H7 D8.len s.sp b u3 2 _ hu3 rfl);have q3:w1.cell? ⟨gs,b*4+3,none⟩=some (.bool u3.z):=Hh.out.sp.c _ _ (H7 D8.len s.sp b u3 3 _ hu3 rfl);have qf:∀o,w1.frozen? ⟨gs,o,none⟩=false:=fun o=>Hh.out.sp.f o;clear hu3;refine R7 (fun w'=>A8 w1 w') 7 (by kernel_rfl) (A8.drew' (A8.self _)) (fun hS=>?_);iterate 7
  refine J4 0 ?_ rfl rfl (by kernel_rfl) hS (fun _ _ _ h=>h) ?_ ?_
  rotate_left
  ·(intro w h;(try dsimp only at h);go_split_ands;go_simp;try with_reducible rfl)
  (try simp only[Act.put,B9])
 refine I0 7 (by kernel_rfl) rfl fun K hK=>?_;go_simp;refine M9 hK (by kernel_rfl) ?_;clear hK K;(try clear hS)
 (try simp only[Act.put,B9])
 clear g4 a0 a1 a2 a3 q0 q1 q2 q3 qf;have hst:A8 w1 w1.drew:=A8.drew' (A8.self _);obtain⟨hM,hK⟩:=(Hh.out.to hst).setSp Hbs.out v;have hb1:=(HB1.out.to hst).keepS hK (fun e=>HN1.out (.inl (by rw[e];simp[D6])));have hb2:=(HB2.out.to hst).keepS hK (fun e=>HN2.out (.inl (by rw[e];simp[D6])));have hk:=HK.out.trans ((B7.to (B7.refl _ w1) hst).step hK) (fun g e=>.inl (.inl (by rw[e];simp[D6])));have HM:=A3 hM;have xB:=A3 hb1;have nM:=A3 hb2;have HK2:=A3 hk;clear hM hb1 hb2 hk hK hst Hh HB1 HB2 HK;go_upto_region 2 with fail;refine Eq.mp (congrArg (Code.wp _ _ _ _) (show w1.drew.setCells gs (b*4) v.cs= _ from rfl)) ?_;generalize w1.drew.setCells gs (b*4) v.cs=w2 at *;have Hrg:=A3 (show({s with sp:=s.sp.set b v}:D7).rg=s.rg from rfl);have sB:=A3 (show({s with sp:=s.sp.set b v}:D7).pz.length=R.length from Hpz.out);have Hrs:=A3 (show({s with sp:=s.sp.set b v}:D7).rs=s.rs from rfl);obtain⟨s1,hs1⟩:∃s1:D7,{s with sp:=s.sp.set b v}=s1:=⟨_,rfl⟩
 rw[hs1]at HM Hrg sB Hrs;have Hs1:=A3 hs1;clear hs1;obtain⟨j,hj⟩:∃j,B0 s.rg b=j:=⟨_,rfl⟩
 have hjc:(s1.rg.map (Value.int .i64))[b]? =some (.int .i64 j):=by
  rw[Hrg.out,List.getElem?_map,A4 Hbr.out,←hj];unfold B0;rw[A6,A4 Hbr.out];rfl
 have k2:w2.cell? ⟨p,2,none⟩=some (.slice (some ⟨gg,0,none⟩) s.rg.length s.rg.length):=by have h1:=HM.out.st.c 2 _ rfl;rw[Hrg.out]at h1;exact h1
 have kj:w2.cell? ⟨gg,b,none⟩=some (.int .i64 j):=HM.out.rg.c b _ hjc;have HK3:=Hk;rw[hj]at HK3 rY;have Hj:=A3 hj;clear hj hjc;by_cases hneg:j<0
 ·have HE:=A3 (AX6 (x:=v) (a:=a) (t:=t) (s:=s) (b:=b) (by rw[Hj.out];exact hneg))
  have HR:=A3 (HP.out w2 _ _ _ (by rw[HE.out,Hs1.out];exact HM.out) HK2.out (fun b hb=>.inl hb));go_wp2_with fail;refine M7 (v:=.tuple #[]) (by simp[results,Tryz.results79,go_sem]) rfl ?_;exact HR.out
 ·obtain⟨k,rfl⟩:∃k:Nat,j=(k:Int):=⟨j.toNat,by omega⟩
  have hkR:k<R.length:=by have:=HK3.out;omega
  have hres:=Ak5 w2 B p bi gg gs vr vp R s1 HM.out k hkR sB.out a t;have c0:w2.cell? ⟨bw,0,none⟩=some (.int .i64 a):=nM.out.c 0 _ rfl;have c1:w2.cell? ⟨bw,1,none⟩=some (.int .i64 t):=nM.out.c 1 _ rfl;go_upto_region 5 with(go_at_call 78;(with_reducible refine hres.mono ?_);clear hres;rintro _ w3 ⟨rfl,vr3,vp3,R3,hM3,hK3,hS3⟩)
  clear k2 kj c0 c1;have HE:=A3 (fun(s2:D7) (h2:V2 s1 k a t=s2) (r:A9) (hr:s2.rat k=r.br)=>AX7 (s:=s) (b:=b) (k:=k) (x:=v) (a:=a) (t:=t) Hj.out (by rw[Hs1.out];exact h2) hr);obtain⟨e1,e2,e3,e4⟩:=AX8 s1 k a t;obtain⟨s2,hs2⟩:∃s2,V2 s1 k a t=s2:=⟨_,rfl⟩
  rw[hs2]at hM3 e1 e2 e3 e4;have hlen:R3.length=R.length:=by
   have h1:=congrArg List.length hM3.br;have h2:=congrArg List.length Hh0.out.br;rw[List.length_map]at h1 h2;rw[h1,e2,Hrs.out,h2]
  obtain⟨r3,hr3⟩:∃r,R3[k]? =some r:=⟨_,A4 (by omega)⟩
  have W7:=kV hM3.br hr3;have yF:0<r3.legs.length:=by
   have h1:=rY.out (by omega);rw[Int.toNat_natCast]at h1;have h2:(s2.rat k).legs=r3.legs:=by rw[W7];rfl
   have h3:s1.rat k=s.rat k:=by unfold D7.rat;rw[Hrs.out]
   rw[←h2,e4,h3];exact h1
  have HE2:=A3 (HE.out s2 hs2 r3 W7);obtain⟨gr,cr,rfl,_,_⟩:=eQ hM3.rr (by omega);have hb1:=xB.out.keepS hK3 HN1.out;have hb2:=nM.out.keepS hK3 HN2.out;have hn1:¬K9 p bi gg gs (.slice (some ⟨gr,0,none⟩) R3.length cr) vp3 R3 bx:=fun hc=>by
   rcases hS3 bx hc with h'|h'
   ·exact HN1.out h'
   ·have:=xB.out.lt;omega
  have hn2:¬K9 p bi gg gs (.slice (some ⟨gr,0,none⟩) R3.length cr) vp3 R3 bw:=fun hc=>by
   rcases hS3 bw hc with h'|h'
   ·exact HN2.out h'
   ·have:=nM.out.lt;omega
  have HS3:=A3 (show∀b,K9 p bi gg gs (.slice (some ⟨gr,0,none⟩) R3.length cr) vp3 R3 b→K9 p bi gg gs vr vp R b∨w.heap.size≤b from fun b hb=>by
   rcases hS3 b hb with h'|h'
   ·exact .inl h'
   ·exact .inr (Nat.le_trans HK2.out.size h'))
  have At0:=A3 (HK2.out.step hK3);have HM3:=A3 hM3;have As3:=A3 hb1;have rR:=A3 hb2;have At2:=A3 hn1;have At3:=A3 hn2;have Hr3:=A3 hr3;have lI:=A3 (show s2.rg=s.rg from e1.trans Hrg.out);have hk0:(0:Int)≤(k:Int):=by omega
  have hkl:(k:Int)<(R3.length:Int):=by omega
  obtain⟨init,q,hpq⟩:=Ak4 yF;obtain⟨gl,hga,hgc,_⟩:=(hM3.rm r3 (A0 hr3)).leg_at yF;obtain⟨N,hN⟩:∃N,r3.legs.length=N:=⟨_,rfl⟩
  have hNi:N=init.length+1:=by rw[←hN,hpq,List.length_append];rfl
  obtain⟨M,hM⟩:∃M,init.length=M:=⟨_,rfl⟩
  have hNM:N=M+1:=by omega
  have hNq:r3.legs[M]? =some q:=by rw[←hM,hpq,List.getElem?_append_right (Nat.le_refl _),Nat.sub_self];rfl
  have hrow:=(hM3.rm r3 (A0 hr3)).l;unfold A9.lv at hrow;rw[hga,hN]at hrow;have l7':(B4 A9.cs R3)[k*13+7]? =some (.slice (some ⟨gl,0,none⟩) N r3.lc):=by
   have:=H7 A9.len R3 k r3 7 (.slice r3.la r3.legs.length r3.lc) hr3 rfl;rw[hga,hN]at this;exact this
  have l7:∀w',A8 w3 w'→w'.cell? ⟨gr,k*13+7,none⟩=some (.slice (some ⟨gl,0,none⟩) N r3.lc):=fun w' h=>by obtain⟨y,rfl⟩:=h;exact(P6 HM3.out.rr l7').1 y
  have q3:w3.cell? ⟨gl,M*5+3,none⟩=some (.int .i64 q.t0):=(P6 hrow (H7 E0.len r3.legs M q 3 _ hNq rfl)).1 (A7.self w3);have q4:w3.cell? ⟨gl,M*5+4,none⟩=some (.int .i64 q.t1):=(P6 hrow (H7 E0.len r3.legs M q 4 _ hNq rfl)).1 (A7.self w3);have f3:w3.frozen? ⟨gl,M*5+3,none⟩=false:=(P6 hrow (H7 E0.len r3.legs M q 3 _ hNq rfl)).2.1 (A7.self w3);have f4:w3.frozen? ⟨gl,M*5+4,none⟩=false:=(P6 hrow (H7 E0.len r3.legs M q 4 _ hNq rfl)).2.1 (A7.self w3);have c0:∀w',A8 w3 w'→w'.cell? ⟨bw,0,none⟩=some (.int .i64 a):=fun w' h=>(rR.out.to h).c 0 _ rfl;have c1:∀w',A8 w3 w'→w'.cell? ⟨bw,1,none⟩=some (.int .i64 t):=fun w' h=>(rR.out.to h).c 1 _ rfl;have k0:w3.cell? ⟨p,0,none⟩=some (.slice (some ⟨gr,0,none⟩) R3.length cr):=HM3.out.st.c 0 _ rfl;have hst:A8 w3 w3.drew:=A8.drew' (A8.self _);obtain⟨hM4,hK4⟩:=(HM3.out.to hst).endL hr3 hpq hga a t;have ei:init.length=M:=hM;rw[ei]at hM4 hK4;have hlast:init ++ [q.to a t]=aI r3.legs (fun x=>x.to a t):=by rw[hpq,hZ]
  rw[hlast]at hM4;have HM4:=A3 hM4;have HK4:=A3 ((B7.to (B7.refl _ w3) hst).step hK4);have hN0:1≤N:=by omega
  have hN2:(0:Int)≤(M:Int):=by omega
  have hN3:(M:Int)<(N:Int):=by omega
  have hNb:N≤9223372036854775807:=by
   have h1:=hrow;obtain⟨_,⟨hbad,_⟩|⟨_,_,_,_,_,_,h2,h3,_⟩⟩:=h1
   ·cases hbad
   ·unfold maxLen at h3;omega
  have hw1:IntKind.i64.wrap ((N:Int)-1)=(M:Int):=by rw[show(N:Int)-1=(M:Int) by omega];exact IntWalk.i64_in _ (by omega)
  clear hN hNi hNM hM hNq hrow hlast hM4 hK4 ei hpq hga hgc hNb l7' hM3 hK3 hS3 hb1 hb2 hn1 hn2 hr3 W7 yF hlen hs2 e1 e2 e3 e4 hst;go_upto_region 6 with fail;clear k0;refine R7 (fun w'=>A8 w3 w') 13 (by kernel_rfl) (A8.drew' (A8.self _)) (fun hS=>?_);iterate 13
   refine J4 0 ?_ rfl rfl (by kernel_rfl) hS (fun _ _ _ h=>h) ?_ ?_
   rotate_left
   ·(intro w h;(try dsimp only at h);go_split_ands;go_simp;try with_reducible rfl)
   (try simp only[Act.put,B9])
  refine I0 13 (by kernel_rfl) rfl fun K hK=>?_;go_simp;refine M9 hK (by kernel_rfl) ?_;clear hK K;(try clear hS)
  (try simp only[Act.put,B9])
  clear l7 q3 q4 f3 f4 c0 c1;go_upto_region 7 with fail;refine Eq.mp (congrArg (Code.wp _ _ _ _) (show(w3.drew.setCell ⟨gl,M*5+3,none⟩ (.int .i64 a)).setCell ⟨gl,M*5+3+1,none⟩ (.int .i64 t)= _ from rfl)) ?_;have hb1:=As3.out.keepS HK4.out At2.out;have hb2:=rR.out.keepS HK4.out At3.out;have hk4:=At0.out.trans HK4.out (fun b hb=>HS3.out b hb);have As4:=A3 hb1;have As5:=A3 hb2;have At1:=A3 hk4;clear hb1 hb2 hk4 As3 rR HM3 HK4 At0 xB nM HK2 HM;generalize(w3.drew.setCell ⟨gl,M*5+3,none⟩ (.int .i64 a)).setCell ⟨gl,M*5+3+1,none⟩ (.int .i64 t)=w4 at *;obtain⟨r4,sI⟩:∃r4:A9,{r3 with legs:=aI r3.legs fun x=>x.to a t}=r4:=⟨_,rfl⟩
  have hrb:K3 r4=K3 r3:=by rw[←sI];exact qH _ _
  have hfin:r4.ended a t v.w v.p=r3.fin v a t:=by rw[←sI];rfl
  rw[sI]at HM4;have hr4:(R3.set k r4)[k]? =some r4:=kW Hr3.out;have hl4:(R3.set k r4).length=R3.length:=List.length_set;have hS4:∀b,K9 p bi gg gs (.slice (some ⟨gr,0,none⟩) R3.length cr) vp3 (R3.set k r4) b→K9 p bi gg gs (.slice (some ⟨gr,0,none⟩) R3.length cr) vp3 R3 b:=fun b hb=>hb.set Hr3.out hrb;have hM4:=HM4.out;obtain⟨R4,hR4⟩:∃R4,R3.set k r4=R4:=⟨_,rfl⟩
  rw[hR4]at hM4 hr4 hl4 hS4;have eL:=A3 (show R4.set k (r4.ended a t v.w v.p)=R3.set k (r3.fin v a t)from by rw[←hR4,List.set_set,hfin]);rw[←hl4]at hM4 hS4 HS3 hkl;have Br9:=A3 (fun hc=>At2.out (by rw[←hl4];exact hS4 bx hc));have Bs0:=A3 (fun hc=>At3.out (by rw[←hl4];exact hS4 bw hc));obtain⟨hM5,hK5⟩:=hM4.setEnd hr4 a t v.w v.p;have hce:=fun(j:Nat) (u:Value) (hj:r4.cs[j]? =some u)=>P6 hM4.rr (H7 A9.len R4 k r4 j u hr4 hj);have d4:w4.cell? ⟨gr,k*13+4,none⟩=some (.int .i64 r4.e0):=(hce 4 _ rfl).1 (A7.self w4);have d5:w4.cell? ⟨gr,k*13+5,none⟩=some (.int .i64 r4.e1):=(hce 5 _ rfl).1 (A7.self w4);have d6:w4.cell? ⟨gr,k*13+6,none⟩=some (.bool r4.op):=(hce 6 _ rfl).1 (A7.self w4);have d11:w4.cell? ⟨gr,k*13+11,none⟩=some (.int .i64 r4.wh):=(hce 11 _ rfl).1 (A7.self w4);have d12:w4.cell? ⟨gr,k*13+12,none⟩=some (.int .i64 r4.pl):=(hce 12 _ rfl).1 (A7.self w4);have f4:w4.frozen? ⟨gr,k*13+4,none⟩=false:=(hce 4 _ rfl).2.1 (A7.self w4);have f5:w4.frozen? ⟨gr,k*13+5,none⟩=false:=(hce 5 _ rfl).2.1 (A7.self w4);have f6:w4.frozen? ⟨gr,k*13+6,none⟩=false:=(hce 6 _ rfl).2.1 (A7.self w4);have f11:w4.frozen? ⟨gr,k*13+11,none⟩=false:=(hce 11 _ rfl).2.1 (A7.self w4);have f12:w4.frozen? ⟨gr,k*13+12,none⟩=false:=(hce 12 _ rfl).2.1 (A7.self w4);have Ax7:bx≠gr:=fun e=>Br9.out (.inl (by rw[e];simp[D6,V3]));have Ax8:bw≠gr:=fun e=>Bs0.out (.inl (by rw[e];simp[D6,V3]));have rV:=A3 Ax7;have rW:=A3 Ax8;have b0:w4.cell? ⟨bx,0,none⟩=some (.int .i64 v.w):=As4.out.c 0 _ rfl;have b1:w4.cell? ⟨bx,1,none⟩=some (.int .i64 v.p):=As4.out.c 1 _ rfl;have b2:w4.cell? ⟨bw,0,none⟩=some (.int .i64 a):=As5.out.c 0 _ rfl;have b3:w4.cell? ⟨bw,1,none⟩=some (.int .i64 t):=As5.out.c 1 _ rfl;have HM5:=A3 hM5;have HK5:=A3 hK5;have HS4:=A3 hS4;have Bs6:=A3 hfin;clear hM4 hM5 hK5 hS4 hce sI hrb hfin hr4 Ax7 Ax8 hl4 HM4 hR4;refine R7 (fun w'=>w'.cell? ⟨bx,0,none⟩=some (.int .i64 v.w)∧w'.cell? ⟨bx,1,none⟩=some (.int .i64 v.p)∧w'.cell? ⟨bw,0,none⟩=some (.int .i64 a)∧w'.cell? ⟨bw,1,none⟩=some (.int .i64 t)) 20 (by kernel_rfl) ⟨b0,b1,b2,b3⟩ (fun hS=>?_);iterate 11
   refine J4 0 ?_ rfl rfl (by kernel_rfl) hS (fun _ _ _ h=>h) ?_ ?_
   rotate_left
   ·(intro w h;(try dsimp only at h);go_split_ands;go_simp;try with_reducible rfl)
   (try simp only[Act.put,B9])
  refine I0 11 (by kernel_rfl) rfl fun K hK=>?_;go_simp;refine E5 hK (qN rV.out rW.out (qN rV.out rW.out hS)) ?_;clear hK K hS;intro hS;(try simp only[Act.put,B9])
  iterate 2
   refine J4 12 ?_ rfl rfl (by kernel_rfl) hS (fun _ _ _ h=>h) ?_ ?_
   rotate_left
   ·(intro w h;(try dsimp only at h);go_split_ands;go_simp;try with_reducible rfl)
   (try simp only[Act.put,B9])
  refine I0 14 (by kernel_rfl) rfl fun K hK=>?_;go_simp;refine E5 hK (qN rV.out rW.out hS) ?_;clear hK K hS;intro hS;(try simp only[Act.put,B9])
  iterate 2
   refine J4 15 ?_ rfl rfl (by kernel_rfl) hS (fun _ _ _ h=>h) ?_ ?_
   rotate_left
   ·(intro w h;(try dsimp only at h);go_split_ands;go_simp;try with_reducible rfl)
   (try simp only[Act.put,B9])
  refine I0 17 (by kernel_rfl) rfl fun K hK=>?_;go_simp;refine E5 hK (qN rV.out rW.out hS) ?_;clear hK K hS;intro hS;(try simp only[Act.put,B9])
  iterate 2
   refine J4 18 ?_ rfl rfl (by kernel_rfl) hS (fun _ _ _ h=>h) ?_ ?_
   rotate_left
   ·(intro w h;(try dsimp only at h);go_split_ands;go_simp;try with_reducible rfl)
   (try simp only[Act.put,B9])
  refine I0 20 (by kernel_rfl) rfl fun K hK=>?_;go_simp;refine M9 hK (by kernel_rfl) ?_;clear hK K;(try clear hS)
  (try simp only[Act.put,B9])
  clear d4 d5 d6 d11 d12 f4 f5 f6 f11 f12 b0 b1 b2 b3;go_upto_region 8 with fail;refine Eq.mp (congrArg (Code.wp _ _ _ _) (show(gC w4 gr k a t v.w v.p).drew= _ from rfl)) ?_;have hst:A8 (gC w4 gr k a t v.w v.p) (gC w4 gr k a t v.w v.p).drew:=A8.drew' (A8.self _);have hM6:I8 (gC w4 gr k a t v.w v.p).drew B p bi gg gs (.slice (some ⟨gr,0,none⟩) R4.length cr) vp3 (R3.set k (r3.fin v a t)) {s2 with rs:=s2.rs.set k (r3.fin v a t).br}:=by
   have h:=HM5.out.to hst;rw[eL.out]at h;have e:(s2.rs.set k r4.br).set k (r4.ended a t v.w v.p).br=s2.rs.set k (r3.fin v a t).br:=by rw[List.set_set,Bs6.out]
   dsimp only at h;rw[e]at h;exact h
  have hk6:=At1.out.trans (HK5.out.step (B7.to (B7.refl _ _) hst)) (fun b hb=>HS3.out b (HS4.out b hb));have hS6:∀b,K9 p bi gg gs (.slice (some ⟨gr,0,none⟩) R4.length cr) vp3 (R3.set k (r3.fin v a t)) b→K9 p bi gg gs vr vp R b∨w.heap.size≤b:=fun b hb=>by
   exact HS3.out b (hb.set Hr3.out (show K3 (r3.fin v a t)=K3 r3 from by unfold K3 A9.lv A9.pv A9.fin;simp only[V3]))
  have HM6:=A3 hM6;have HK6:=A3 hk6;have HS6:=A3 hS6;clear hM6 hk6 hS6 hst HM5 HK5 At1;generalize(gC w4 gr k a t v.w v.p).drew=w6 at *;have Ax3:b<s2.rg.length:=by rw[lI.out];exact Hbr.out
  have k2:w6.cell? ⟨p,2,none⟩=some (.slice (some ⟨gg,0,none⟩) s.rg.length s.rg.length):=by
   have h1:w6.cell? ⟨p,2,none⟩=some (.slice (some ⟨gg,0,none⟩) s2.rg.length s2.rg.length):=HM6.out.st.c 2 _ rfl;rw[lI.out]at h1;exact h1
  have kc:w6.cell? ⟨gg,b,none⟩=some (.int .i64 s2.rg[b]):=HM6.out.rg.c b _ (by show(s2.rg.map (Value.int .i64))[b]? = _;rw[List.getElem?_map,A4 Ax3];rfl);have kf:∀o,w6.frozen? ⟨gg,o,none⟩=false:=fun o=>HM6.out.rg.f o;obtain⟨hM7,hK7⟩:=HM6.out.setRg (b:=b) Ax3 (-1);have HR:=A3 (HP.out _ _ _ _ (by rw[HE2.out];exact hM7) (HK6.out.trans hK7 (fun g e=>.inl (.inl (by rw[e];simp[D6])))) HS6.out);clear hM7 hK7;go_wp2_with fail;refine M7 (v:=.tuple #[]) (by simp[results,Tryz.results79,go_sem]) rfl ?_;exact HR.out
end
section
open Go.RowKit Go.ChangeMaps
theorem Al7 {f:G4}:∀(L:List Ev) (c:C5) (e:Ev) (A:List Ev),O4 f c L=e :: A→∃L2,V1 f c e=true∧O4 f (S6 c e) L2=A∧(e :: L2).Sublist L
 |[],c,e,A,h=>by simp[O4]at h
 |x :: L,c,e,A,h=>by
  unfold O4 at h;by_cases ho:V1 f c x=true
  ·rw[if_pos ho]at h
   obtain⟨rfl,h2⟩:=List.cons.inj h;exact⟨L,ho,h2,List.Sublist.refl _⟩
  ·rw[if_neg ho]at h
   obtain⟨L2,h1,h2,h3⟩:=Al7 L c e A h;exact⟨L2,h1,h2,h3.cons x⟩
def jH (f:G4) (n:Nat) (s:D7) (A:List Ev):Prop:=
 ∃(c:C5) (T:Int) (N:Nat) (L:List Ev),JI n c s T N∧A=O4 f c L∧L.Pairwise (fun x y=>x.a≤y.a)∧(∀e∈L,T≤e.a)∧N+L.length≤512∧s.rs.length≤N
theorem Ba4 {f:G4} {n:Nat} {L:List Ev} (hp:L.Pairwise fun x y=>x.a≤y.a) (hl:L.length≤512):jH f n (Q3 n) (O4 f (P4 n) L):=by
 obtain⟨T,hT⟩:∃T:Int,∀e∈L,T≤e.a:=by
  cases L with
  |nil=>exact⟨0,fun e he=>by cases he⟩
  |cons e l=>
   rw[List.pairwise_cons]at hp
   refine⟨e.a,fun x hx=>?_⟩
   rcases List.mem_cons.1 hx with rfl|hx
   ·exact Int.le_refl _
   ·exact hp.1 x hx
 exact⟨_,T,0,L,Ai0 n T,rfl,hp,hT,by omega,by simp[Q3]⟩
theorem jH.len {f:G4} {n:Nat} {s:D7} {A:List Ev} (h:jH f n s A):s.rs.length≤512:=by
 obtain⟨c,T,N,L,_,_,_,_,h1,h2⟩:=h;omega
theorem jH.next {f:G4} {n:Nat} {s:D7} {e:Ev} {A:List Ev} (h:jH f n s (e :: A)) (hn:n=f.bk.toNat):∃(b N:Nat),N≤512∧vM n s N e b∧jH f n (V7 s e) A:=by
 obtain⟨c,T,N,L,J,hA,hp,hT,hN,hs⟩:=h;obtain⟨L2,ho,h2,hsub⟩:=Al7 L c e A hA.symm;have hlen:=hsub.length_le;simp only[List.length_cons]at hlen;have heL:e∈L:=hsub.subset (by simp);have hp2:=hp.sublist hsub;rw[List.pairwise_cons]at hp2;obtain⟨b,hF⟩:=AX9 J hn ho;refine⟨b,N,by omega,hF,S6 c e,e.a,N+1,L2,J.step hn ho (hT e heL) (by omega),h2.symm,hp2.2,hp2.1,by omega,?_⟩;rw[Ai6];split<;>omega
theorem Ba5 (R:List A9) (hd:R.Pairwise fun x y=>x.id≠y.id):(bG R).map A9.br=bG (R.map A9.br):=by
 refine Aj0 ((jE R).map _) ?_ ?_
 ·rw[List.pairwise_map]
  exact Ai9 R
 ·rw[List.pairwise_map]
  exact hd
theorem Ba6 {w:World} {B p bi gg gs m:Nat} {T1 T2 T3:TypeId} {l:List Int} (h1:w.heap[p]? =some (.cells ([.slice none 0 0,.map (some bi),.slice (some ⟨gg,0,none⟩) m m,.slice none 0 0,.slice (some ⟨gs,0,none⟩) m m]:List Value).toArray T1)) (h2:w.heap[bi]? =some (.map #[] 0)) (h3:w.heap[gg]? =some (.cells (l.map (Value.int .i64)).toArray T2)) (h4:w.heap[gs]? =some (.cells (B4 D8.cs (List.replicate m default)).toArray T3)) (hl:l.length=m) (hn:[p,bi,gg,gs].Nodup) (hB:∀g∈[p,bi,gg,gs],B≤g):
 I8 w B p bi gg gs (.slice none 0 0) (.slice none 0 0) [] {Q3 m with rg:=l}:=by
 refine⟨?_,⟨rfl,.inl ⟨rfl,rfl⟩⟩,rfl,?_,C4.heap h3,⟨rfl,.inl ⟨rfl,rfl⟩⟩,C4.heap h4,(fun r hr=>by cases hr),⟨?_,(fun i r hr=>by simp at hr),(fun i j r r' hr=>by simp at hr)⟩,⟨hB _ (by simp),hB _ (by simp),hB _ (by simp),hB _ (by simp)⟩⟩
 ·have:=C4.heap h1
  simpa[Q3,hl]using this
 ·simpa[Q3,J0,L6]using h2
 ·simpa[D6,V3]using hn
theorem kX {W wr:World} {m:Nat} (p bi gg gs:Nat) (h1:wr.heap[p]? =some (.cells ([.slice none 0 0,.map (some bi),.slice (some ⟨gg,0,none⟩) m m,.slice none 0 0,.slice (some ⟨gs,0,none⟩) m m]:List Value).toArray 104)) (h2:wr.heap[bi]? =some (.map #[] 0)) (h3:wr.heap[gg]? =some (.cells (List.replicate m (Value.int .i64 0)).toArray 3)) (h4:wr.heap[gs]? =some (.cells (B4 D8.cs (List.replicate m default)).toArray 180)) (hst:A8 W wr) (hn:[p,bi,gg,gs].Nodup∧∀g∈[p,bi,gg,gs],W.heap.size≤g):
 ∃(p' bi gg gs:Nat),Value.pointer (some ⟨p,0,none⟩)= .pointer (some ⟨p',0,none⟩)∧A8 W wr∧I8 wr W.heap.size p' bi gg gs (.slice none 0 0) (.slice none 0 0) [] {Q3 m with rg:=List.replicate m 0}:=
 ⟨p,bi,gg,gs,rfl,hst,Ba6 h1 h2 (by rw[List.map_replicate];exact h3) h4 (by simp) hn.1 hn.2⟩
end
end Go.Proofs.YtmmlmhnjjfnpnaaGreat
