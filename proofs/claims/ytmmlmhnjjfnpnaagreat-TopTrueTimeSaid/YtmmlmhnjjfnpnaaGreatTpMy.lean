/- Texts that belong together. -/
import Derived.Test.YtmmlmhnjjfnpnaaGreatTpMt
import Derived.Test.YtmmlmhnjjfnpnaaGreatTpMw
import Derived.BigQuiet
set_option linter.all false
namespace Go.Proofs.YtmmlmhnjjfnpnaaGreat
open Go.RowKit Go.ChangeMaps
theorem box2v {w:World} {g:Nat} {a b:Value} (lt:g<w.heap.size) (h0:w.cell? ⟨g,0,none⟩=some a) (h1:w.cell? ⟨g,1,none⟩=some b) (hf:∀o,w.frozen? ⟨g,o,none⟩=false):BoxIs w g [a,b]:=by
 refine⟨lt,fun j v hv=>?_,hf⟩;match j,hv with
 |0,hv=>cases hv;exact h0
 |1,hv=>cases hv;exact h1
 |j+2,hv=>simp at hv
theorem far1 {w:World} {g h i j:Nat} {u v:Value} (hne:g≠h) (hc:w.cell? ⟨g,i,none⟩=some u):(w.setCell ⟨h,j,none⟩ v).cell? ⟨g,i,none⟩=some u:=by
 rw[World.cell?_of_block (w:=w) (a:=⟨g,i,none⟩) (Below.heap_setCell w ⟨h,j,none⟩ v g hne)];exact hc
theorem far4 {w:World} {g h r j:Nat} {a b c d v:Value} (h1:g≠r) (h2:h≠r) (hc:w.cell? ⟨g,0,none⟩=some a∧w.cell? ⟨g,1,none⟩=some b∧w.cell? ⟨h,0,none⟩=some c∧w.cell? ⟨h,1,none⟩=some d):(w.setCell ⟨r,j,none⟩ v).cell? ⟨g,0,none⟩=some a∧(w.setCell ⟨r,j,none⟩ v).cell? ⟨g,1,none⟩=some b∧(w.setCell ⟨r,j,none⟩ v).cell? ⟨h,0,none⟩=some c∧(w.setCell ⟨r,j,none⟩ v).cell? ⟨h,1,none⟩=some d:=
 ⟨far1 h1 hc.1,far1 h1 hc.2.1,far1 h2 hc.2.2.1,far1 h2 hc.2.2.2⟩
theorem StoM.notS {w:World} {B p bi gg gs:Nat} {vr vp:Value} {R:List Ride} {s:Sto} (h:StoM w B p bi gg gs vr vp R s) {b:Nat} (hb:w.heap.size≤b):¬StoS p bi gg gs vr vp R b:=fun hs=>by
 have:=(h.ltS hs).2;omega
set_option maxRecDepth 100000 in
set_option maxHeartbeats 16000000 in
theorem sleave_calls (w:World) (B p bi gg gs:Nat) (vr vp:Value) (R:List Ride) (s:Sto) (h:StoM w B p bi gg gs vr vp R s) (b:Nat) (hbs:b<s.sp.length) (hbr:b<s.rg.length) (hpz:s.pz.length=R.length) (hk:at0 s.rg b<(R.length:Int)) (hleg:0≤at0 s.rg b→0<(s.rat (at0 s.rg b).toNat).legs.length) (v:Spt) (a t:Int):
 Calls Tryz.prog 79 #[.pointer (some ⟨p,0,none⟩),.int .i64 (b:Int),.agg #[.int .i64 v.w,.int .i64 v.p,.int .i64 v.r,.bool v.z],.agg #[.int .i64 a,.int .i64 t]] w (StoPost w B p bi gg gs vr vp R (leaveS s (b:Int) v a t)):=by
 have HP:=Lib.hid (fun(w':World) (vr' vp':Value) (R':List Ride) (h1:StoM w' B p bi gg gs vr' vp' R' (leaveS s (b:Int) v a t)) (h2:KpS (StoS p bi gg gs vr vp R) w w') (h3:∀b,StoS p bi gg gs vr' vp' R' b→StoS p bi gg gs vr vp R b∨w.heap.size≤b)=>show StoPost w B p bi gg gs vr vp R (leaveS s (b:Int) v a t) (.returned (.tuple #[])) w' from⟨rfl,vr',vp',R',h1,h2,h3⟩);generalize StoPost w B p bi gg gs vr vp R (leaveS s (b:Int) v a t)=PO at *;have Hh:=Lib.hid h;have Hh0:=Lib.hid h;have Hbs:=Lib.hid hbs;have Hbr:=Lib.hid hbr;have Hpz:=Lib.hid hpz;have Hk:=Lib.hid hk;have Hleg:=Lib.hid hleg;have hb0:(0:Int)≤(b:Int):=by omega
 have hbl:(b:Int)<(s.sp.length:Int):=by omega
 have hbl2:(b:Int)<(s.rg.length:Int):=by omega
 obtain⟨x,hx⟩:=Since.refl w;rw[hx];clear hx h hbs hbr hpz hk hleg;go_enter Tryz.func79,Tryz.ntmps79;go_upto_region 1 with fail;obtain⟨W,bx,y0,hW,hbx,-,hWup,Hup,Hbx,HB0,HB1⟩:=heads2 x [.int .i64 v.w,.int .i64 v.p,.int .i64 v.r,.bool v.z] 180 [.int .i64 a,.int .i64 t] 36;rw[hW,hbx];clear hW hbx;obtain⟨hb0_0,hb0_1,hb0_2,hb0_3,hf0⟩:=bx4 HB0;obtain⟨hb1_0,hb1_1,hf1⟩:=bx2 HB1;clear HB0 HB1;have HK:=Lib.hid (show KpS (StoS p bi gg gs vr vp R) w y0.w from by obtain⟨y,e⟩:=Hup.out y0;rw[e];exact KpS.of y);replace Hh:=Lib.hid ((Hh.out.to hWup).to ⟨y0,rfl⟩);have HB1:=Lib.hid (show BoxIs y0.w bx v.cs from box4 (by have h1:=Hbx.out;have h2:=y0.b.size;omega) (hb0_0 y0) (hb0_1 y0) (hb0_2 y0) (hb0_3 y0) (fun o=>hf0 y0 o));have HB2:=Lib.hid (show BoxIs y0.w (bx+1) [.int .i64 a,.int .i64 t]from box2v (by have h1:=Hbx.out;have h2:=y0.b.size;omega) (hb1_0 y0) (hb1_1 y0) (fun o=>hf1 y0 o));have HN1:=Lib.hid (Hh0.out.notS (b:=bx) Hbx.out.1);have HN2:=Lib.hid (Hh0.out.notS (b:=bx+1) (by have:=Hbx.out;omega));have Hbw:=Lib.hid (show w.heap.size≤bx from Hbx.out.1);clear hWup hb0_0 hb0_1 hb0_2 hb0_3 hb1_0 hb1_1 hf0 hf1 Hbx Hup;generalize bx+1=bw at *;generalize y0.w=w1 at *;have g4:∀w',IsSince w1 w'→w'.cell? ⟨p,4,none⟩=some (.slice (some ⟨gs,0,none⟩) s.sp.length s.sp.length):=fun w' h=>(Hh.out.st.to h).c 4 _ rfl;have a0:∀w',IsSince w1 w'→w'.cell? ⟨bx,0,none⟩=some (.int .i64 v.w):=fun w' h=>(HB1.out.to h).c 0 _ rfl;have a1:∀w',IsSince w1 w'→w'.cell? ⟨bx,1,none⟩=some (.int .i64 v.p):=fun w' h=>(HB1.out.to h).c 1 _ rfl;have a2:∀w',IsSince w1 w'→w'.cell? ⟨bx,2,none⟩=some (.int .i64 v.r):=fun w' h=>(HB1.out.to h).c 2 _ rfl;have a3:∀w',IsSince w1 w'→w'.cell? ⟨bx,3,none⟩=some (.bool v.z):=fun w' h=>(HB1.out.to h).c 3 _ rfl;obtain⟨u3,hu3⟩:∃u,s.sp[b]? =some u:=⟨_,List.getElem?_eq_getElem Hbs.out⟩
 have q0:w1.cell? ⟨gs,b*4,none⟩=some (.int .i64 u3.w):=Hh.out.sp.c _ _ (flat_at Spt.len s.sp b u3 0 _ hu3 rfl);have q1:w1.cell? ⟨gs,b*4+1,none⟩=some (.int .i64 u3.p):=Hh.out.sp.c _ _ (flat_at Spt.len s.sp b u3 1 _ hu3 rfl);have q2:w1.cell? ⟨gs,b*4+2,none⟩=some (.int .i64 u3.r):=Hh.out.sp.c _ _ (flat_at Spt.len s.sp b u3 2 _ hu3 rfl);have q3:w1.cell? ⟨gs,b*4+3,none⟩=some (.bool u3.z):=Hh.out.sp.c _ _ (flat_at Spt.len s.sp b u3 3 _ hu3 rfl);have qf:∀o,w1.frozen? ⟨gs,o,none⟩=false:=fun o=>Hh.out.sp.f o;clear hu3;refine wp_region_M (fun w'=>IsSince w1 w') 7 (by kernel_rfl) (IsSince.drew' (IsSince.self _)) (fun hS=>?_);refine tk 0 ?_ rfl (by kernel_rfl) hS (fun _ _ _ h=>h) ?_ ?_;rotate_left
 ·(intro w h;(try dsimp only at h);go_split_ands;go_simp;try with_reducible rfl)
 (try simp only[Act.put,actS])
 refine tk 1 ?_ rfl (by kernel_rfl) hS (fun _ _ _ h=>h) ?_ ?_;rotate_left
 ·(intro w h;(try dsimp only at h);go_split_ands;go_simp;try with_reducible rfl)
 (try simp only[Act.put,actS])
 refine tk 2 ?_ rfl (by kernel_rfl) hS (fun _ _ _ h=>h) ?_ ?_;rotate_left
 ·(intro w h;(try dsimp only at h);go_split_ands;go_simp;try with_reducible rfl)
 (try simp only[Act.put,actS])
 refine tk 3 ?_ rfl (by kernel_rfl) hS (fun _ _ _ h=>h) ?_ ?_;rotate_left
 ·(intro w h;(try dsimp only at h);go_split_ands;go_simp;try with_reducible rfl)
 (try simp only[Act.put,actS])
 refine tk 4 ?_ rfl (by kernel_rfl) hS (fun _ _ _ h=>h) ?_ ?_;rotate_left
 ·(intro w h;(try dsimp only at h);go_split_ands;go_simp;try with_reducible rfl)
 (try simp only[Act.put,actS])
 refine tk 5 ?_ rfl (by kernel_rfl) hS (fun _ _ _ h=>h) ?_ ?_;rotate_left
 ·(intro w h;(try dsimp only at h);go_split_ands;go_simp;try with_reducible rfl)
 (try simp only[Act.put,actS])
 refine tk 6 ?_ rfl (by kernel_rfl) hS (fun _ _ _ h=>h) ?_ ?_;rotate_left
 ·(intro w h;(try dsimp only at h);go_split_ands;go_simp;try with_reducible rfl)
 (try simp only[Act.put,actS])
 refine tk1 7 (by kernel_rfl) rfl fun K hK=>?_;go_simp;refine tkL hK (by kernel_rfl) ?_;clear hK K hS;(try simp only[Act.put,actS])
 clear g4 a0 a1 a2 a3 q0 q1 q2 q3 qf;have hst:IsSince w1 w1.drew:=IsSince.drew' (IsSince.self _);obtain⟨hM,hK⟩:=(Hh.out.to hst).setSp Hbs.out v;have hb1:=(HB1.out.to hst).keepS hK (fun e=>HN1.out (.inl (by rw[e];simp[sblk])));have hb2:=(HB2.out.to hst).keepS hK (fun e=>HN2.out (.inl (by rw[e];simp[sblk])));have hk:=HK.out.trans ((KpS.to (KpS.refl _ w1) hst).step hK) (fun g e=>.inl (.inl (by rw[e];simp[sblk])));have HM:=Lib.hid hM;have HB1b:=Lib.hid hb1;have HB2b:=Lib.hid hb2;have HK2:=Lib.hid hk;clear hM hb1 hb2 hk hK hst Hh HB1 HB2 HK;go_upto_region 2 with fail;refine Eq.mp (congrArg (Code.wp _ _ _ _) (show w1.drew.setCells gs (b*4) v.cs= _ from rfl)) ?_;generalize w1.drew.setCells gs (b*4) v.cs=w2 at *;have Hrg:=Lib.hid (show({s with sp:=s.sp.set b v}:Sto).rg=s.rg from rfl);have Hpz2:=Lib.hid (show({s with sp:=s.sp.set b v}:Sto).pz.length=R.length from Hpz.out);have Hrs:=Lib.hid (show({s with sp:=s.sp.set b v}:Sto).rs=s.rs from rfl);obtain⟨s1,hs1⟩:∃s1:Sto,{s with sp:=s.sp.set b v}=s1:=⟨_,rfl⟩
 rw[hs1]at HM Hrg Hpz2 Hrs;have Hs1:=Lib.hid hs1;clear hs1;obtain⟨j,hj⟩:∃j,at0 s.rg b=j:=⟨_,rfl⟩
 have hjc:(s1.rg.map (Value.int .i64))[b]? =some (.int .i64 j):=by
  rw[Hrg.out,List.getElem?_map,List.getElem?_eq_getElem Hbr.out,←hj];unfold at0;rw[List.getD_eq_getElem?_getD,List.getElem?_eq_getElem Hbr.out];rfl
 have k2:w2.cell? ⟨p,2,none⟩=some (.slice (some ⟨gg,0,none⟩) s.rg.length s.rg.length):=by have h1:=HM.out.st.c 2 _ rfl;rw[Hrg.out]at h1;exact h1
 have kj:w2.cell? ⟨gg,b,none⟩=some (.int .i64 j):=HM.out.rg.c b _ hjc;have HK3:=Hk;rw[hj]at HK3 Hleg;have Hj:=Lib.hid hj;clear hj hjc;by_cases hneg:j<0
 ·have HE:=Lib.hid (leave_neg (x:=v) (a:=a) (t:=t) (s:=s) (b:=b) (by rw[Hj.out];exact hneg))
  have HR:=Lib.hid (HP.out w2 _ _ _ (by rw[HE.out,Hs1.out];exact HM.out) HK2.out (fun b hb=>.inl hb));go_wp2_with fail;refine body_end (v:=.tuple #[]) (by simp[results,Tryz.results79,go_sem]) rfl ?_;exact HR.out
 ·obtain⟨k,rfl⟩:∃k:Nat,j=(k:Int):=⟨j.toNat,by omega⟩
  have hkR:k<R.length:=by have:=HK3.out;omega
  have hres:=resume_calls w2 B p bi gg gs vr vp R s1 HM.out k hkR Hpz2.out a t;have c0:w2.cell? ⟨bw,0,none⟩=some (.int .i64 a):=HB2b.out.c 0 _ rfl;have c1:w2.cell? ⟨bw,1,none⟩=some (.int .i64 t):=HB2b.out.c 1 _ rfl;go_upto_region 5 with(go_at_call 78;(with_reducible refine hres.mono ?_);clear hres;rintro _ w3 ⟨rfl,vr3,vp3,R3,hM3,hK3,hS3⟩)
  clear k2 kj c0 c1;have HE:=Lib.hid (fun(s2:Sto) (h2:resumeS s1 k a t=s2) (r:Ride) (hr:s2.rat k=r.br)=>leave_pos (s:=s) (b:=b) (k:=k) (x:=v) (a:=a) (t:=t) Hj.out (by rw[Hs1.out];exact h2) hr);obtain⟨e1,e2,e3,e4⟩:=resume_rg s1 k a t;obtain⟨s2,hs2⟩:∃s2,resumeS s1 k a t=s2:=⟨_,rfl⟩
  rw[hs2]at hM3 e1 e2 e3 e4;have hlen:R3.length=R.length:=by
   have h1:=congrArg List.length hM3.br;have h2:=congrArg List.length Hh0.out.br;rw[List.length_map]at h1 h2;rw[h1,e2,Hrs.out,h2]
  obtain⟨r3,hr3⟩:∃r,R3[k]? =some r:=⟨_,List.getElem?_eq_getElem (by omega)⟩
  have hrat:=rat_at hM3.br hr3;have hlegs:0<r3.legs.length:=by
   have h1:=Hleg.out (by omega);rw[Int.toNat_natCast]at h1;have h2:(s2.rat k).legs=r3.legs:=by rw[hrat];rfl
   have h3:s1.rat k=s.rat k:=by unfold Sto.rat;rw[Hrs.out]
   rw[←h2,e4,h3];exact h1
  have HE2:=Lib.hid (HE.out s2 hs2 r3 hrat);obtain⟨gr,cr,rfl,_,_⟩:=own_some hM3.rr (by omega);have hb1:=HB1b.out.keepS hK3 HN1.out;have hb2:=HB2b.out.keepS hK3 HN2.out;have hn1:¬StoS p bi gg gs (.slice (some ⟨gr,0,none⟩) R3.length cr) vp3 R3 bx:=fun hc=>by
   rcases hS3 bx hc with h'|h'
   ·exact HN1.out h'
   ·have:=HB1b.out.lt;omega
  have hn2:¬StoS p bi gg gs (.slice (some ⟨gr,0,none⟩) R3.length cr) vp3 R3 bw:=fun hc=>by
   rcases hS3 bw hc with h'|h'
   ·exact HN2.out h'
   ·have:=HB2b.out.lt;omega
  have HS3:=Lib.hid (show∀b,StoS p bi gg gs (.slice (some ⟨gr,0,none⟩) R3.length cr) vp3 R3 b→StoS p bi gg gs vr vp R b∨w.heap.size≤b from fun b hb=>by
   rcases hS3 b hb with h'|h'
   ·exact .inl h'
   ·exact .inr (Nat.le_trans HK2.out.size h'))
  have HK3c:=Lib.hid (HK2.out.step hK3);have HM3:=Lib.hid hM3;have HB1c:=Lib.hid hb1;have HB2c:=Lib.hid hb2;have HN1c:=Lib.hid hn1;have HN2c:=Lib.hid hn2;have Hr3:=Lib.hid hr3;have Hrg2:=Lib.hid (show s2.rg=s.rg from e1.trans Hrg.out);have hk0:(0:Int)≤(k:Int):=by omega
  have hkl:(k:Int)<(R3.length:Int):=by omega
  obtain⟨init,q,hpq⟩:=snocT_of hlegs;obtain⟨gl,hga,hgc,_⟩:=(hM3.rm r3 (List.mem_of_getElem? hr3)).leg_at hlegs;obtain⟨N,hN⟩:∃N,r3.legs.length=N:=⟨_,rfl⟩
  have hNi:N=init.length+1:=by rw[←hN,hpq,List.length_append];rfl
  obtain⟨M,hM⟩:∃M,init.length=M:=⟨_,rfl⟩
  have hNM:N=M+1:=by omega
  have hNq:r3.legs[M]? =some q:=by rw[←hM,hpq,List.getElem?_append_right (Nat.le_refl _),Nat.sub_self];rfl
  have hrow:=(hM3.rm r3 (List.mem_of_getElem? hr3)).l;unfold Ride.lv at hrow;rw[hga,hN]at hrow;have l7':(flat Ride.cs R3)[k*13+7]? =some (.slice (some ⟨gl,0,none⟩) N r3.lc):=by
   have:=flat_at Ride.len R3 k r3 7 (.slice r3.la r3.legs.length r3.lc) hr3 rfl;rw[hga,hN]at this;exact this
  have l7:∀w',IsSince w3 w'→w'.cell? ⟨gr,k*13+7,none⟩=some (.slice (some ⟨gl,0,none⟩) N r3.lc):=fun w' h=>by obtain⟨y,rfl⟩:=h;exact(own_cell HM3.out.rr l7').1 y
  have q3:w3.cell? ⟨gl,M*5+3,none⟩=some (.int .i64 q.t0):=(own_cell hrow (flat_at Leg.len r3.legs M q 3 _ hNq rfl)).1 (Since.self w3);have q4:w3.cell? ⟨gl,M*5+4,none⟩=some (.int .i64 q.t1):=(own_cell hrow (flat_at Leg.len r3.legs M q 4 _ hNq rfl)).1 (Since.self w3);have f3:w3.frozen? ⟨gl,M*5+3,none⟩=false:=(own_cell hrow (flat_at Leg.len r3.legs M q 3 _ hNq rfl)).2.1 (Since.self w3);have f4:w3.frozen? ⟨gl,M*5+4,none⟩=false:=(own_cell hrow (flat_at Leg.len r3.legs M q 4 _ hNq rfl)).2.1 (Since.self w3);have c0:∀w',IsSince w3 w'→w'.cell? ⟨bw,0,none⟩=some (.int .i64 a):=fun w' h=>(HB2c.out.to h).c 0 _ rfl;have c1:∀w',IsSince w3 w'→w'.cell? ⟨bw,1,none⟩=some (.int .i64 t):=fun w' h=>(HB2c.out.to h).c 1 _ rfl;have k0:w3.cell? ⟨p,0,none⟩=some (.slice (some ⟨gr,0,none⟩) R3.length cr):=HM3.out.st.c 0 _ rfl;have hst:IsSince w3 w3.drew:=IsSince.drew' (IsSince.self _);obtain⟨hM4,hK4⟩:=(HM3.out.to hst).endL hr3 hpq hga a t;have ei:init.length=M:=hM;rw[ei]at hM4 hK4;have hlast:init ++ [q.to a t]=lastSet r3.legs (fun x=>x.to a t):=by rw[hpq,lastSet_snoc]
  rw[hlast]at hM4;have HM4:=Lib.hid hM4;have HK4:=Lib.hid ((KpS.to (KpS.refl _ w3) hst).step hK4);have hN0:1≤N:=by omega
  have hN2:(0:Int)≤(M:Int):=by omega
  have hN3:(M:Int)<(N:Int):=by omega
  have hNb:N≤9223372036854775807:=by
   have h1:=hrow;obtain⟨_,⟨hbad,_⟩|⟨_,_,_,_,_,_,h2,h3,_⟩⟩:=h1
   ·cases hbad
   ·unfold maxLen at h3;omega
  have hw1:IntKind.i64.wrap ((N:Int)-1)=(M:Int):=by rw[show(N:Int)-1=(M:Int) by omega];exact IntWalk.i64_in _ (by omega)
  clear hN hNi hNM hM hNq hrow hlast hM4 hK4 ei hpq hga hgc hNb l7' hM3 hK3 hS3 hb1 hb2 hn1 hn2 hr3 hrat hlegs hlen hs2 e1 e2 e3 e4 hst;go_upto_region 6 with fail;clear k0;refine wp_region_M (fun w'=>IsSince w3 w') 13 (by kernel_rfl) (IsSince.drew' (IsSince.self _)) (fun hS=>?_);refine tk 0 ?_ rfl (by kernel_rfl) hS (fun _ _ _ h=>h) ?_ ?_;rotate_left
  ·(intro w h;(try dsimp only at h);go_split_ands;go_simp;try with_reducible rfl)
  (try simp only[Act.put,actS])
  refine tk 1 ?_ rfl (by kernel_rfl) hS (fun _ _ _ h=>h) ?_ ?_;rotate_left
  ·(intro w h;(try dsimp only at h);go_split_ands;go_simp;try with_reducible rfl)
  (try simp only[Act.put,actS])
  refine tk 2 ?_ rfl (by kernel_rfl) hS (fun _ _ _ h=>h) ?_ ?_;rotate_left
  ·(intro w h;(try dsimp only at h);go_split_ands;go_simp;try with_reducible rfl)
  (try simp only[Act.put,actS])
  refine tk 3 ?_ rfl (by kernel_rfl) hS (fun _ _ _ h=>h) ?_ ?_;rotate_left
  ·(intro w h;(try dsimp only at h);go_split_ands;go_simp;try with_reducible rfl)
  (try simp only[Act.put,actS])
  refine tk 4 ?_ rfl (by kernel_rfl) hS (fun _ _ _ h=>h) ?_ ?_;rotate_left
  ·(intro w h;(try dsimp only at h);go_split_ands;go_simp;try with_reducible rfl)
  (try simp only[Act.put,actS])
  refine tk 5 ?_ rfl (by kernel_rfl) hS (fun _ _ _ h=>h) ?_ ?_;rotate_left
  ·(intro w h;(try dsimp only at h);go_split_ands;go_simp;try with_reducible rfl)
  (try simp only[Act.put,actS])
  refine tk 6 ?_ rfl (by kernel_rfl) hS (fun _ _ _ h=>h) ?_ ?_;rotate_left
  ·(intro w h;(try dsimp only at h);go_split_ands;go_simp;try with_reducible rfl)
  (try simp only[Act.put,actS])
  refine tk 7 ?_ rfl (by kernel_rfl) hS (fun _ _ _ h=>h) ?_ ?_;rotate_left
  ·(intro w h;(try dsimp only at h);go_split_ands;go_simp;try with_reducible rfl)
  (try simp only[Act.put,actS])
  refine tk 8 ?_ rfl (by kernel_rfl) hS (fun _ _ _ h=>h) ?_ ?_;rotate_left
  ·(intro w h;(try dsimp only at h);go_split_ands;go_simp;try with_reducible rfl)
  (try simp only[Act.put,actS])
  refine tk 9 ?_ rfl (by kernel_rfl) hS (fun _ _ _ h=>h) ?_ ?_;rotate_left
  ·(intro w h;(try dsimp only at h);go_split_ands;go_simp;try with_reducible rfl)
  (try simp only[Act.put,actS])
  refine tk 10 ?_ rfl (by kernel_rfl) hS (fun _ _ _ h=>h) ?_ ?_;rotate_left
  ·(intro w h;(try dsimp only at h);go_split_ands;go_simp;try with_reducible rfl)
  (try simp only[Act.put,actS])
  refine tk 11 ?_ rfl (by kernel_rfl) hS (fun _ _ _ h=>h) ?_ ?_;rotate_left
  ·(intro w h;(try dsimp only at h);go_split_ands;go_simp;try with_reducible rfl)
  (try simp only[Act.put,actS])
  refine tk 12 ?_ rfl (by kernel_rfl) hS (fun _ _ _ h=>h) ?_ ?_;rotate_left
  ·(intro w h;(try dsimp only at h);go_split_ands;go_simp;try with_reducible rfl)
  (try simp only[Act.put,actS])
  refine tk1 13 (by kernel_rfl) rfl fun K hK=>?_;go_simp;refine tkL hK (by kernel_rfl) ?_;clear hK K hS;(try simp only[Act.put,actS])
  clear l7 q3 q4 f3 f4 c0 c1;go_upto_region 7 with fail;refine Eq.mp (congrArg (Code.wp _ _ _ _) (show(w3.drew.setCell ⟨gl,M*5+3,none⟩ (.int .i64 a)).setCell ⟨gl,M*5+3+1,none⟩ (.int .i64 t)= _ from rfl)) ?_;have hb1:=HB1c.out.keepS HK4.out HN1c.out;have hb2:=HB2c.out.keepS HK4.out HN2c.out;have hk4:=HK3c.out.trans HK4.out (fun b hb=>HS3.out b hb);have HB1d:=Lib.hid hb1;have HB2d:=Lib.hid hb2;have HK4c:=Lib.hid hk4;clear hb1 hb2 hk4 HB1c HB2c HM3 HK4 HK3c HB1b HB2b HK2 HM;generalize(w3.drew.setCell ⟨gl,M*5+3,none⟩ (.int .i64 a)).setCell ⟨gl,M*5+3+1,none⟩ (.int .i64 t)=w4 at *;obtain⟨r4,hr4e⟩:∃r4:Ride,{r3 with legs:=lastSet r3.legs fun x=>x.to a t}=r4:=⟨_,rfl⟩
  have hrb:rblk r4=rblk r3:=by rw[←hr4e];exact rblk_legs _ _
  have hfin:r4.ended a t v.w v.p=r3.fin v a t:=by rw[←hr4e];rfl
  rw[hr4e]at HM4;have hr4:(R3.set k r4)[k]? =some r4:=set_get Hr3.out;have hl4:(R3.set k r4).length=R3.length:=List.length_set;have hS4:∀b,StoS p bi gg gs (.slice (some ⟨gr,0,none⟩) R3.length cr) vp3 (R3.set k r4) b→StoS p bi gg gs (.slice (some ⟨gr,0,none⟩) R3.length cr) vp3 R3 b:=fun b hb=>hb.set Hr3.out hrb;have hM4:=HM4.out;obtain⟨R4,hR4⟩:∃R4,R3.set k r4=R4:=⟨_,rfl⟩
  rw[hR4]at hM4 hr4 hl4 hS4;have Hset:=Lib.hid (show R4.set k (r4.ended a t v.w v.p)=R3.set k (r3.fin v a t)from by rw[←hR4,List.set_set,hfin]);rw[←hl4]at hM4 hS4 HS3 hkl;have HN1d:=Lib.hid (fun hc=>HN1c.out (by rw[←hl4];exact hS4 bx hc));have HN2d:=Lib.hid (fun hc=>HN2c.out (by rw[←hl4];exact hS4 bw hc));obtain⟨hM5,hK5⟩:=hM4.setEnd hr4 a t v.w v.p;have hce:=fun(j:Nat) (u:Value) (hj:r4.cs[j]? =some u)=>own_cell hM4.rr (flat_at Ride.len R4 k r4 j u hr4 hj);have d4:w4.cell? ⟨gr,k*13+4,none⟩=some (.int .i64 r4.e0):=(hce 4 _ rfl).1 (Since.self w4);have d5:w4.cell? ⟨gr,k*13+5,none⟩=some (.int .i64 r4.e1):=(hce 5 _ rfl).1 (Since.self w4);have d6:w4.cell? ⟨gr,k*13+6,none⟩=some (.bool r4.op):=(hce 6 _ rfl).1 (Since.self w4);have d11:w4.cell? ⟨gr,k*13+11,none⟩=some (.int .i64 r4.wh):=(hce 11 _ rfl).1 (Since.self w4);have d12:w4.cell? ⟨gr,k*13+12,none⟩=some (.int .i64 r4.pl):=(hce 12 _ rfl).1 (Since.self w4);have f4:w4.frozen? ⟨gr,k*13+4,none⟩=false:=(hce 4 _ rfl).2.1 (Since.self w4);have f5:w4.frozen? ⟨gr,k*13+5,none⟩=false:=(hce 5 _ rfl).2.1 (Since.self w4);have f6:w4.frozen? ⟨gr,k*13+6,none⟩=false:=(hce 6 _ rfl).2.1 (Since.self w4);have f11:w4.frozen? ⟨gr,k*13+11,none⟩=false:=(hce 11 _ rfl).2.1 (Since.self w4);have f12:w4.frozen? ⟨gr,k*13+12,none⟩=false:=(hce 12 _ rfl).2.1 (Since.self w4);have hgr1:bx≠gr:=fun e=>HN1d.out (.inl (by rw[e];simp[sblk,ob_slice]));have hgr2:bw≠gr:=fun e=>HN2d.out (.inl (by rw[e];simp[sblk,ob_slice]));have Hgr1:=Lib.hid hgr1;have Hgr2:=Lib.hid hgr2;have b0:w4.cell? ⟨bx,0,none⟩=some (.int .i64 v.w):=HB1d.out.c 0 _ rfl;have b1:w4.cell? ⟨bx,1,none⟩=some (.int .i64 v.p):=HB1d.out.c 1 _ rfl;have b2:w4.cell? ⟨bw,0,none⟩=some (.int .i64 a):=HB2d.out.c 0 _ rfl;have b3:w4.cell? ⟨bw,1,none⟩=some (.int .i64 t):=HB2d.out.c 1 _ rfl;have HM5:=Lib.hid hM5;have HK5:=Lib.hid hK5;have HS4:=Lib.hid hS4;have Hfin:=Lib.hid hfin;clear hM4 hM5 hK5 hS4 hce hr4e hrb hfin hr4 hgr1 hgr2 hl4 HM4 hR4;refine wp_region_M (fun w'=>w'.cell? ⟨bx,0,none⟩=some (.int .i64 v.w)∧w'.cell? ⟨bx,1,none⟩=some (.int .i64 v.p)∧w'.cell? ⟨bw,0,none⟩=some (.int .i64 a)∧w'.cell? ⟨bw,1,none⟩=some (.int .i64 t)) 20 (by kernel_rfl) ⟨b0,b1,b2,b3⟩ (fun hS=>?_);refine tk 0 ?_ rfl (by kernel_rfl) hS (fun _ _ _ h=>h) ?_ ?_;rotate_left
  ·(intro w h;(try dsimp only at h);go_split_ands;go_simp;try with_reducible rfl)
  (try simp only[Act.put,actS])
  refine tk 1 ?_ rfl (by kernel_rfl) hS (fun _ _ _ h=>h) ?_ ?_;rotate_left
  ·(intro w h;(try dsimp only at h);go_split_ands;go_simp;try with_reducible rfl)
  (try simp only[Act.put,actS])
  refine tk 2 ?_ rfl (by kernel_rfl) hS (fun _ _ _ h=>h) ?_ ?_;rotate_left
  ·(intro w h;(try dsimp only at h);go_split_ands;go_simp;try with_reducible rfl)
  (try simp only[Act.put,actS])
  refine tk 3 ?_ rfl (by kernel_rfl) hS (fun _ _ _ h=>h) ?_ ?_;rotate_left
  ·(intro w h;(try dsimp only at h);go_split_ands;go_simp;try with_reducible rfl)
  (try simp only[Act.put,actS])
  refine tk 4 ?_ rfl (by kernel_rfl) hS (fun _ _ _ h=>h) ?_ ?_;rotate_left
  ·(intro w h;(try dsimp only at h);go_split_ands;go_simp;try with_reducible rfl)
  (try simp only[Act.put,actS])
  refine tk 5 ?_ rfl (by kernel_rfl) hS (fun _ _ _ h=>h) ?_ ?_;rotate_left
  ·(intro w h;(try dsimp only at h);go_split_ands;go_simp;try with_reducible rfl)
  (try simp only[Act.put,actS])
  refine tk 6 ?_ rfl (by kernel_rfl) hS (fun _ _ _ h=>h) ?_ ?_;rotate_left
  ·(intro w h;(try dsimp only at h);go_split_ands;go_simp;try with_reducible rfl)
  (try simp only[Act.put,actS])
  refine tk 7 ?_ rfl (by kernel_rfl) hS (fun _ _ _ h=>h) ?_ ?_;rotate_left
  ·(intro w h;(try dsimp only at h);go_split_ands;go_simp;try with_reducible rfl)
  (try simp only[Act.put,actS])
  refine tk 8 ?_ rfl (by kernel_rfl) hS (fun _ _ _ h=>h) ?_ ?_;rotate_left
  ·(intro w h;(try dsimp only at h);go_split_ands;go_simp;try with_reducible rfl)
  (try simp only[Act.put,actS])
  refine tk 9 ?_ rfl (by kernel_rfl) hS (fun _ _ _ h=>h) ?_ ?_;rotate_left
  ·(intro w h;(try dsimp only at h);go_split_ands;go_simp;try with_reducible rfl)
  (try simp only[Act.put,actS])
  refine tk 10 ?_ rfl (by kernel_rfl) hS (fun _ _ _ h=>h) ?_ ?_;rotate_left
  ·(intro w h;(try dsimp only at h);go_split_ands;go_simp;try with_reducible rfl)
  (try simp only[Act.put,actS])
  refine tk1 11 (by kernel_rfl) rfl fun K hK=>?_;go_simp;refine tkK hK (far4 Hgr1.out Hgr2.out (far4 Hgr1.out Hgr2.out hS)) ?_;clear hK K hS;intro hS;(try simp only[Act.put,actS])
  refine tk 12 ?_ rfl (by kernel_rfl) hS (fun _ _ _ h=>h) ?_ ?_;rotate_left
  ·(intro w h;(try dsimp only at h);go_split_ands;go_simp;try with_reducible rfl)
  (try simp only[Act.put,actS])
  refine tk 13 ?_ rfl (by kernel_rfl) hS (fun _ _ _ h=>h) ?_ ?_;rotate_left
  ·(intro w h;(try dsimp only at h);go_split_ands;go_simp;try with_reducible rfl)
  (try simp only[Act.put,actS])
  refine tk1 14 (by kernel_rfl) rfl fun K hK=>?_;go_simp;refine tkK hK (far4 Hgr1.out Hgr2.out hS) ?_;clear hK K hS;intro hS;(try simp only[Act.put,actS])
  refine tk 15 ?_ rfl (by kernel_rfl) hS (fun _ _ _ h=>h) ?_ ?_;rotate_left
  ·(intro w h;(try dsimp only at h);go_split_ands;go_simp;try with_reducible rfl)
  (try simp only[Act.put,actS])
  refine tk 16 ?_ rfl (by kernel_rfl) hS (fun _ _ _ h=>h) ?_ ?_;rotate_left
  ·(intro w h;(try dsimp only at h);go_split_ands;go_simp;try with_reducible rfl)
  (try simp only[Act.put,actS])
  refine tk1 17 (by kernel_rfl) rfl fun K hK=>?_;go_simp;refine tkK hK (far4 Hgr1.out Hgr2.out hS) ?_;clear hK K hS;intro hS;(try simp only[Act.put,actS])
  refine tk 18 ?_ rfl (by kernel_rfl) hS (fun _ _ _ h=>h) ?_ ?_;rotate_left
  ·(intro w h;(try dsimp only at h);go_split_ands;go_simp;try with_reducible rfl)
  (try simp only[Act.put,actS])
  refine tk 19 ?_ rfl (by kernel_rfl) hS (fun _ _ _ h=>h) ?_ ?_;rotate_left
  ·(intro w h;(try dsimp only at h);go_split_ands;go_simp;try with_reducible rfl)
  (try simp only[Act.put,actS])
  refine tk1 20 (by kernel_rfl) rfl fun K hK=>?_;go_simp;refine tkL hK (by kernel_rfl) ?_;clear hK K hS;(try simp only[Act.put,actS])
  clear d4 d5 d6 d11 d12 f4 f5 f6 f11 f12 b0 b1 b2 b3;go_upto_region 8 with fail;refine Eq.mp (congrArg (Code.wp _ _ _ _) (show(endW w4 gr k a t v.w v.p).drew= _ from rfl)) ?_;have hst:IsSince (endW w4 gr k a t v.w v.p) (endW w4 gr k a t v.w v.p).drew:=IsSince.drew' (IsSince.self _);have hM6:StoM (endW w4 gr k a t v.w v.p).drew B p bi gg gs (.slice (some ⟨gr,0,none⟩) R4.length cr) vp3 (R3.set k (r3.fin v a t)) {s2 with rs:=s2.rs.set k (r3.fin v a t).br}:=by
   have h:=HM5.out.to hst;rw[Hset.out]at h;have e:(s2.rs.set k r4.br).set k (r4.ended a t v.w v.p).br=s2.rs.set k (r3.fin v a t).br:=by rw[List.set_set,Hfin.out]
   dsimp only at h;rw[e]at h;exact h
  have hk6:=HK4c.out.trans (HK5.out.step (KpS.to (KpS.refl _ _) hst)) (fun b hb=>HS3.out b (HS4.out b hb));have hS6:∀b,StoS p bi gg gs (.slice (some ⟨gr,0,none⟩) R4.length cr) vp3 (R3.set k (r3.fin v a t)) b→StoS p bi gg gs vr vp R b∨w.heap.size≤b:=fun b hb=>by
   exact HS3.out b (hb.set Hr3.out (show rblk (r3.fin v a t)=rblk r3 from by unfold rblk Ride.lv Ride.pv Ride.fin;simp only[ob_slice]))
  have HM6:=Lib.hid hM6;have HK6:=Lib.hid hk6;have HS6:=Lib.hid hS6;clear hM6 hk6 hS6 hst HM5 HK5 HK4c;generalize(endW w4 gr k a t v.w v.p).drew=w6 at *;have hbr6:b<s2.rg.length:=by rw[Hrg2.out];exact Hbr.out
  have k2:w6.cell? ⟨p,2,none⟩=some (.slice (some ⟨gg,0,none⟩) s.rg.length s.rg.length):=by
   have h1:w6.cell? ⟨p,2,none⟩=some (.slice (some ⟨gg,0,none⟩) s2.rg.length s2.rg.length):=HM6.out.st.c 2 _ rfl;rw[Hrg2.out]at h1;exact h1
  have kc:w6.cell? ⟨gg,b,none⟩=some (.int .i64 s2.rg[b]):=HM6.out.rg.c b _ (by show(s2.rg.map (Value.int .i64))[b]? = _;rw[List.getElem?_map,List.getElem?_eq_getElem hbr6];rfl);have kf:∀o,w6.frozen? ⟨gg,o,none⟩=false:=fun o=>HM6.out.rg.f o;obtain⟨hM7,hK7⟩:=HM6.out.setRg (b:=b) hbr6 (-1);have HR:=Lib.hid (HP.out _ _ _ _ (by rw[HE2.out];exact hM7) (HK6.out.trans hK7 (fun g e=>.inl (.inl (by rw[e];simp[sblk])))) HS6.out);clear hM7 hK7;go_wp2_with fail;refine body_end (v:=.tuple #[]) (by simp[results,Tryz.results79,go_sem]) rfl ?_;exact HR.out
end Go.Proofs.YtmmlmhnjjfnpnaaGreat
namespace Go.Proofs.YtmmlmhnjjfnpnaaGreat
open Go.RowKit Go.ChangeMaps
theorem accL_next {f:Flt}:∀(L:List Ev) (c:Cus) (e:Ev) (A:List Ev),accL f c L=e :: A→∃L2,okB f c e=true∧accL f (doE c e) L2=A∧(e :: L2).Sublist L
 |[],c,e,A,h=>by simp[accL]at h
 |x :: L,c,e,A,h=>by
  unfold accL at h;by_cases ho:okB f c x=true
  ·rw[if_pos ho]at h
   obtain⟨rfl,h2⟩:=List.cons.inj h;exact⟨L,ho,h2,List.Sublist.refl _⟩
  ·rw[if_neg ho]at h
   obtain⟨L2,h1,h2,h3⟩:=accL_next L c e A h;exact⟨L2,h1,h2,h3.cons x⟩
def TlS (f:Flt) (n:Nat) (s:Sto) (A:List Ev):Prop:=
 ∃(c:Cus) (T:Int) (N:Nat) (L:List Ev),JI n c s T N∧A=accL f c L∧L.Pairwise (fun x y=>x.a≤y.a)∧(∀e∈L,T≤e.a)∧N+L.length≤512∧s.rs.length≤N
theorem tlS_start {f:Flt} {n:Nat} {L:List Ev} (hp:L.Pairwise fun x y=>x.a≤y.a) (hl:L.length≤512):TlS f n (sto0 n) (accL f (cus0 n) L):=by
 obtain⟨T,hT⟩:∃T:Int,∀e∈L,T≤e.a:=by
  cases L with
  |nil=>exact⟨0,fun e he=>by cases he⟩
  |cons e l=>
   rw[List.pairwise_cons]at hp
   refine⟨e.a,fun x hx=>?_⟩
   rcases List.mem_cons.1 hx with rfl|hx
   ·exact Int.le_refl _
   ·exact hp.1 x hx
 exact⟨_,T,0,L,ji_start n T,rfl,hp,hT,by omega,by simp[sto0]⟩
theorem TlS.len {f:Flt} {n:Nat} {s:Sto} {A:List Ev} (h:TlS f n s A):s.rs.length≤512:=by
 obtain⟨c,T,N,L,_,_,_,_,h1,h2⟩:=h;omega
theorem TlS.next {f:Flt} {n:Nat} {s:Sto} {e:Ev} {A:List Ev} (h:TlS f n s (e :: A)) (hn:n=f.bk.toNat):∃(b N:Nat),N≤512∧TellF n s N e b∧TlS f n (tellS s e) A:=by
 obtain⟨c,T,N,L,J,hA,hp,hT,hN,hs⟩:=h;obtain⟨L2,ho,h2,hsub⟩:=accL_next L c e A hA.symm;have hlen:=hsub.length_le;simp only[List.length_cons]at hlen;have heL:e∈L:=hsub.subset (by simp);have hp2:=hp.sublist hsub;rw[List.pairwise_cons]at hp2;obtain⟨b,hF⟩:=tell_facts J hn ho;refine⟨b,N,by omega,hF,doE c e,e.a,N+1,L2,J.step hn ho (hT e heL) (by omega),h2.symm,hp2.2,hp2.1,by omega,?_⟩;rw[tellS_len];split<;>omega
theorem sortI_br (R:List Ride) (hd:R.Pairwise fun x y=>x.id≠y.id):(sortI R).map Ride.br=sortI (R.map Ride.br):=by
 refine sortI_unique ((sortI_perm R).map _) ?_ ?_
 ·rw[List.pairwise_map]
  exact sortI_sorted R
 ·rw[List.pairwise_map]
  exact hd
theorem stoM_start {w:World} {B p bi gg gs m:Nat} {T1 T2 T3:TypeId} {l:List Int} (h1:w.heap[p]? =some (.cells ([.slice none 0 0,.map (some bi),.slice (some ⟨gg,0,none⟩) m m,.slice none 0 0,.slice (some ⟨gs,0,none⟩) m m]:List Value).toArray T1)) (h2:w.heap[bi]? =some (.map #[] 0)) (h3:w.heap[gg]? =some (.cells (l.map (Value.int .i64)).toArray T2)) (h4:w.heap[gs]? =some (.cells (flat Spt.cs (List.replicate m default)).toArray T3)) (hl:l.length=m) (hn:[p,bi,gg,gs].Nodup) (hB:∀g∈[p,bi,gg,gs],B≤g):
 StoM w B p bi gg gs (.slice none 0 0) (.slice none 0 0) [] {sto0 m with rg:=l}:=by
 refine⟨?_,⟨rfl,.inl ⟨rfl,rfl⟩⟩,rfl,?_,BoxIs.heap h3,⟨rfl,.inl ⟨rfl,rfl⟩⟩,BoxIs.heap h4,(fun r hr=>by cases hr),⟨?_,(fun i r hr=>by simp at hr),(fun i j r r' hr=>by simp at hr)⟩,⟨hB _ (by simp),hB _ (by simp),hB _ (by simp),hB _ (by simp)⟩⟩
 ·have:=BoxIs.heap h1
  simpa[sto0,hl]using this
 ·simpa[sto0,MapAt,entF]using h2
 ·simpa[sblk,ob_slice]using hn
theorem leafS {W wr:World} {m:Nat} (p bi gg gs:Nat) (h1:wr.heap[p]? =some (.cells ([.slice none 0 0,.map (some bi),.slice (some ⟨gg,0,none⟩) m m,.slice none 0 0,.slice (some ⟨gs,0,none⟩) m m]:List Value).toArray 104)) (h2:wr.heap[bi]? =some (.map #[] 0)) (h3:wr.heap[gg]? =some (.cells (List.replicate m (Value.int .i64 0)).toArray 3)) (h4:wr.heap[gs]? =some (.cells (flat Spt.cs (List.replicate m default)).toArray 180)) (hst:IsSince W wr) (hn:[p,bi,gg,gs].Nodup∧∀g∈[p,bi,gg,gs],W.heap.size≤g):
 ∃(p' bi gg gs:Nat),Value.pointer (some ⟨p,0,none⟩)= .pointer (some ⟨p',0,none⟩)∧IsSince W wr∧StoM wr W.heap.size p' bi gg gs (.slice none 0 0) (.slice none 0 0) [] {sto0 m with rg:=List.replicate m 0}:=
 ⟨p,bi,gg,gs,rfl,hst,stoM_start h1 h2 (by rw[List.map_replicate];exact h3) h4 (by simp) hn.1 hn.2⟩
end Go.Proofs.YtmmlmhnjjfnpnaaGreat
