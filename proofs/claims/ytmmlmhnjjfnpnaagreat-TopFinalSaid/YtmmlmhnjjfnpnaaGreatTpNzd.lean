/- Texts that belong together. -/
import Derived.Test.YtmmlmhnjjfnpnaaGreatTpNzc
import Derived.BigQuiet
set_option linter.all false
namespace Go.Proofs.YtmmlmhnjjfnpnaaGreat
set_option maxRecDepth 200000
set_option maxHeartbeats 64000000
section
open Go.RowKit Go.ChangeMaps
theorem Ao5 {s:C7} {i:Int} {k:Nat} (h:s.idx i=some k):N7 i (s.ix.map fun x=>(x.1,Value.int .i64 (x.2:Int))) (.int .i64 0)= .int .i64 (k:Int)∧eE i (s.ix.map fun x=>(x.1,Value.int .i64 (x.2:Int)))=true:=by
 unfold C7.idx at h;have key:∀(l:List (Int×Nat)) (m:Nat),((l.find? fun x=>decide (x.1=i)).map (·.2))=some k→∃j,D8 i (l.map fun x=>(x.1,Value.int .i64 (x.2:Int))) m=some (j,.int .i64 (k:Int)):=by
  intro l;induction l with
  |nil=>intro m h;simp at h
  |cons x l ih=>
   intro m h
   simp only[List.map_cons,D8]
   by_cases e:i=x.1
   ·rw[if_pos e]
    rw[List.find?_cons_of_pos (by simp[e])]at h;simp at h;exact⟨m,by rw[h]⟩
   ·rw[if_neg e]
    rw[List.find?_cons_of_neg (by simpa using fun h=>e h.symm)]at h;exact ih (m+1) h
 obtain⟨j,hj⟩:=key s.ix 0 h;unfold N7 eE;rw[hj];exact⟨rfl,rfl⟩
theorem Bd9 (w:World):(zeroValue 3).run Tryz.prog w= .ok (.int .i64 0) w:=by kernel_rfl
theorem Be0 (wB:World) (w:World) (hX:∃y:A6 wB,w=y.w) (p bi gg gs:Nat) (vr vp:Value) (R:List A8) (s:C7) (h:G7 w wB.heap.size p bi gg gs vr vp R s) (d q a t kd:Int) (b:Nat) (pl r i:Int) (hbs:b<s.sp.length) (hbr:b<s.rg.length) (k:Nat) (hix:s.idx i=some k) (hk:k<R.length) (init:List F0) (lg:F0) (lU:(s.rat k).legs=init ++ [lg]) (fo:Nat) (hfo:lg.b=(fo:Int)) (hfs:fo<s.sp.length) (hfr:fo<s.rg.length) (hll:init.length≤100000):
 Calls Tryz.prog 77 #[.pointer (some ⟨p,0,none⟩),.agg #[.int .i64 d,.int .i64 q,.int .i64 a,.int .i64 t,.int .i64 kd,.int .i64 (b:Int),.int .i64 pl,.int .i64 r,.int .i64 i],.agg #[.int .i64 a,.int .i64 t]] w (u0 w wB.heap.size p bi gg gs vr vp R (cD s ⟨d,q,a,t,kd,(b:Int),pl,r,i⟩)):=by
 have HP:=A2 (fun(w':World) (vr' vp':Value) (R':List A8) (h1:G7 w' wB.heap.size p bi gg gs vr' vp' R' (cD s ⟨d,q,a,t,kd,(b:Int),pl,r,i⟩)) (h2:B7 (J7 p bi gg gs vr vp R) w w') (h3:∀b,J7 p bi gg gs vr' vp' R' b→J7 p bi gg gs vr vp R b∨w.heap.size≤b)=>show u0 w wB.heap.size p bi gg gs vr vp R (cD s ⟨d,q,a,t,kd,(b:Int),pl,r,i⟩) (.returned (.tuple #[])) w' from⟨rfl,vr',vp',R',h1,h2,h3⟩);generalize u0 w wB.heap.size p bi gg gs vr vp R (cD s ⟨d,q,a,t,kd,(b:Int),pl,r,i⟩)=PO at *;obtain⟨r0,hr0⟩:∃r,R[k]? =some r:=⟨_,A3 hk⟩
 obtain⟨gr,cr,rfl,_,_⟩:=dJ h.rr (by omega);have hpq:r0.legs=init ++ [lg]:=by rw[←lU,kY h.br hr0];rfl
 obtain⟨gl,hga,hgc,_⟩:=(h.rm r0 (A0 hr0)).leg_at (by rw[hpq];simp);have Hh:=A2 h;have Hh0:=A2 h;have HX:=A2 hX;have Hbs:=A2 hbs;have Hbr:=A2 hbr;have Hr0:=A2 hr0;have Hpq:=A2 hpq;have Hga:=A2 hga;have Hix:=A2 hix;have Hfo:=A2 hfo;have Hfs:=A2 hfs;have Hfr:=A2 hfr;have sW:=A2 lU;have hb0:(0:Int)≤(b:Int):=by omega
 have hbl:(b:Int)<(s.sp.length:Int):=by omega
 have zB:(b:Int)<(s.rg.length:Int):=by omega
 have hf0:(0:Int)≤(fo:Int):=by omega
 have hfl:(fo:Int)<(s.sp.length:Int):=by omega
 have BJ2:(fo:Int)<(s.rg.length:Int):=by omega
 have hk0:(0:Int)≤(k:Int):=by omega
 have hkl:(k:Int)<(R.length:Int):=by omega
 obtain⟨x,hx⟩:=A6.refl w;rw[hx];clear hx h hX hbs hbr hr0 hpq hga hgc hix hk lU hfo hfs hfr;go_enter Tryz.func77,Tryz.ntmps77;go_upto_region 1 with fail;obtain⟨W,bx,y0,hW,hbx,-,B8,Hup,Hbx,HB0,HB1⟩:=W5 x ([Value.int .i64 d,.int .i64 q,.int .i64 a,.int .i64 t,.int .i64 kd,.int .i64 (b:Int),.int .i64 pl,.int .i64 r,.int .i64 i]) 63 ([Value.int .i64 a,.int .i64 t]) 36;rw[hW,hbx];clear hW hbx;have hB0:=fun y:A6 W=>HB0.since y;have hB1:=fun y:A6 W=>HB1.since y;clear HB0 HB1;replace Hh:=A2 (Hh.out.to B8);have g1:∀y:A6 W,y.w.cell? ⟨p,1,none⟩=some (.map (some bi)):=fun y=>(Hh.out.st.since y).c 1 _ rfl;have e8:∀y:A6 W,y.w.cell? ⟨bx,8,none⟩=some (.int .i64 i):=fun y=>(hB0 y).c 8 _ rfl;have hlk:∀z:A6 W,(Instr.lookup 100 (.map (some bi)) (.int .i64 i) true).run Tryz.prog z.w= .ok (.tuple #[.int .i64 (k:Int),.bool true]) z.w:=fun z=>by
  have h1:=bD fL (Hh.out.ix.since z) Tryz.underlying100 (Bd9 _) i true;rw[if_pos rfl,(Ao5 Hix.out).1,(Ao5 Hix.out).2]at h1;exact h1
 refine K6 (by kernel_rfl) (by kernel_rfl) ?_;repeat(go_big_quiet_step(fail))
 refine wpQuiet_nil ?_;rintro _ ⟨y1,rfl⟩;clear g1 e8 hlk;have HBe:=A2 (hB0 y1);have HBs:=A2 (hB1 y1);replace Hh:=A2 (Hh.out.to ⟨y1,rfl⟩);have HK:=A2 (show B7 (J7 p bi gg gs (.slice (some ⟨gr,0,none⟩) R.length cr) vp R) w y1.w from by obtain⟨y,e⟩:=Hup.out y1;rw[e];exact B7.of y);have HN1:=A2 (Hh0.out.notS (b:=bx) Hbx.out.1);have HN2:=A2 (Hh0.out.notS (b:=bx+1) (by have:=Hbx.out;omega));clear hB0 hB1 B8 Hup Hbx;generalize bx+1=bw at *;generalize y1.w=w1 at *;obtain⟨M,hM⟩:∃M,init.length=M:=⟨_,rfl⟩
 obtain⟨N,hN⟩:∃N,r0.legs.length=N:=⟨_,rfl⟩
 have hNM:N=M+1:=by rw[←hN,Hpq.out,List.length_append,hM];rfl
 have hNq:r0.legs[M]? =some lg:=by rw[←hM,Hpq.out,List.getElem?_append_right (Nat.le_refl _),Nat.sub_self];rfl
 have hrow:=(Hh.out.rm r0 (A0 Hr0.out)).l;unfold A8.lv at hrow;rw[Hga.out,hN]at hrow;have k0:w1.cell? ⟨p,0,none⟩=some (.slice (some ⟨gr,0,none⟩) R.length cr):=Hh.out.st.c 0 _ rfl;have l7:w1.cell? ⟨gr,k*13+7,none⟩=some (.slice (some ⟨gl,0,none⟩) N r0.lc):=by
  have h1:=(O8 Hh.out.rr (G0 A8.len R k r0 7 (.slice r0.la r0.legs.length r0.lc) Hr0.out rfl)).1 (A6.self w1);rw[Hga.out,hN]at h1;exact h1
 have q3:w1.cell? ⟨gl,M*5+3,none⟩=some (.int .i64 lg.t0):=(O8 hrow (G0 F0.len r0.legs M lg 3 _ hNq rfl)).1 (A6.self w1);have q4:w1.cell? ⟨gl,M*5+4,none⟩=some (.int .i64 lg.t1):=(O8 hrow (G0 F0.len r0.legs M lg 4 _ hNq rfl)).1 (A6.self w1);have f3:w1.frozen? ⟨gl,M*5+3,none⟩=false:=(O8 hrow (G0 F0.len r0.legs M lg 3 _ hNq rfl)).2.1 (A6.self w1);have f4:w1.frozen? ⟨gl,M*5+4,none⟩=false:=(O8 hrow (G0 F0.len r0.legs M lg 4 _ hNq rfl)).2.1 (A6.self w1);have c0:w1.cell? ⟨bw,0,none⟩=some (.int .i64 a):=HBs.out.c 0 _ rfl;have c1:w1.cell? ⟨bw,1,none⟩=some (.int .i64 t):=HBs.out.c 1 _ rfl;obtain⟨hM2,hK2⟩:=Hh.out.endL Hr0.out Hpq.out Hga.out a t;rw[hM]at hM2 hK2;have hN2:(0:Int)≤(M:Int):=by omega
 have hN3:(M:Int)<(N:Int):=by omega
 have hw1:wrap64 ((N:Int)-1)=(M:Int):=by rw[show(N:Int)-1=(M:Int) by omega];exact IntWalk.wrap64_in _ ⟨by omega,by omega⟩
 have HM2:=A2 hM2;have HK2:=A2 hK2;have HNM:=A2 hNM;have HMi:=A2 hM;have HN0:=A2 hN;clear hM hN hNM hNq hrow hM2 hK2;go_upto_region 6 with fail;refine Eq.mp (congrArg (Code.wp _ _ _ _) (show(w1.setCell ⟨gl,M*5+3,none⟩ (.int .i64 a)).setCell ⟨gl,M*5+3+1,none⟩ (.int .i64 t)= _ from rfl)) ?_;have U7:=A2 (HBe.out.keepS HK2.out HN1.out);have eT:=A2 (HBs.out.keepS HK2.out HN2.out);have HK3:=A2 (HK.out.step HK2.out);clear k0 l7 q3 q4 f3 f4 c0 c1 HBe HBs HK HK2 Hh;generalize(w1.setCell ⟨gl,M*5+3,none⟩ (.int .i64 a)).setCell ⟨gl,M*5+3+1,none⟩ (.int .i64 t)=w2 at *;have HX2:=A2 (Hh0.out.since HX.out HK3.out);obtain⟨r1,hr1⟩:∃r1:A8,{r0 with legs:=init ++ [lg.to a t]}=r1:=⟨_,rfl⟩
 rw[hr1]at HM2;have yT:=A2 (show r1.legs=init ++ [lg.to a t]from by rw[←hr1]);have AB0:=A2 (show r1.la=some ⟨gl,0,none⟩from by rw[←hr1];exact Hga.out);have BB2:=A2 (show J2 r1=J2 r0 from by rw[←hr1];exact qZ _ _);have yU:=A2 (show r1.legs.length=N from by
  have h1:=HN0.out;rw[Hpq.out,List.length_append]at h1;rw[yT.out,List.length_append];exact h1)
 have AB1:=A2 (show r1.lc=r0.lc from by rw[←hr1]);have BB3:=A2 (show∀(L:List F0),({r1 with legs:=L}:A8).br={r0.br with legs:=L}from fun L=>by rw[←hr1];rfl);obtain⟨R1,hR1⟩:∃R1,R.set k r1=R1:=⟨_,rfl⟩
 have hl1:R1.length=R.length:=by rw[←hR1,List.length_set]
 have hk1:R1[k]? =some r1:=by rw[←hR1];exact kZ Hr0.out
 have HF2:=A2 (show∀x,J7 p bi gg gs (.slice (some ⟨gr,0,none⟩) R1.length cr) vp R1 x→J7 p bi gg gs (.slice (some ⟨gr,0,none⟩) R.length cr) vp R x from fun x hx=>by
  rw[hl1]at hx;rw[←hR1]at hx;exact hx.set Hr0.out BB2.out)
 rw[hR1,←hl1]at HM2;have Hk1:=A2 hk1;have HR1:=A2 hR1;rw[←hl1]at hkl;have Hl1:=A2 hl1;clear hr1 hR1 hl1 hk1;have HN1':=A2 (fun hc=>HN1.out (HF2.out bx hc));have HN2':=A2 (fun hc=>HN2.out (HF2.out bw hc));have hrow:=(HM2.out.rm r1 (A0 Hk1.out)).l;unfold A8.lv at hrow;rw[AB0.out,yU.out,AB1.out]at hrow;have hq1:r1.legs[M]? =some (lg.to a t):=by rw[yT.out,←HMi.out,List.getElem?_append_right (Nat.le_refl _),Nat.sub_self];rfl
 have l0:w2.cell? ⟨gl,M*5,none⟩=some (.int .i64 (fo:Int)):=by
  have h1:=(O8 hrow (G0 F0.len r1.legs M (lg.to a t) 0 (.int .i64 lg.b) hq1 rfl)).1 (A6.self w2);rw[Hfo.out]at h1;exact h1
 have Y9:=A2 hrow;clear hq1 hrow;go_upto_region 7 with fail;clear l0 hw1;obtain⟨s1,hs1⟩:∃s1:C7,{s with rs:=s.rs.set k r1.br}=s1:=⟨_,rfl⟩
 rw[hs1]at HM2;have Hs1:=A2 hs1;clear hs1;have HSf:=A2 (fun(w':World) (h1:C3 w' p [.slice (some ⟨gr,0,none⟩) R1.length cr,.map (some bi),.slice (some ⟨gg,0,none⟩) s1.rg.length s1.rg.length,vp,.slice (some ⟨gs,0,none⟩) s1.sp.length s1.sp.length]) (h2:C3 w' bx [.int .i64 d,.int .i64 q,.int .i64 a,.int .i64 t,.int .i64 kd,.int .i64 (b:Int),.int .i64 pl,.int .i64 r,.int .i64 i]) (h3:C3 w' bw [.int .i64 a,.int .i64 t])=>
  show w'.cell? ⟨p,0,none⟩=some (.slice (some ⟨gr,0,none⟩) R1.length cr)∧w'.cell? ⟨bx,5,none⟩=some (.int .i64 (b:Int))∧w'.cell? ⟨bw,0,none⟩=some (.int .i64 a)∧w'.cell? ⟨bw,1,none⟩=some (.int .i64 t)from⟨h1.c 0 _ rfl,h2.c 5 _ rfl,h3.c 0 _ rfl,h3.c 1 _ rfl⟩)
 have dD:=A2 (fun(w':World) (hw:A7 w2 w')=>HSf.out w' (HM2.out.st.to hw) (U7.out.to hw) (eT.out.to hw));refine R0 (fun w'=>w'.cell? ⟨p,0,none⟩=some (.slice (some ⟨gr,0,none⟩) R1.length cr)∧w'.cell? ⟨bx,5,none⟩=some (.int .i64 (b:Int))∧w'.cell? ⟨bw,0,none⟩=some (.int .i64 a)∧w'.cell? ⟨bw,1,none⟩=some (.int .i64 t)) 14 (by kernel_rfl) (dD.out _ (A7.drew' (A7.self _))) (fun hS=>?_);refine tk 0 ?_ rfl (by kernel_rfl) hS (fun _ _ _ h=>h) ?_ ?_;rotate_left
 ·(intro w h;(try dsimp only at h);go_split_ands;go_simp;try with_reducible rfl)
 (try simp only[Act.put,B0])
 refine tk 1 ?_ rfl (by kernel_rfl) hS (fun _ _ _ h=>h) ?_ ?_;rotate_left
 ·(intro w h;(try dsimp only at h);go_split_ands;go_simp;try with_reducible rfl)
 (try simp only[Act.put,B0])
 refine tk 2 ?_ rfl (by kernel_rfl) hS (fun _ _ _ h=>h) ?_ ?_;rotate_left
 ·(intro w h;(try dsimp only at h);go_split_ands;go_simp;try with_reducible rfl)
 (try simp only[Act.put,B0])
 refine tk 3 ?_ rfl (by kernel_rfl) hS (fun _ _ _ h=>h) ?_ ?_;rotate_left
 ·(intro w h;(try dsimp only at h);go_split_ands;go_simp;try with_reducible rfl)
 (try simp only[Act.put,B0])
 refine tk 4 ?_ rfl (by kernel_rfl) hS (fun _ _ _ h=>h) ?_ ?_;rotate_left
 ·(intro w h;(try dsimp only at h);go_split_ands;go_simp;try with_reducible rfl)
 (try simp only[Act.put,B0])
 refine tk 5 ?_ rfl (by kernel_rfl) hS (fun _ _ _ h=>h) ?_ ?_;rotate_left
 ·(intro w h;(try dsimp only at h);go_split_ands;go_simp;try with_reducible rfl)
 (try simp only[Act.put,B0])
 refine tk 6 ?_ rfl (by kernel_rfl) hS (fun _ _ _ h=>h) ?_ ?_;rotate_left
 ·(intro w h;(try dsimp only at h);go_split_ands;go_simp;try with_reducible rfl)
 (try simp only[Act.put,B0])
 refine tk 7 ?_ rfl (by kernel_rfl) hS (fun _ _ _ h=>h) ?_ ?_;rotate_left
 ·(intro w h;(try dsimp only at h);go_split_ands;go_simp;try with_reducible rfl)
 (try simp only[Act.put,B0])
 refine tk 8 ?_ rfl (by kernel_rfl) hS (fun _ _ _ h=>h) ?_ ?_;rotate_left
 ·(intro w h;(try dsimp only at h);go_split_ands;go_simp;try with_reducible rfl)
 (try simp only[Act.put,B0])
 refine tk 9 ?_ rfl (by kernel_rfl) hS (fun _ _ _ h=>h) ?_ ?_;rotate_left
 ·(intro w h;(try dsimp only at h);go_split_ands;go_simp;try with_reducible rfl)
 (try simp only[Act.put,B0])
 refine G6 10 (by kernel_rfl) rfl fun K hK=>?_;go_simp;refine E6 hK (dD.out _ (A7.drew' (A7.alloc (A7.self _) _))) ?_;clear hK K hS;intro hS;(try simp only[Act.put,B0])
 have hYs:A7 w2 ((w2.alloc (.cells (⟨(b:Int),a,t,0,0⟩:F0).cs.toArray 152)).drew):=A7.drew' (A7.alloc (A7.self _) _);have hYw:A7 wB ((w2.alloc (.cells (⟨(b:Int),a,t,0,0⟩:F0).cs.toArray 152)).drew):=by obtain⟨y,e⟩:=HX2.out;exact A7.trans ⟨y,e⟩ hYs
 have hY0:((w2.alloc (.cells (⟨(b:Int),a,t,0,0⟩:F0).cs.toArray 152)).drew).heap[w2.heap.size]? =some (.cells (⟨(b:Int),a,t,0,0⟩:F0).cs.toArray 152):=by
  rw[nF,kW,if_pos rfl]
 have dE:((w2.alloc (.cells (⟨(b:Int),a,t,0,0⟩:F0).cs.toArray 152)).drew).heap.size=w2.heap.size+1:=by
  show(w2.alloc _).heap.size= _;simp
 have hcY:∀j v,(⟨(b:Int),a,t,0,0⟩:F0).cs[j]? =some v→((w2.alloc (.cells (⟨(b:Int),a,t,0,0⟩:F0).cs.toArray 152)).drew).cell? ((⟨w2.heap.size,0,none⟩:Addr).add j)=some v:=fun j v hv=>by
  rw[Addr.add_lit];simp only[World.cell?,hY0,Nat.zero_add];simpa using hv
 have hoY:=I6 Y9.out hYs;have hbY:=hYw.size;have hlv:r1.lv= .slice (some ⟨gl,0,none⟩) N r0.lc:=by unfold A8.lv;rw[AB0.out,yU.out,AB1.out]
 have oT:gl∈J2 r1:=List.mem_append_left _ (by rw[hlv,T7];simp);have hpv:some p≠(Value.slice (some ⟨gl,0,none⟩) N r0.lc).ownBlock:=fun e=>(HM2.out.ap.r k r1 Hk1.out).2 gl oT (by have e2:p=gl:=(by simpa[Value.ownBlock]using e);rw[←e2];simp[D2]);have hne1:some bx≠(Value.slice (some ⟨gl,0,none⟩) N r0.lc).ownBlock:=fun e=>HN1'.out (.inr ⟨r1,A0 Hk1.out,by have e2:bx=gl:=(by simpa[Value.ownBlock]using e);rw[e2];exact oT⟩);have hne2:some bw≠(Value.slice (some ⟨gl,0,none⟩) N r0.lc).ownBlock:=fun e=>HN2'.out (.inr ⟨r1,A0 Hk1.out,by have e2:bw=gl:=(by simpa[Value.ownBlock]using e);rw[e2];exact oT⟩);have HpY:=HM2.out.st.to hYs;have HeY:=U7.out.to hYs;have HsY:=eT.out.to hYs;have hNb:N≤100001:=by have h1:=HNM.out;have h2:=HMi.out;omega
 refine G6 11 (by kernel_rfl) rfl fun K hK=>?_;(refine L6 (w0:=wB) (k:=5) hYw rfl _ _ 37 rfl wB.heap.size (Nat.le_refl _) hbY 152 (.agg #[.int .i64 0,.int .i64 0,.int .i64 0,.int .i64 0,.int .i64 0]) 40 Ao1 (.slice (some ⟨gl,0,none⟩) N r0.lc) N (B6 F0.cs r1.legs) rfl hoY ⟨w2.heap.size,0,none⟩ 1 1 (⟨(b:Int),a,t,0,0⟩:F0).cs rfl rfl hcY (An9 _) (by decide) (by unfold maxLen;omega) (by omega) ?_;intro v2 q2 hown2 hg2 hl2;obtain⟨a2,n2,c2,rfl⟩:=G5 hown2)
 refine E6 hK (HSf.out _ (HpY.grown hg2 hpv) (HeY.grown hg2 hne1) (HsY.grown hg2 hne2)) ?_;clear hK K hS;intro hS;(try simp only[Act.put,B0])
 have hgg:gr≠gl:=fun e=>(HM2.out.ap.r k r1 Hk1.out).2 gl oT (by rw[←e];simp[D2,T7]);have kB:=kC (I6 HM2.out.rr hYs) hg2 (fun x hx e=>hgg (by
  have e1:gr=x:=by simpa[Value.ownBlock]using hx
  have e2:x=gl:=by simpa[Value.ownBlock]using e
  rw[e1,e2]))
 have k7:=(O8 kB (G0 A8.len R1 k r1 7 (.slice r1.la r1.legs.length r1.lc) Hk1.out rfl)).1 (A6.self q2.w);have kf7:=(O8 kB (G0 A8.len R1 k r1 7 (.slice r1.la r1.legs.length r1.lc) Hk1.out rfl)).2.1 (A6.self q2.w);rw[show(A6.self q2.w).w=q2.w from rfl]at k7 kf7;refine tk 12 ?_ rfl (by kernel_rfl) hS (fun _ _ _ h=>h) ?_ ?_;rotate_left
 ·(intro w h;(try dsimp only at h);go_split_ands;go_simp;try with_reducible rfl)
 (try simp only[Act.put,B0])
 refine tk 13 ?_ rfl (by kernel_rfl) hS (fun _ _ _ h=>h) ?_ ?_;rotate_left
 ·(intro w h;(try dsimp only at h);go_split_ands;go_simp;try with_reducible rfl)
 (try simp only[Act.put,B0])
 refine G6 14 (by kernel_rfl) rfl fun K hK=>?_;go_simp;refine M0 hK (by kernel_rfl) ?_;clear hK K;(try clear hS)
 (try simp only[Act.put,B0])
 have hn2:n2=N+1:=by
  obtain⟨_,⟨e2,e3⟩|⟨_,_,_,e2,_⟩⟩:=hown2
  ·omega
  ·simp only[Value.slice.injEq]at e2;exact e2.2.1
 subst hn2;have hLn:N+1=(r1.legs ++ [(⟨(b:Int),a,t,0,0⟩:F0)]).length:=by rw[List.length_append,yU.out];rfl
 obtain⟨hM3,hK3,hF3⟩:=HM2.out.newLegs (w':=q2.w) (L:=r1.legs ++ [(⟨(b:Int),a,t,0,0⟩:F0)]) (a2:=a2) (n2:=N+1) (c2:=c2) Hk1.out hLn ((B7.to (B7.refl _ w2) hYs).step ⟨hg2.os,hg2.tape,hg2.output,hg2.size,fun j hj hn=>hg2.block j hj (fun e=>hn (by rw[hlv,N3];exact e.symm))⟩) (by rw[X7,X8];exact hown2) (fun x hx=>by
  rcases hl2 x (N3.1 hx)with h'|h'
  ·left;rw[hlv,N3];exact h'
  ·right;have h'':x=w2.heap.size+1:=h'.trans dE;omega)
 clear k7 kf7;go_upto_region 8 with fail;have x9:=A2 (U7.out.keepS hK3 HN1'.out);have hsz2:w.heap.size≤w2.heap.size:=HK3.out.size;have HKt:=A2 (HK3.out.trans hK3 (fun x hx=>.inl (HF2.out x hx)));have HFt:=A2 (show∀x,J7 p bi gg gs (.slice (some ⟨gr,0,none⟩) R1.length cr) vp (R1.set k {r1 with legs:=r1.legs ++ [(⟨(b:Int),a,t,0,0⟩:F0)],la:=a2,lc:=c2}) x→J7 p bi gg gs (.slice (some ⟨gr,0,none⟩) R.length cr) vp R x∨w.heap.size≤x from fun x hx=>by
  rcases hF3 x hx with h'|h'
  ·exact .inl (HF2.out x h')
  ·exact .inr (by omega))
 have HM3:=A2 hM3;clear hM3 hK3 hF3 kB hgg hNb HpY HeY HsY hpv hne1 hne2 oT hlv hbY hoY hcY dE hY0 hYw hYs hl2 hg2 hown2 hLn hsz2 dD HSf;generalize q2.w.setCell ⟨gr,k*13+7,none⟩ (.slice a2 (N+1) c2)=w3 at *;obtain⟨r3,hr3⟩:∃r3:A8,{r1 with legs:=r1.legs ++ [(⟨(b:Int),a,t,0,0⟩:F0)],la:=a2,lc:=c2}=r3:=⟨_,rfl⟩
 rw[hr3]at HM3 HFt;have Hr3:=A2 hr3;clear hr3;obtain⟨s3,hs3⟩:∃s3:C7,{s1 with rs:=s1.rs.set k r3.br}=s3:=⟨_,rfl⟩
 rw[hs3]at HM3;have Hs3:=A2 hs3;have Hrg:=A2 (show s3.rg=s.rg from by rw[←hs3,←Hs1.out]);have Hsp:=A2 (show s3.sp=s.sp from by rw[←hs3,←Hs1.out]);clear hs3;have AC3:fo<s3.rg.length:=by rw[Hrg.out];exact Hfr.out
 have hp2:w3.cell? ⟨p,2,none⟩=some (.slice (some ⟨gg,0,none⟩) s.rg.length s.rg.length):=by have h1:=HM3.out.st.c 2 _ rfl;rw[Hrg.out]at h1;exact h1
 have e5:w3.cell? ⟨bx,5,none⟩=some (.int .i64 (b:Int)):=x9.out.c 5 _ rfl;have d0:w3.cell? ⟨gg,fo,none⟩=some (.int .i64 s3.rg[fo]):=HM3.out.rg.c fo _ (by rw[List.getElem?_map,A3 AC3];rfl);have df:∀o,w3.frozen? ⟨gg,o,none⟩=false:=fun o=>HM3.out.rg.f o;have hst3:A7 w3 w3.drew:=A7.drew' (A7.self _);obtain⟨hM4,hK4⟩:=(HM3.out.to hst3).setRg (b:=fo) AC3 (-1);have zA:=(x9.out.to hst3).keepS hK4 (fun e=>HN1.out (.inl (by rw[e];simp[D2])));have AC8:=HKt.out.trans ((B7.to (B7.refl _ w3) hst3).step hK4) (fun g e=>.inl (.inl (by rw[e];simp[D2])));have HM4:=A2 hM4;have oE:=A2 zA;have yI:=A2 AC8;have hS4:(fun w'=>w'.cell? ⟨p,2,none⟩=some (.slice (some ⟨gg,0,none⟩) s.rg.length s.rg.length)∧w'.cell? ⟨bx,5,none⟩=some (.int .i64 (b:Int))) (w3.drew.setCell ⟨gg,fo,none⟩ (.int .i64 (-1))):=⟨by have h1:=hM4.st.c 2 _ rfl;rw[show({s3 with rg:=s3.rg.set fo (-1)}:C7).rg.length=s.rg.length from by simp[Hrg.out]]at h1;exact h1,zA.c 5 _ rfl⟩
 clear hM4 hK4 zA AC8 hst3;refine R0 (fun w'=>w'.cell? ⟨p,2,none⟩=some (.slice (some ⟨gg,0,none⟩) s.rg.length s.rg.length)∧w'.cell? ⟨bx,5,none⟩=some (.int .i64 (b:Int))) 15 (by kernel_rfl) ⟨hp2,e5⟩ (fun hS=>?_);refine tk 0 ?_ rfl (by kernel_rfl) hS (fun _ _ _ h=>h) ?_ ?_;rotate_left
 ·(intro w h;(try dsimp only at h);go_split_ands;go_simp;try with_reducible rfl)
 (try simp only[Act.put,B0])
 refine tk 1 ?_ rfl (by kernel_rfl) hS (fun _ _ _ h=>h) ?_ ?_;rotate_left
 ·(intro w h;(try dsimp only at h);go_split_ands;go_simp;try with_reducible rfl)
 (try simp only[Act.put,B0])
 refine tk 2 ?_ rfl (by kernel_rfl) hS (fun _ _ _ h=>h) ?_ ?_;rotate_left
 ·(intro w h;(try dsimp only at h);go_split_ands;go_simp;try with_reducible rfl)
 (try simp only[Act.put,B0])
 refine tk 3 ?_ rfl (by kernel_rfl) hS (fun _ _ _ h=>h) ?_ ?_;rotate_left
 ·(intro w h;(try dsimp only at h);go_split_ands;go_simp;try with_reducible rfl)
 (try simp only[Act.put,B0])
 refine tk 4 ?_ rfl (by kernel_rfl) hS (fun _ _ _ h=>h) ?_ ?_;rotate_left
 ·(intro w h;(try dsimp only at h);go_split_ands;go_simp;try with_reducible rfl)
 (try simp only[Act.put,B0])
 refine tk 5 ?_ rfl (by kernel_rfl) hS (fun _ _ _ h=>h) ?_ ?_;rotate_left
 ·(intro w h;(try dsimp only at h);go_split_ands;go_simp;try with_reducible rfl)
 (try simp only[Act.put,B0])
 refine tk 6 ?_ rfl (by kernel_rfl) hS (fun _ _ _ h=>h) ?_ ?_;rotate_left
 ·(intro w h;(try dsimp only at h);go_split_ands;go_simp;try with_reducible rfl)
 (try simp only[Act.put,B0])
 refine tk 7 ?_ rfl (by kernel_rfl) hS (fun _ _ _ h=>h) ?_ ?_;rotate_left
 ·(intro w h;(try dsimp only at h);go_split_ands;go_simp;try with_reducible rfl)
 (try simp only[Act.put,B0])
 refine tk 8 ?_ rfl (by kernel_rfl) hS (fun _ _ _ h=>h) ?_ ?_;rotate_left
 ·(intro w h;(try dsimp only at h);go_split_ands;go_simp;try with_reducible rfl)
 (try simp only[Act.put,B0])
 refine tk 9 ?_ rfl (by kernel_rfl) hS (fun _ _ _ h=>h) ?_ ?_;rotate_left
 ·(intro w h;(try dsimp only at h);go_split_ands;go_simp;try with_reducible rfl)
 (try simp only[Act.put,B0])
 refine tk 10 ?_ rfl (by kernel_rfl) hS (fun _ _ _ h=>h) ?_ ?_;rotate_left
 ·(intro w h;(try dsimp only at h);go_split_ands;go_simp;try with_reducible rfl)
 (try simp only[Act.put,B0])
 refine tk 11 ?_ rfl (by kernel_rfl) hS (fun _ _ _ h=>h) ?_ ?_;rotate_left
 ·(intro w h;(try dsimp only at h);go_split_ands;go_simp;try with_reducible rfl)
 (try simp only[Act.put,B0])
 refine tk 12 ?_ rfl (by kernel_rfl) hS (fun _ _ _ h=>h) ?_ ?_;rotate_left
 ·(intro w h;(try dsimp only at h);go_split_ands;go_simp;try with_reducible rfl)
 (try simp only[Act.put,B0])
 refine G6 13 (by kernel_rfl) rfl fun K hK=>?_;go_simp;refine E6 hK (hS4) ?_;clear hK K hS;intro hS;(try simp only[Act.put,B0])
 clear hp2 e5 d0 df hS;have hS:=hS4;rw[show w3.drew.setCell ⟨gg,fo,none⟩ (.int .i64 (-1))=(w3.setCell ⟨gg,fo,none⟩ (.int .i64 (-1))).drew from rfl]at HM4 oE yI hS;clear hS4 HM3 x9 HKt;generalize(w3.setCell ⟨gg,fo,none⟩ (.int .i64 (-1))).drew=w4 at *;have hb4:b<(s3.rg.set fo (-1)).length:=by rw[List.length_set,Hrg.out];exact Hbr.out
 have d1:w4.cell? ⟨gg,b,none⟩=some (.int .i64 (s3.rg.set fo (-1))[b]):=HM4.out.rg.c b _ (by rw[List.getElem?_map,A3 hb4];rfl);have df1:∀o,w4.frozen? ⟨gg,o,none⟩=false:=fun o=>HM4.out.rg.f o;obtain⟨hM5,hK5⟩:=HM4.out.setRg (b:=b) hb4 (k:Int);have Bw7:=A2 (oE.out.keepS hK5 (fun e=>HN1.out (.inl (by rw[e];simp[D2]))));have Bx0:=A2 (yI.out.trans hK5 (fun g e=>.inl (.inl (by rw[e];simp[D2]))));have HM5:=A2 hM5;clear hM5 hK5;refine tk 14 ?_ rfl (by kernel_rfl) hS (fun _ _ _ h=>h) ?_ ?_;rotate_left
 ·(intro w h;(try dsimp only at h);go_split_ands;go_simp;try with_reducible rfl)
 (try simp only[Act.put,B0])
 refine G6 15 (by kernel_rfl) rfl fun K hK=>?_;go_simp;refine M0 hK (by kernel_rfl) ?_;clear hK K;(try clear hS)
 (try simp only[Act.put,B0])
 clear d1 df1 HM4 oE yI;go_upto_region 9 with fail;generalize w4.setCell ⟨gg,b,none⟩ (.int .i64 (k:Int))=w5 at *;obtain⟨s5,hs5⟩:∃s5:C7,{s3 with rg:=(s3.rg.set fo (-1)).set b (k:Int)}=s5:=⟨_,rfl⟩
 have HM6:=A2 (show G7 w5 wB.heap.size p bi gg gs (.slice (some ⟨gr,0,none⟩) R1.length cr) vp (R1.set k r3) s5 from hs5 ▸ HM5.out);have Hs5:=A2 hs5;have tB:=A2 (show s5.sp=s.sp from by rw[←hs5];exact Hsp.out);clear hs5 HM5;obtain⟨u,hu⟩:∃u,s.sp[b]? =some u:=⟨_,A3 Hbs.out⟩
 obtain⟨v,hv⟩:∃v,s.sp[fo]? =some v:=⟨_,A3 Hfs.out⟩
 have hu5:s5.sp[b]? =some u:=by rw[tB.out];exact hu
 have hv5:s5.sp[fo]? =some v:=by rw[tB.out];exact hv
 have g4:∀w',A7 w5 w'→w'.cell? ⟨p,4,none⟩=some (.slice (some ⟨gs,0,none⟩) s.sp.length s.sp.length):=fun w' h=>by have h1:=(HM6.out.st.to h).c 4 _ rfl;rw[tB.out]at h1;exact h1
 have e5:∀w',A7 w5 w'→w'.cell? ⟨bx,5,none⟩=some (.int .i64 (b:Int)):=fun w' h=>(Bw7.out.to h).c 5 _ rfl;have m0:∀w',A7 w5 w'→w'.cell? ⟨gs,b*4,none⟩=some (.int .i64 u.w):=fun w' h=>(HM6.out.sp.to h).c _ _ (G0 D3.len s5.sp b u 0 _ hu5 rfl);have m1:∀w',A7 w5 w'→w'.cell? ⟨gs,b*4+1,none⟩=some (.int .i64 u.p):=fun w' h=>(HM6.out.sp.to h).c _ _ (G0 D3.len s5.sp b u 1 _ hu5 rfl);have m2:∀w',A7 w5 w'→w'.cell? ⟨gs,b*4+2,none⟩=some (.int .i64 u.r):=fun w' h=>(HM6.out.sp.to h).c _ _ (G0 D3.len s5.sp b u 2 _ hu5 rfl);have m3:∀w',A7 w5 w'→w'.cell? ⟨gs,b*4+3,none⟩=some (.bool u.z):=fun w' h=>(HM6.out.sp.to h).c _ _ (G0 D3.len s5.sp b u 3 _ hu5 rfl);have q0:w5.cell? ⟨gs,fo*4,none⟩=some (.int .i64 v.w):=HM6.out.sp.c _ _ (G0 D3.len s5.sp fo v 0 _ hv5 rfl);have q1:w5.cell? ⟨gs,fo*4+1,none⟩=some (.int .i64 v.p):=HM6.out.sp.c _ _ (G0 D3.len s5.sp fo v 1 _ hv5 rfl);have q2:w5.cell? ⟨gs,fo*4+2,none⟩=some (.int .i64 v.r):=HM6.out.sp.c _ _ (G0 D3.len s5.sp fo v 2 _ hv5 rfl);have q3:w5.cell? ⟨gs,fo*4+3,none⟩=some (.bool v.z):=HM6.out.sp.c _ _ (G0 D3.len s5.sp fo v 3 _ hv5 rfl);have qf:∀o,w5.frozen? ⟨gs,o,none⟩=false:=fun o=>HM6.out.sp.f o;have Hu:=A2 hu;clear hu hv hu5 hv5;refine R0 (fun w'=>A7 w5 w') 14 (by kernel_rfl) (A7.drew' (A7.self _)) (fun hS=>?_);refine tk 0 ?_ rfl (by kernel_rfl) hS (fun _ _ _ h=>h) ?_ ?_;rotate_left
 ·(intro w h;(try dsimp only at h);go_split_ands;go_simp;try with_reducible rfl)
 (try simp only[Act.put,B0])
 refine tk 1 ?_ rfl (by kernel_rfl) hS (fun _ _ _ h=>h) ?_ ?_;rotate_left
 ·(intro w h;(try dsimp only at h);go_split_ands;go_simp;try with_reducible rfl)
 (try simp only[Act.put,B0])
 refine tk 2 ?_ rfl (by kernel_rfl) hS (fun _ _ _ h=>h) ?_ ?_;rotate_left
 ·(intro w h;(try dsimp only at h);go_split_ands;go_simp;try with_reducible rfl)
 (try simp only[Act.put,B0])
 refine tk 3 ?_ rfl (by kernel_rfl) hS (fun _ _ _ h=>h) ?_ ?_;rotate_left
 ·(intro w h;(try dsimp only at h);go_split_ands;go_simp;try with_reducible rfl)
 (try simp only[Act.put,B0])
 refine tk 4 ?_ rfl (by kernel_rfl) hS (fun _ _ _ h=>h) ?_ ?_;rotate_left
 ·(intro w h;(try dsimp only at h);go_split_ands;go_simp;try with_reducible rfl)
 (try simp only[Act.put,B0])
 refine tk 5 ?_ rfl (by kernel_rfl) hS (fun _ _ _ h=>h) ?_ ?_;rotate_left
 ·(intro w h;(try dsimp only at h);go_split_ands;go_simp;try with_reducible rfl)
 (try simp only[Act.put,B0])
 refine tk 6 ?_ rfl (by kernel_rfl) hS (fun _ _ _ h=>h) ?_ ?_;rotate_left
 ·(intro w h;(try dsimp only at h);go_split_ands;go_simp;try with_reducible rfl)
 (try simp only[Act.put,B0])
 refine tk 7 ?_ rfl (by kernel_rfl) hS (fun _ _ _ h=>h) ?_ ?_;rotate_left
 ·(intro w h;(try dsimp only at h);go_split_ands;go_simp;try with_reducible rfl)
 (try simp only[Act.put,B0])
 refine tk 8 ?_ rfl (by kernel_rfl) hS (fun _ _ _ h=>h) ?_ ?_;rotate_left
 ·(intro w h;(try dsimp only at h);go_split_ands;go_simp;try with_reducible rfl)
 (try simp only[Act.put,B0])
 refine tk 9 ?_ rfl (by kernel_rfl) hS (fun _ _ _ h=>h) ?_ ?_;rotate_left
 ·(intro w h;(try dsimp only at h);go_split_ands;go_simp;try with_reducible rfl)
 (try simp only[Act.put,B0])
 refine tk 10 ?_ rfl (by kernel_rfl) hS (fun _ _ _ h=>h) ?_ ?_;rotate_left
 ·(intro w h;(try dsimp only at h);go_split_ands;go_simp;try with_reducible rfl)
 (try simp only[Act.put,B0])
 refine tk 11 ?_ rfl (by kernel_rfl) hS (fun _ _ _ h=>h) ?_ ?_;rotate_left
 ·(intro w h;(try dsimp only at h);go_split_ands;go_simp;try with_reducible rfl)
 (try simp only[Act.put,B0])
 refine tk 12 ?_ rfl (by kernel_rfl) hS (fun _ _ _ h=>h) ?_ ?_;rotate_left
 ·(intro w h;(try dsimp only at h);go_split_ands;go_simp;try with_reducible rfl)
 (try simp only[Act.put,B0])
 refine tk 13 ?_ rfl (by kernel_rfl) hS (fun _ _ _ h=>h) ?_ ?_;rotate_left
 ·(intro w h;(try dsimp only at h);go_split_ands;go_simp;try with_reducible rfl)
 (try simp only[Act.put,B0])
 refine G6 14 (by kernel_rfl) rfl fun K hK=>?_;go_simp;refine M0 hK (by kernel_rfl) ?_;clear hK K;(try clear hS)
 (try simp only[Act.put,B0])
 clear g4 e5 m0 m1 m2 m3 q0 q1 q2 q3 qf;have hst:A7 w5 w5.drew:=A7.drew' (A7.self _);obtain⟨hM7,hK7⟩:=(HM6.out.to hst).setSp (b:=fo) (by rw[tB.out];exact Hfs.out) u;have HE:=A2 (show cD s ⟨d,q,a,t,kd,(b:Int),pl,r,i⟩={s5 with sp:=s5.sp.set fo u}from by
  have U8:s.rat k=r0.br:=kY Hh0.out.br Hr0.out;have hget:((s.rat k).legs.getLast?.map (·.b)).getD 0=(fo:Int):=by rw[sW.out];simp[Hfo.out]
  have hu2:s.sp.getD b default=u:=by rw[A5,Hu.out];rfl
  have h3:r3.br={r0.br with legs:=(p9 (init ++ [lg]) fun x=>x.to a t) ++ [(⟨(b:Int),a,t,0,0⟩:F0)]}:=by
   rw[←Hr3.out];show({r1 with legs:=r1.legs ++ [(⟨(b:Int),a,t,0,0⟩:F0)]}:A8).br= _;rw[BB3.out,gQ,yT.out]
  have hl0:r0.br.legs=init ++ [lg]:=Hpq.out;rw[←Hs5.out,←Hs3.out,←Hs1.out];unfold cD;dsimp only;rw[Hix.out];dsimp only;rw[hget,Int.toNat_natCast,Int.toNat_natCast,hu2];unfold C7.setR;rw[U8,List.set_set,h3,←hl0])
 refine M9 (v:=.tuple #[]) (by simp[results,Tryz.results77,go_sem]) rfl ?_;exact HP.out _ _ _ _ (by rw[HE.out];exact hM7) (Bx0.out.trans ((B7.to (B7.refl _ w5) hst).step hK7) (fun g e=>.inl (.inl (by rw[e];simp[D2])))) HFt.out
end
section
open Go.RowKit Go.ChangeMaps
theorem Be1 (wB:World) (w:World) (hX:∃y:A6 wB,w=y.w) (p bi gg gs:Nat) (vr vp:Value) (R:List A8) (s:C7) (h:G7 w wB.heap.size p bi gg gs vr vp R s) (n N:Nat) (hN:N≤100000) (hlr:R.length≤100000) (d q a t kd:Int) (b:Nat) (pl r i:Int) (hF:wR n s N (⟨d,q,a,t,kd,(b:Int),pl,r,i⟩:Ev) b):
 Calls Tryz.prog 31 #[.pointer (some ⟨p,0,none⟩),.agg #[.int .i64 d,.int .i64 q,.int .i64 a,.int .i64 t,.int .i64 kd,.int .i64 (b:Int),.int .i64 pl,.int .i64 r,.int .i64 i]] w (u0 w wB.heap.size p bi gg gs vr vp R (O3 s ⟨d,q,a,t,kd,(b:Int),pl,r,i⟩)):=by
 have HP:=A2 (fun(w':World) (vr' vp':Value) (R':List A8) (h1:G7 w' wB.heap.size p bi gg gs vr' vp' R' (O3 s ⟨d,q,a,t,kd,(b:Int),pl,r,i⟩)) (h2:B7 (J7 p bi gg gs vr vp R) w w') (h3:∀b,J7 p bi gg gs vr' vp' R' b→J7 p bi gg gs vr vp R b∨w.heap.size≤b)=>show u0 w wB.heap.size p bi gg gs vr vp R (O3 s ⟨d,q,a,t,kd,(b:Int),pl,r,i⟩) (.returned (.tuple #[])) w' from⟨rfl,vr',vp',R',h1,h2,h3⟩);generalize u0 w wB.heap.size p bi gg gs vr vp R (O3 s ⟨d,q,a,t,kd,(b:Int),pl,r,i⟩)=PO at *;have hkk:=hF.kk;have hbn:=hF.hbn;have hn1:=hF.n1;have hn2:=hF.n2;have HF:=A2 hF;have Hh:=A2 h;have Hh0:=A2 h;have HX:=A2 hX;have hb0:(0:Int)≤(b:Int):=by omega
 have zB:(b:Int)<(s.rg.length:Int):=by omega
 have Hbs:=A2 (show b<s.sp.length by omega);have Hbr:=A2 (show b<s.rg.length by omega);obtain⟨x,hx⟩:=A6.refl w;rw[hx];clear hx h hX hF hbn hn1 hn2;go_enter Tryz.func31,Tryz.ntmps31;go_upto_region 1 with fail;obtain⟨W,bx,y0,hW,hbx,-,B8,Hup,Hbx,HB0⟩:=J8 x ([Value.int .i64 d,.int .i64 q,.int .i64 a,.int .i64 t,.int .i64 kd,.int .i64 (b:Int),.int .i64 pl,.int .i64 r,.int .i64 i]) 63;rw[hW,hbx];clear hW hbx;have hB0:=fun y:A6 W=>HB0.since y;clear HB0;replace Hh:=A2 (Hh.out.to B8);have HBe:=A2 hB0;have e2:∀y:A6 W,y.w.cell? ⟨bx,2,none⟩=some (.int .i64 a):=fun y=>(hB0 y).c 2 _ rfl;have e3:∀y:A6 W,y.w.cell? ⟨bx,3,none⟩=some (.int .i64 t):=fun y=>(hB0 y).c 3 _ rfl;clear hB0 B8;go_upto_region 2 with fail;clear e2 e3;obtain⟨y1,e2,C5,hsz0,hlt0,HX0⟩:=L9 y0 [.int .i64 a,.int .i64 t] 36;rw[e2];obtain⟨hx0,hx1,hxf⟩:=cQ HX0;skip;clear e2 C5;generalize y0.w.heap.size=gw at *;obtain⟨E9,G1,G8⟩:=o8 HX0;have I5:=A2 (And.intro hsz0 hlt0);clear hlt0 hsz0 HX0;clear hx0 hx1 hxf;replace Hh:=A2 (Hh.out.to ⟨y1,rfl⟩);obtain⟨j,hj⟩:∃j,B2 s.rg b=j:=⟨_,rfl⟩
 have hjc:(s.rg.map (Value.int .i64))[b]? =some (.int .i64 j):=by
  rw[List.getElem?_map,A3 Hbr.out,←hj];unfold B2;rw[A5,A3 Hbr.out];rfl
 have g2:∀y:A6 y1.w,y.w.cell? ⟨p,2,none⟩=some (.slice (some ⟨gg,0,none⟩) s.rg.length s.rg.length):=fun y=>(Hh.out.st.since y).c 2 _ rfl;have gj:∀y:A6 y1.w,y.w.cell? ⟨gg,b,none⟩=some (.int .i64 j):=fun y=>(Hh.out.rg.since y).c b _ hjc;have jS:=A2 (HBe.out y1);have oH:=A2 (show C3 y1.w gw [.int .i64 a,.int .i64 t]from An7 I5.out.2 (E9 (A6.self _)) (G1 (A6.self _)) (fun o=>G8 (A6.self _) o));have e5:∀y:A6 y1.w,y.w.cell? ⟨bx,5,none⟩=some (.int .i64 (b:Int)):=fun y=>(jS.out.since y).c 5 _ rfl;have Hj:=A2 hj;have HK:=A2 (show B7 (J7 p bi gg gs vr vp R) w y1.w from by obtain⟨y,e⟩:=Hup.out y1;rw[e];exact B7.of y);have HN1:=A2 (Hh0.out.notS (b:=bx) Hbx.out.1);have HN2:=A2 (Hh0.out.notS (b:=gw) (by have h1:=Hbx.out;have h2:=I5.out;omega));clear hj hjc E9 G1 G8 I5 Hbx Hup HBe;obtain⟨z0,hq0⟩:=A6.refl y1.w;rw[hq0];clear hq0;refine K6 (by kernel_rfl) (by kernel_rfl) ?_;repeat(go_big_quiet_step(fail))
 refine wpQuiet_nil ?_;rintro _ ⟨z,rfl⟩;clear g2 gj e5;replace Hh:=A2 (Hh.out.to ⟨z,rfl⟩);have U7:=A2 (jS.out.to ⟨z,rfl⟩);have eT:=A2 (oH.out.to ⟨z,rfl⟩);have HK2:=A2 (HK.out.to ⟨z,rfl⟩);have HX2:=A2 (Hh0.out.since HX.out HK2.out);clear jS oH HK;generalize z.w=w2 at *;have hkc:kd=1∨kd=2∨kd=3∨kd=4∨kd=5∨kd=6∨kd=7∨kd=8∨kd=9:=by have h1:1≤kd:=hkk.1;have h2:kd≤9:=hkk.2;omega
 clear hkk;have HPl:=A2 (fun(w':World) (o:Ending) (s':C7) (hs:O3 s ⟨d,q,a,t,kd,(b:Int),pl,r,i⟩=s') (hp:u0 w2 wB.heap.size p bi gg gs vr vp R s' o w')=>show PO o w' from by
  obtain⟨rfl,vr',vp',R',h1,h2,h3⟩:=hp;exact HP.out w' vr' vp' R' (by rw[hs];exact h1) (HK2.out.step h2) (fun x hx=>by
   rcases h3 x hx with h'|h'
   ·exact .inl h'
   ·exact .inr (Nat.le_trans HK2.out.size h')))
 have Hlen:=A2 (show s.rs.length=R.length by rw[←Hh0.out.br,List.length_map]);have c4:w2.cell? ⟨bx,4,none⟩=some (.int .i64 kd):=U7.out.c 4 _ rfl;have c0:w2.cell? ⟨bx,0,none⟩=some (.int .i64 d):=U7.out.c 0 _ rfl;have c1:w2.cell? ⟨bx,1,none⟩=some (.int .i64 q):=U7.out.c 1 _ rfl;have c2:w2.cell? ⟨bx,2,none⟩=some (.int .i64 a):=U7.out.c 2 _ rfl;have c3:w2.cell? ⟨bx,3,none⟩=some (.int .i64 t):=U7.out.c 3 _ rfl;have c5:w2.cell? ⟨bx,5,none⟩=some (.int .i64 (b:Int)):=U7.out.c 5 _ rfl;have c6:w2.cell? ⟨bx,6,none⟩=some (.int .i64 pl):=U7.out.c 6 _ rfl;have c7:w2.cell? ⟨bx,7,none⟩=some (.int .i64 r):=U7.out.c 7 _ rfl;have c8:w2.cell? ⟨bx,8,none⟩=some (.int .i64 i):=U7.out.c 8 _ rfl;have v0:w2.cell? ⟨gw,0,none⟩=some (.int .i64 a):=eT.out.c 0 _ rfl;have v1:w2.cell? ⟨gw,1,none⟩=some (.int .i64 t):=eT.out.c 1 _ rfl;rcases hkc with rfl|rfl|rfl|rfl|rfl|rfl|rfl|rfl|rfl
 ·have hL:=wW w2 wB.heap.size p bi gg gs vr vp R s Hh.out b Hbs.out Hbr.out (by rw[HF.out.n3,Hlen.out]) (by have h1:=HF.out.k0;rw[Hlen.out]at h1;exact h1) (fun h=>(HF.out.k1 h).1) ⟨1,pl,0,false⟩ a t
  go_wp2_with(go_at_call 79;(with_reducible refine hL.mono ?_);clear hL;intro o w3 hp;have hr:=HPl.out w3 o _ rfl hp;have ho:=hp.1;subst ho);refine M9 (v:=.tuple #[]) (by simp[results,Tryz.results31,go_sem]) rfl ?_;exact hr
 ·have hL:=wW w2 wB.heap.size p bi gg gs vr vp R s Hh.out b Hbs.out Hbr.out (by rw[HF.out.n3,Hlen.out]) (by have h1:=HF.out.k0;rw[Hlen.out]at h1;exact h1) (fun h=>(HF.out.k1 h).1) ⟨2,pl,0,false⟩ a t
  go_wp2_with(go_at_call 79;(with_reducible refine hL.mono ?_);clear hL;intro o w3 hp;have hr:=HPl.out w3 o _ rfl hp;have ho:=hp.1;subst ho);refine M9 (v:=.tuple #[]) (by simp[results,Tryz.results31,go_sem]) rfl ?_;exact hr
 ·have hnew:=HF.out.s3 rfl
  have hL:=Bd4 wB w2 HX2.out p bi gg gs vr vp R s Hh.out d q a t 3 b pl r i Hbs.out Hbr.out (by rw[HF.out.n3,Hlen.out]) hnew hlr;go_wp2_with(go_at_call 76;(with_reducible refine hL.mono ?_);clear hL;intro o w3 hp;have hr:=HPl.out w3 o _ rfl hp;have ho:=hp.1;subst ho);refine M9 (v:=.tuple #[]) (by simp[results,Tryz.results31,go_sem]) rfl ?_;exact hr
 ·obtain⟨k,init,lg,fo,h1,h2,h3,h4,h5,h6⟩:=HF.out.s4 rfl
  have hL:=Be0 wB w2 HX2.out p bi gg gs vr vp R s Hh.out d q a t 4 b pl r i Hbs.out Hbr.out k h1 (by rw[←Hlen.out];exact h2) init lg h3 fo h4 (by rw[HF.out.n2];exact h5) (by rw[HF.out.n1];exact h5) (by omega);go_wp2_with(go_at_call 77;(with_reducible refine hL.mono ?_);clear hL;intro o w3 hp;have hr:=HPl.out w3 o _ rfl hp;have ho:=hp.1;subst ho);refine M9 (v:=.tuple #[]) (by simp[results,Tryz.results31,go_sem]) rfl ?_;exact hr
 ·by_cases hneg:j<0
  ·have hr:=HPl.out w2 (.returned (.tuple #[])) s (by show(if B2 s.rg (b:Int).toNat<0 then s else _)=s;rw[Int.toNat_natCast,Hj.out,if_pos hneg]) ⟨rfl,vr,vp,R,Hh.out,B7.refl _ _,fun x hx=>.inl hx⟩
   go_wp2_with fail;refine M9 (v:=.tuple #[]) (by simp[results,Tryz.results31,go_sem]) rfl ?_;exact hr
  ·obtain⟨k,rfl⟩:∃k:Nat,j=(k:Int):=⟨j.toNat,by omega⟩
   have hkR:k<R.length:=by have h1:=HF.out.k0;rw[Hj.out,Hlen.out]at h1;omega
   obtain⟨r1,hr1⟩:∃r,R[k]? =some r:=⟨_,A3 hkR⟩
   obtain⟨gr,cr,rfl,_,_⟩:=dJ Hh.out.rr (by omega);have hpl:r1.pauses.length≤N:=by
    have h1:=(HF.out.k1 (by rw[Hj.out];omega)).2;rw[Hj.out,Int.toNat_natCast,kY Hh0.out.br hr1]at h1;exact h1
   have Hr1:=A2 hr1;have hk0:(0:Int)≤(k:Int):=by omega
   have hkl:(k:Int)<(R.length:Int):=by omega
   have hgr:gr∉J2 r1:=fun hb=>(Hh.out.ap.r k r1 hr1).2 gr hb (by simp[D2,T7]);have hrow:=(Hh.out.rm r1 (A0 hr1)).p;have HkR:=A2 hkR;clear hr1 hkR;go_upto_region 10 with fail;clear c4 c0 c1 c2 c3 c5 c6 c7 c8 v0 v1;have hpv:some p≠r1.pv.ownBlock:=fun e=>(Hh.out.ap.r k r1 Hr1.out).2 p (List.mem_append_right _ (N3.2 e.symm)) (by simp[D2]);have hwv:some gw≠r1.pv.ownBlock:=fun e=>HN2.out (.inr ⟨r1,A0 Hr1.out,List.mem_append_right _ (N3.2 e.symm)⟩);have hgv:some gr≠r1.pv.ownBlock:=fun e=>hgr (List.mem_append_right _ (N3.2 e.symm));have HSf:=A2 (fun(w':World) (h1:C3 w' p [.slice (some ⟨gr,0,none⟩) R.length cr,.map (some bi),.slice (some ⟨gg,0,none⟩) s.rg.length s.rg.length,vp,.slice (some ⟨gs,0,none⟩) s.sp.length s.sp.length]) (h2:w'.ownsRow wB.heap.size 40 13 (.slice (some ⟨gr,0,none⟩) R.length cr) R.length (B6 A8.cs R)) (h3:C3 w' gw [.int .i64 a,.int .i64 t])=>
    show w'.cell? ⟨p,0,none⟩=some (.slice (some ⟨gr,0,none⟩) R.length cr)∧w'.cell? ⟨gr,k*13+8,none⟩=some (.slice r1.pa r1.pauses.length r1.pc)∧w'.cell? ⟨gw,0,none⟩=some (.int .i64 a)∧w'.cell? ⟨gw,1,none⟩=some (.int .i64 t)from⟨h1.c 0 _ rfl,(O8 h2 (G0 A8.len R k r1 8 _ Hr1.out rfl)).1 (A6.self w'),h3.c 0 _ rfl,h3.c 1 _ rfl⟩)
   have dD:=A2 (fun(w':World) (hw:A7 w2 w')=>HSf.out w' (Hh.out.st.to hw) (I6 Hh.out.rr hw) (eT.out.to hw));refine R0 (fun w'=>w'.cell? ⟨p,0,none⟩=some (.slice (some ⟨gr,0,none⟩) R.length cr)∧w'.cell? ⟨gr,k*13+8,none⟩=some (.slice r1.pa r1.pauses.length r1.pc)∧w'.cell? ⟨gw,0,none⟩=some (.int .i64 a)∧w'.cell? ⟨gw,1,none⟩=some (.int .i64 t)) 19 (by kernel_rfl) (dD.out _ (A7.drew' (A7.self _))) (fun hS=>?_);refine tk 0 ?_ rfl (by kernel_rfl) hS (fun _ _ _ h=>h) ?_ ?_;rotate_left
   ·(intro w h;(try dsimp only at h);go_split_ands;go_simp;try with_reducible rfl)
   (try simp only[Act.put,B0])
   refine tk 1 ?_ rfl (by kernel_rfl) hS (fun _ _ _ h=>h) ?_ ?_;rotate_left
   ·(intro w h;(try dsimp only at h);go_split_ands;go_simp;try with_reducible rfl)
   (try simp only[Act.put,B0])
   refine tk 2 ?_ rfl (by kernel_rfl) hS (fun _ _ _ h=>h) ?_ ?_;rotate_left
   ·(intro w h;(try dsimp only at h);go_split_ands;go_simp;try with_reducible rfl)
   (try simp only[Act.put,B0])
   refine tk 3 ?_ rfl (by kernel_rfl) hS (fun _ _ _ h=>h) ?_ ?_;rotate_left
   ·(intro w h;(try dsimp only at h);go_split_ands;go_simp;try with_reducible rfl)
   (try simp only[Act.put,B0])
   refine tk 4 ?_ rfl (by kernel_rfl) hS (fun _ _ _ h=>h) ?_ ?_;rotate_left
   ·(intro w h;(try dsimp only at h);go_split_ands;go_simp;try with_reducible rfl)
   (try simp only[Act.put,B0])
   refine tk 5 ?_ rfl (by kernel_rfl) hS (fun _ _ _ h=>h) ?_ ?_;rotate_left
   ·(intro w h;(try dsimp only at h);go_split_ands;go_simp;try with_reducible rfl)
   (try simp only[Act.put,B0])
   refine tk 6 ?_ rfl (by kernel_rfl) hS (fun _ _ _ h=>h) ?_ ?_;rotate_left
   ·(intro w h;(try dsimp only at h);go_split_ands;go_simp;try with_reducible rfl)
   (try simp only[Act.put,B0])
   refine tk 7 ?_ rfl (by kernel_rfl) hS (fun _ _ _ h=>h) ?_ ?_;rotate_left
   ·(intro w h;(try dsimp only at h);go_split_ands;go_simp;try with_reducible rfl)
   (try simp only[Act.put,B0])
   refine tk 8 ?_ rfl (by kernel_rfl) hS (fun _ _ _ h=>h) ?_ ?_;rotate_left
   ·(intro w h;(try dsimp only at h);go_split_ands;go_simp;try with_reducible rfl)
   (try simp only[Act.put,B0])
   refine tk 9 ?_ rfl (by kernel_rfl) hS (fun _ _ _ h=>h) ?_ ?_;rotate_left
   ·(intro w h;(try dsimp only at h);go_split_ands;go_simp;try with_reducible rfl)
   (try simp only[Act.put,B0])
   refine tk 10 ?_ rfl (by kernel_rfl) hS (fun _ _ _ h=>h) ?_ ?_;rotate_left
   ·(intro w h;(try dsimp only at h);go_split_ands;go_simp;try with_reducible rfl)
   (try simp only[Act.put,B0])
   refine tk 11 ?_ rfl (by kernel_rfl) hS (fun _ _ _ h=>h) ?_ ?_;rotate_left
   ·(intro w h;(try dsimp only at h);go_split_ands;go_simp;try with_reducible rfl)
   (try simp only[Act.put,B0])
   refine tk 12 ?_ rfl (by kernel_rfl) hS (fun _ _ _ h=>h) ?_ ?_;rotate_left
   ·(intro w h;(try dsimp only at h);go_split_ands;go_simp;try with_reducible rfl)
   (try simp only[Act.put,B0])
   refine tk 13 ?_ rfl (by kernel_rfl) hS (fun _ _ _ h=>h) ?_ ?_;rotate_left
   ·(intro w h;(try dsimp only at h);go_split_ands;go_simp;try with_reducible rfl)
   (try simp only[Act.put,B0])
   refine tk 14 ?_ rfl (by kernel_rfl) hS (fun _ _ _ h=>h) ?_ ?_;rotate_left
   ·(intro w h;(try dsimp only at h);go_split_ands;go_simp;try with_reducible rfl)
   (try simp only[Act.put,B0])
   refine G6 15 (by kernel_rfl) rfl fun K hK=>?_;go_simp;refine E6 hK (dD.out _ (A7.drew' (A7.alloc (A7.self _) _))) ?_;clear hK K hS;intro hS;(try simp only[Act.put,B0])
   have hYs:A7 w2 ((w2.alloc (.cells (⟨a,t,0,0⟩:F4).cs.toArray 44)).drew):=A7.drew' (A7.alloc (A7.self _) _);have hYw:A7 wB ((w2.alloc (.cells (⟨a,t,0,0⟩:F4).cs.toArray 44)).drew):=by obtain⟨y,e⟩:=HX2.out;exact A7.trans ⟨y,e⟩ hYs
   have hY0:((w2.alloc (.cells (⟨a,t,0,0⟩:F4).cs.toArray 44)).drew).heap[w2.heap.size]? =some (.cells (⟨a,t,0,0⟩:F4).cs.toArray 44):=by
    rw[nF,kW,if_pos rfl]
   have dE:((w2.alloc (.cells (⟨a,t,0,0⟩:F4).cs.toArray 44)).drew).heap.size=w2.heap.size+1:=by
    show(w2.alloc _).heap.size= _;simp
   have hcY:∀j v,(⟨a,t,0,0⟩:F4).cs[j]? =some v→((w2.alloc (.cells (⟨a,t,0,0⟩:F4).cs.toArray 44)).drew).cell? ((⟨w2.heap.size,0,none⟩:Addr).add j)=some v:=fun j v hv=>by
    rw[Addr.add_lit];simp only[World.cell?,hY0,Nat.zero_add];simpa using hv
   have hoY:=I6 hrow hYs;have hbY:=hYw.size;have HpY:=Hh.out.st.to hYs;have HsY:=eT.out.to hYs;have hrY:=I6 Hh.out.rr hYs;have hgv':∀x,(Value.slice (some ⟨gr,0,none⟩) R.length cr).ownBlock=some x→some x≠r1.pv.ownBlock:=fun x hx=>by
    have e1:gr=x:=by simpa[Value.ownBlock]using hx
    rw[←e1];exact hgv
   refine G6 16 (by kernel_rfl) rfl fun K hK=>?_;(refine L6 (w0:=wB) (k:=4) hYw rfl _ _ 38 rfl wB.heap.size (Nat.le_refl _) hbY 44 (.agg #[.int .i64 0,.int .i64 0,.int .i64 0,.int .i64 0]) 32 Ao2 r1.pv r1.pauses.length (B6 F4.cs r1.pauses) rfl hoY ⟨w2.heap.size,0,none⟩ 1 1 (⟨a,t,0,0⟩:F4).cs rfl rfl hcY (Ao0 _) (by decide) (by unfold maxLen;omega) (by omega) ?_;intro v2 q2 hown2 hg2 hl2;obtain⟨a2,n2,c2,rfl⟩:=G5 hown2)
   refine E6 hK (HSf.out _ (HpY.grown hg2 hpv) (kC hrY hg2 hgv') (HsY.grown hg2 hwv)) ?_;clear hK K hS;intro hS;(try simp only[Act.put,B0])
   have kB:=kC hrY hg2 hgv';have k8:=(O8 kB (G0 A8.len R k r1 8 (.slice r1.pa r1.pauses.length r1.pc) Hr1.out rfl)).1 (A6.self q2.w);have kf8:=(O8 kB (G0 A8.len R k r1 8 (.slice r1.pa r1.pauses.length r1.pc) Hr1.out rfl)).2.1 (A6.self q2.w);rw[show(A6.self q2.w).w=q2.w from rfl]at k8 kf8;refine tk 17 ?_ rfl (by kernel_rfl) hS (fun _ _ _ h=>h) ?_ ?_;rotate_left
   ·(intro w h;(try dsimp only at h);go_split_ands;go_simp;try with_reducible rfl)
   (try simp only[Act.put,B0])
   refine tk 18 ?_ rfl (by kernel_rfl) hS (fun _ _ _ h=>h) ?_ ?_;rotate_left
   ·(intro w h;(try dsimp only at h);go_split_ands;go_simp;try with_reducible rfl)
   (try simp only[Act.put,B0])
   refine G6 19 (by kernel_rfl) rfl fun K hK=>?_;go_simp;refine M0 hK (by kernel_rfl) ?_;clear hK K;(try clear hS)
   (try simp only[Act.put,B0])
   have hn2:n2=r1.pauses.length+1:=by
    obtain⟨_,⟨e2,e3⟩|⟨_,_,_,e2,_⟩⟩:=hown2
    ·omega
    ·simp only[Value.slice.injEq]at e2;exact e2.2.1
   subst hn2;have hLn:r1.pauses.length+1=(r1.pauses ++ [(⟨a,t,0,0⟩:F4)]).length:=by rw[List.length_append];rfl
   obtain⟨hM3,hK3,hF3⟩:=Hh.out.newPses (w':=q2.w) (L:=r1.pauses ++ [(⟨a,t,0,0⟩:F4)]) (a2:=a2) (n2:=r1.pauses.length+1) (c2:=c2) Hr1.out hLn ((B7.to (B7.refl _ w2) hYs).step ⟨hg2.os,hg2.tape,hg2.output,hg2.size,fun j hj hn=>hg2.block j hj (fun e=>hn (by rw[N3];exact e.symm))⟩) (by rw[X7,X8];exact hown2) (fun x hx=>by
    rcases hl2 x (N3.1 hx)with h'|h'
    ·left;rw[N3];exact h'
    ·right;have h'':x=w2.heap.size+1:=h'.trans dE;omega)
   have HM3:=A2 hM3;have HK3:=A2 hK3;have HF3:=A2 hF3;clear k8 kf8 hM3 hK3 hF3 kB hl2 hg2 hown2 hLn hYs hYw hY0 dE hcY hoY hbY HpY HsY hrY hgv' hgv hwv hpv dD HSf hrow;go_upto_region 11 with fail;generalize q2.w.setCell ⟨gr,k*13+8,none⟩ (.slice a2 (r1.pauses.length+1) c2)=w3 at *;obtain⟨gp,cp,hvp,_,_⟩:=dJ HM3.out.pz (by show 0<s.pz.length;have h1:=HF.out.n3;have h2:=Hlen.out;have h3:=HkR.out;omega);have hkp:k<s.pz.length:=by have h1:=HF.out.n3;have h2:=Hlen.out;have h3:=HkR.out;omega
   have k3:w3.cell? ⟨p,3,none⟩=some (.slice (some ⟨gp,0,none⟩) s.pz.length cp):=by have h1:=HM3.out.st.c 3 _ rfl;rw[hvp]at h1;exact h1
   have hzc:(s.pz.map Value.bool)[k]? =some (.bool s.pz[k]):=by rw[List.getElem?_map,A3 hkp];rfl
   have zK:w3.ownsRow wB.heap.size 4 1 (.slice (some ⟨gp,0,none⟩) s.pz.length cp) s.pz.length (s.pz.map .bool):=by have h1:=HM3.out.pz;rw[hvp]at h1;exact h1
   have z0:=(O8 zK hzc).1 (A6.self w3);have zf:=(O8 zK hzc).2.1 (A6.self w3);rw[show(A6.self w3).w=w3 from rfl]at z0 zf;obtain⟨hM4,hK4⟩:=HM3.out.setPz hvp (k:=k) hkp true;have HE:=A2 (show O3 s ⟨d,q,a,t,5,(b:Int),pl,r,i⟩={s with rs:=s.rs.set k {r1 with pauses:=r1.pauses ++ [(⟨a,t,0,0⟩:F4)],pa:=a2,pc:=c2}.br,pz:=s.pz.set k true}from by
    show(if B2 s.rg (b:Int).toNat<0 then s else{(s.setR (B2 s.rg (b:Int).toNat).toNat fun r=>{r with pauses:=r.pauses ++ [⟨a,t,0,0⟩]})with pz:=s.pz.set (B2 s.rg (b:Int).toNat).toNat true})= _;rw[Int.toNat_natCast,Hj.out,if_neg hneg,Int.toNat_natCast];unfold C7.setR;rw[kY Hh0.out.br Hr1.out];rfl)
   have hgp:gp∈ob vp:=by rw[hvp,T7];simp
   have hr:=HPl.out _ (.returned (.tuple #[])) _ HE.out ⟨rfl,_,_,_,hM4,HK3.out.trans hK4 (fun x e=>.inl (.inl (by have e2:x=gp:=e;rw[e2];simp[D2,hgp]))),HF3.out⟩;clear hM4 hK4 hzc zK hvp;go_wp2_with fail;refine M9 (v:=.tuple #[]) (by simp[results,Tryz.results31,go_sem]) rfl ?_;exact hr
 ·by_cases hneg:j<0
  ·have hr:=HPl.out w2 (.returned (.tuple #[])) s (by show(if B2 s.rg (b:Int).toNat<0 then s else _)=s;rw[Int.toNat_natCast,Hj.out,if_pos hneg]) ⟨rfl,vr,vp,R,Hh.out,B7.refl _ _,fun x hx=>.inl hx⟩
   go_wp2_with fail;refine M9 (v:=.tuple #[]) (by simp[results,Tryz.results31,go_sem]) rfl ?_;exact hr
  ·obtain⟨k,rfl⟩:∃k:Nat,j=(k:Int):=⟨j.toNat,by omega⟩
   have hL:=Am4 w2 wB.heap.size p bi gg gs vr vp R s Hh.out k (by have h1:=HF.out.k0;rw[Hj.out,Hlen.out]at h1;omega) (by rw[HF.out.n3,Hlen.out]) a t;have HE:=A2 (show O3 s ⟨d,q,a,t,6,(b:Int),pl,r,i⟩=S6 s k a t from by show(if B2 s.rg (b:Int).toNat<0 then s else S6 s (B2 s.rg (b:Int).toNat).toNat a t)= _;rw[Int.toNat_natCast,Hj.out,if_neg hneg,Int.toNat_natCast]);go_wp2_with(go_at_call 78;(with_reducible refine hL.mono ?_);clear hL;intro o w3 hp;have hr:=HPl.out w3 o _ HE.out hp;have ho:=hp.1;subst ho);refine M9 (v:=.tuple #[]) (by simp[results,Tryz.results31,go_sem]) rfl ?_;exact hr
 ·have hr:=HPl.out w2 (.returned (.tuple #[])) s rfl ⟨rfl,vr,vp,R,Hh.out,B7.refl _ _,fun x hx=>.inl hx⟩
  go_wp2_with fail;refine M9 (v:=.tuple #[]) (by simp[results,Tryz.results31,go_sem]) rfl ?_;exact hr
 ·have hr:=HPl.out w2 (.returned (.tuple #[])) s rfl ⟨rfl,vr,vp,R,Hh.out,B7.refl _ _,fun x hx=>.inl hx⟩
  go_wp2_with fail;refine M9 (v:=.tuple #[]) (by simp[results,Tryz.results31,go_sem]) rfl ?_;exact hr
 ·have hL:=wW w2 wB.heap.size p bi gg gs vr vp R s Hh.out b Hbs.out Hbr.out (by rw[HF.out.n3,Hlen.out]) (by have h1:=HF.out.k0;rw[Hlen.out]at h1;exact h1) (fun h=>(HF.out.k1 h).1) ⟨6,0,0,false⟩ a t
  go_wp2_with(go_at_call 79;(with_reducible refine hL.mono ?_);clear hL;intro o w3 hp;have hr:=HPl.out w3 o _ rfl hp;have ho:=hp.1;subst ho);refine M9 (v:=.tuple #[]) (by simp[results,Tryz.results31,go_sem]) rfl ?_;exact hr
end
section
open Go.RowKit Go.ChangeMaps
def jF (w:World) (f:D5) (L:List Ev) (o:Ending) (w':World):Prop:=
 ∃(v:Value) (y:A6 w),o= .returned (.tuple #[v,.int .i64 (H9 f)])∧w'=y.w∧((H9 f≠0∧v= .slice none 0 0)∨(H9 f=0∧∃R:List A8,y.w.ownsRow w.heap.size 40 13 v R.length (B6 A8.cs R)∧(∀r∈R,L4 y.w w.heap.size r)∧R.map A8.br=V3 (P1 f L)))
theorem jG {w:World} {B B':Nat} {e:TypeId} {k:Nat} {v:Value} {n:Nat} {xs:List Value} (h:w.ownsRow B e k v n xs) (hb:B'≤B):w.ownsRow B' e k v n xs:=by
 obtain⟨hl,h|⟨g,cap,cur,rfl,hg,r⟩⟩:=h
 ·exact⟨hl,.inl h⟩
 ·exact⟨hl,.inr ⟨g,cap,cur,rfl,Nat.le_trans hb hg,r⟩⟩
theorem L4.down {w:World} {B B':Nat} {r:A8} (h:L4 w B r) (hb:B'≤B):L4 w B' r:=⟨jG h.l hb,jG h.p hb⟩
theorem Be2:O7 Tryz.prog 22 3 (.int .i64 0) 1 8:=O7.mk' (by kernel_rfl) (by kernel_rfl) rfl (by decide)
theorem xB (w:World) (x:A6 w) (f:D5) (da ta:Option Addr) (dc tc:Nat) (hf:Y6 w f da ta) (a:Option Addr) (l:List Ev) (cl:Nat) (h:D0 Ev.cs 9 w a l) (hl:l.length≤40) (hI:∀e∈l,T4 e.p):
 Calls Tryz.prog 8 #[.agg #[.int .i64 f.bk,.int .i64 f.rd,.int .i64 f.dv,.slice da f.dk.length dc,.slice ta f.tk.length tc],.slice a l.length cl] x.w (jF w f (G9 l)):=by
 have HP:=A2 (fun(v:Value) (y:A6 w) (h:(H9 f≠0∧v= .slice none 0 0)∨(H9 f=0∧∃R:List A8,y.w.ownsRow w.heap.size 40 13 v R.length (B6 A8.cs R)∧(∀r∈R,L4 y.w w.heap.size r)∧R.map A8.br=V3 (P1 f (G9 l))))=>show jF w f (G9 l) (.returned (.tuple #[v,.int .i64 (H9 f)])) y.w from⟨v,y,rfl,rfl,h⟩);generalize jF w f (G9 l)=PO at *;have HC:=A2 (fun(W:World) (hW:∃z:A6 w,W=z.w) (y:A6 W)=>Bd0 W y f da ta dc tc (hf.to hW) a l cl (h.to hW) (by omega) hI);have HL:=A2 (rF l);have HL2:=A2 (show(G9 l).length≤40 from Nat.le_trans (gV l) hl);clear hf h hI hl;generalize G9 l=L at *;go_enter Tryz.func8,Tryz.ntmps8;go_upto_region 1 with fail;obtain⟨W,bx,y0,hW,hbx,-,B8,Hup,Hbx,HB0⟩:=J8 x [.int .i64 f.bk,.int .i64 f.rd,.int .i64 f.dv,.slice da f.dk.length dc,.slice ta f.tk.length tc] 24;rw[hW,hbx];clear hW hbx;obtain⟨D7,D9,E3,E5,F3,hf0⟩:=Z2 HB0;clear HB0;have HC1:=A2 (HC.out W B8 y0);clear B8 HC;by_cases h0:H9 f=0
 ·have HC2:=A2 (HC1.out.mono fun o w' (h:nM W f L o w')=>show∃(v:Value) (y:A6 W),o= .returned (.tuple #[v,.int .i64 0])∧w'=y.w∧y.w.ownsRow W.heap.size 63 9 v (J6 f (M1 f.bk.toNat) L).length (B6 Ev.cs (J6 f (M1 f.bk.toNat) L))from by
   obtain⟨v,y,rfl,rfl,⟨hb,_⟩|⟨_,hb⟩⟩:=h
   ·exact absurd h0 hb
   ·exact⟨v,y,by rw[h0],rfl,hb⟩)
  rw[h0]at HP;have H0:=A2 h0;clear HC1 h0;obtain⟨m,hm,oW⟩:∃m:Nat,f.bk=(m:Int)∧m≤128:=by
   have:=wE H0.out;exact⟨f.bk.toNat,by omega,by omega⟩
  have Hm:=A2 (show f.bk.toNat=m by omega);have HR:=A2 (show P1 f L=((J6 f (M1 m) L).foldl O3 (L3 m)).rs from by rw[←Hm.out];rfl);rw[Hm.out]at HC2;have HT:=A2 (Bb7 (f:=f) (n:=m) HL.out (by have:=HL2.out;omega));have HA:=A2 (Ak6 f L);have HD:=A2 (Ak7 (f:=f) HL.out (by have:=HL2.out;omega));have HAl:=A2 (show(J6 f (M1 m) L).length≤40 from Nat.le_trans (wF f L _).length_le HL2.out);rw[HR.out]at HA HD HP;generalize J6 f (M1 m) L=A at *;rw[hm]at D7 HC2;have Hmf:=A2 Hm.out.symm;clear HL HR hm Hm H0;have AD1:=fun q:World=>AH0 Be2 rfl m (by omega) (by omega) q;have hmk:=fun(w':World)=>Ac8 (enc:=D3.cs) Am1 D3.len ⟨0,0,0,false⟩ rfl m (by omega) (by omega) w';have hmm:=@run_makeMap Tryz.prog;go_upto_region 4 with(go_at_call 30;(with_reducible refine HC2.out.mono ?_);rintro _ _ ⟨v1,y1,rfl,rfl,hown⟩;obtain⟨a1,n1,c1,rfl⟩:=G5 hown;have HO:=A2 hown;clear hown)
  clear HC2;have e0:=fun(w':World) (h:A7 y1.w w')=>A7.cell (W:=W) D7 (A7.trans ⟨y1,rfl⟩ h);have e1:=fun(w':World) (h:A7 y1.w w')=>A7.cell (W:=W) D9 (A7.trans ⟨y1,rfl⟩ h);have e2:=fun(w':World) (h:A7 y1.w w')=>A7.cell (W:=W) E3 (A7.trans ⟨y1,rfl⟩ h);have e3:=fun(w':World) (h:A7 y1.w w')=>A7.cell (W:=W) E5 (A7.trans ⟨y1,rfl⟩ h);have e4:=fun(w':World) (h:A7 y1.w w')=>A7.cell (W:=W) F3 (A7.trans ⟨y1,rfl⟩ h);have HWb:=A2 (Hup.out y1);clear D7 D9 E3 E5 F3 hf0;generalize y1.w=wB at *;go_cut [8] (fun s8 wr=>∃(p bi gg gs:Nat),s8= .pointer (some ⟨p,0,none⟩)∧A7 wB wr∧G7 wr wB.heap.size p bi gg gs (.slice none 0 0) (.slice none 0 0) [] {L3 m with rg:=List.replicate m 0})
  case first=>
   go_region_held3 (fun w'=>A7 wB w') (first|assumption|exact A7.drew' (A7.self _)|exact A7.alloc (by assumption) _|exact A7.drew' (A7.alloc (by assumption) _)) (fail);all_goals
    go_wp2_with fail;go_meet;clear AD1 hmk hmm;first
     |(exact lC (wB.heap.size+1+1+1) (wB.heap.size) (wB.heap.size+1) (wB.heap.size+1+1) (K4 _ _ _ _ _).2.2.2 (K4 _ _ _ _ _).1 (K4 _ _ _ _ _).2.1 (K4 _ _ _ _ _).2.2.1 (A7.drew' (A7.alloc (A7.alloc (A7.alloc (A7.alloc (A7.self _) _) _) _) _)) ⟨by simp<;>omega,by simp;omega⟩)
     |(exact lC (wB.heap.size+1+1+1) (wB.heap.size) (wB.heap.size+1+1) (wB.heap.size+1) (K4 _ _ _ _ _).2.2.2 (K4 _ _ _ _ _).1 (K4 _ _ _ _ _).2.2.1 (K4 _ _ _ _ _).2.1 (A7.drew' (A7.alloc (A7.alloc (A7.alloc (A7.alloc (A7.self _) _) _) _) _)) ⟨by simp<;>omega,by simp;omega⟩)
     |(exact lC (wB.heap.size+1+1+1) (wB.heap.size+1) (wB.heap.size) (wB.heap.size+1+1) (K4 _ _ _ _ _).2.2.2 (K4 _ _ _ _ _).2.1 (K4 _ _ _ _ _).1 (K4 _ _ _ _ _).2.2.1 (A7.drew' (A7.alloc (A7.alloc (A7.alloc (A7.alloc (A7.self _) _) _) _) _)) ⟨by simp<;>omega,by simp;omega⟩)
     |(exact lC (wB.heap.size+1+1+1) (wB.heap.size+1) (wB.heap.size+1+1) (wB.heap.size) (K4 _ _ _ _ _).2.2.2 (K4 _ _ _ _ _).2.1 (K4 _ _ _ _ _).2.2.1 (K4 _ _ _ _ _).1 (A7.drew' (A7.alloc (A7.alloc (A7.alloc (A7.alloc (A7.self _) _) _) _) _)) ⟨by simp<;>omega,by simp;omega⟩)
     |(exact lC (wB.heap.size+1+1+1) (wB.heap.size+1+1) (wB.heap.size) (wB.heap.size+1) (K4 _ _ _ _ _).2.2.2 (K4 _ _ _ _ _).2.2.1 (K4 _ _ _ _ _).1 (K4 _ _ _ _ _).2.1 (A7.drew' (A7.alloc (A7.alloc (A7.alloc (A7.alloc (A7.self _) _) _) _) _)) ⟨by simp<;>omega,by simp;omega⟩)
     |(exact lC (wB.heap.size+1+1+1) (wB.heap.size+1+1) (wB.heap.size+1) (wB.heap.size) (K4 _ _ _ _ _).2.2.2 (K4 _ _ _ _ _).2.2.1 (K4 _ _ _ _ _).2.1 (K4 _ _ _ _ _).1 (A7.drew' (A7.alloc (A7.alloc (A7.alloc (A7.alloc (A7.self _) _) _) _) _)) ⟨by simp<;>omega,by simp;omega⟩)
  case rest=>
   clear AD1 hmk hmm e0 e1 e2 e3 e4;obtain⟨p,bi,gg,gs,rfl,hst,hM⟩:=hcut;have HM:=A2 hM;obtain⟨y1,rfl⟩:=hst;clear hM;have k2:y1.w.cell? ⟨p,2,none⟩=some (.slice (some ⟨gg,0,none⟩) m m):=by have h:=HM.out.st.c 2 _ rfl;simpa using h
   go_wp2_with fail;clear k2;go_loopw [35] (fun s wr=>∃(k:Nat) (y:A6 wB),k≤m∧s= .int .i64 k∧wr=y.w∧G7 y.w wB.heap.size p bi gg gs (.slice none 0 0) (.slice none 0 0) [] {L3 m with rg:=List.replicate k (-1) ++ List.replicate (m-k) 0}) (fun s _ =>m-(intOf s).toNat)
   case atStart=>exact⟨0,y1,by omega,rfl,rfl,by simpa using HM.out⟩
   case round=>
    clear HM;obtain⟨k,y,hk,rfl,rfl,hM⟩:=hrel;have HM:=A2 hM;clear hM;by_cases hlt:k<m
    ·have hk0:(0:Int)≤(k:Int):=by omega
     have hkl:(k:Int)<(m:Int):=by omega
     have hlen:(List.replicate k (-1:Int) ++ List.replicate (m-k) 0).length=m:=by simp;omega
     have hu:((List.replicate k (-1:Int) ++ List.replicate (m-k) 0).map (Value.int .i64))[k]? =some (.int .i64 0):=by
      rw[List.getElem?_map,List.getElem?_append_right (by simp),List.length_replicate,Nat.sub_self,List.getElem?_replicate,if_pos (by omega)];rfl
     have k2:y.w.cell? ⟨p,2,none⟩=some (.slice (some ⟨gg,0,none⟩) m m):=by have h:=HM.out.st.c 2 _ rfl;rw[show({L3 m with rg:=List.replicate k (-1) ++ List.replicate (m-k) 0}:C7).rg.length=m from hlen]at h;exact h
     have q0:y.w.cell? ⟨gg,k,none⟩=some (.int .i64 0):=HM.out.rg.c _ _ hu;have qf:∀o,y.w.frozen? ⟨gg,o,none⟩=false:=fun o=>HM.out.rg.f o;have hP:=(HM.out.setRg (b:=k) (by rw[hlen];exact hlt) (-1)).1;obtain⟨y2,h2⟩:=y.set ⟨gg,k,none⟩ HM.out.ge.2.2.1 (.int .i64 (-1));rw[h2]at hP;have el:({({L3 m with rg:=List.replicate k (-1) ++ List.replicate (m-k) 0}:C7)with rg:=(List.replicate k (-1:Int) ++ List.replicate (m-k) 0).set k (-1)}:C7)={L3 m with rg:=List.replicate (k+1) (-1) ++ List.replicate (m-(k+1)) 0}:=by
      congr 1;rw[List.set_append_right _ _ (by simp),List.length_replicate,Nat.sub_self,show m-k=(m-(k+1))+1 by omega,List.replicate_succ,List.set_cons_zero,List.replicate_succ'];simp
     have HM2:=A2 (show G7 y2.w wB.heap.size p bi gg gs (.slice none 0 0) (.slice none 0 0) [] {L3 m with rg:=List.replicate (k+1) (-1) ++ List.replicate (m-(k+1)) 0}from el ▸ hP);have H2:=A2 h2;clear hP h2 el hu hlen;go_wp2_with fail;clear k2 q0 qf;go_roundw
     case rel=>exact⟨k+1,y2,by omega,by go_num,H2.out,HM2.out⟩
     case measure=>simp[intOf];omega
    ·obtain rfl:k=m:=by omega
     replace HM:=A2 (show G7 y.w wB.heap.size p bi gg gs (.slice none 0 0) (.slice none 0 0) [] (L3 k)from by have h:=HM.out;rw[Nat.sub_self,List.replicate_zero,List.append_nil]at h;exact h);clear hlt;go_wp2_with fail;obtain⟨hn1,a2,c2,he2,_,hels,_,_⟩:=P2 U5 (by decide) HO.out;obtain⟨rfl,rfl,rfl⟩:a1=a2∧n1=A.length∧c1=c2:=by simpa using he2
     have HEl:=A2 hels;clear hn1 he2 hels hk;go_loopw [47] (fun i wr=>∃(j:Nat) (y:A6 wB) (s:C7) (vr vp:Value) (R:List A8),j≤A.length∧i= .int .i64 j∧wr=y.w∧G7 y.w wB.heap.size p bi gg gs vr vp R s∧jE f k s (A.drop j)∧s=(A.take j).foldl O3 (L3 k)) (fun i _ =>A.length-(intOf i).toNat)
     case atStart=>exact⟨0,y,L3 k,_,_,_,by omega,rfl,rfl,HM.out,HT.out,rfl⟩
     case round=>
      clear HM HT;obtain⟨j,y1,s,vr,vp,R,hj,rfl,rfl,hM,hT,hs⟩:=hrel;have HM:=A2 hM;have HT:=A2 hT;have Hs:=A2 hs;clear hM hT hs;by_cases hlt:j<A.length
      ·have h40:=HAl.out
       obtain⟨e,he⟩:∃e,A[j]? =some e:=⟨_,A3 hlt⟩
       have hd:A.drop j=e :: A.drop (j+1):=by
        rw[List.drop_eq_getElem_cons hlt,(A4 he).2]
       have hlen:=HT.out.len;rw[hd]at HT;obtain⟨b,N,hN,hF,hT2⟩:=HT.out.next Hmf.out
       have BC0:R.length≤100000:=by
        have h1:s.rs.length=R.length:=by rw[←HM.out.br,List.length_map]
        omega
       have Hs2:=A2 (show O3 s e=(A.take (j+1)).foldl O3 (L3 k)from by
        rw[List.take_succ_eq_append_getElem hlt,(A4 he).2,List.foldl_append,Hs.out];rfl)
       obtain⟨b1,off1,rfl,hb1,hc⟩:=HEl.out j e he;obtain⟨ed,eq,ea,et,ek,eb,ep,er,ei⟩:=e;obtain rfl:eb=(b:Int):=hF.hb;have HF:=A2 hF;have HT2:=A2 hT2;have ka0:∀y:A6 wB,y.w.cell? ⟨b1,off1+j*9,none⟩=some (.int .i64 ed):=fun y=>A6.cell (hc 0 _ rfl) hb1 y;have ka1:∀y:A6 wB,y.w.cell? ⟨b1,off1+j*9+1,none⟩=some (.int .i64 eq):=fun y=>A6.cell (hc 1 _ rfl) hb1 y;have ka2:∀y:A6 wB,y.w.cell? ⟨b1,off1+j*9+2,none⟩=some (.int .i64 ea):=fun y=>A6.cell (hc 2 _ rfl) hb1 y;have ka3:∀y:A6 wB,y.w.cell? ⟨b1,off1+j*9+3,none⟩=some (.int .i64 et):=fun y=>A6.cell (hc 3 _ rfl) hb1 y;have ka4:∀y:A6 wB,y.w.cell? ⟨b1,off1+j*9+4,none⟩=some (.int .i64 ek):=fun y=>A6.cell (hc 4 _ rfl) hb1 y;have ka5:∀y:A6 wB,y.w.cell? ⟨b1,off1+j*9+5,none⟩=some (.int .i64 (b:Int)):=fun y=>A6.cell (hc 5 _ rfl) hb1 y;have ka6:∀y:A6 wB,y.w.cell? ⟨b1,off1+j*9+6,none⟩=some (.int .i64 ep):=fun y=>A6.cell (hc 6 _ rfl) hb1 y;have ka7:∀y:A6 wB,y.w.cell? ⟨b1,off1+j*9+7,none⟩=some (.int .i64 er):=fun y=>A6.cell (hc 7 _ rfl) hb1 y;have ka8:∀y:A6 wB,y.w.cell? ⟨b1,off1+j*9+8,none⟩=some (.int .i64 ei):=fun y=>A6.cell (hc 8 _ rfl) hb1 y;have hj0:(0:Int)≤(j:Int):=by omega
       have hjl:(j:Int)<(A.length:Int):=by omega
       clear hc hb1 he hd hF hT2 HT hlen Hs;go_upto_region 13 with fail;obtain⟨y2,e2,C5,hsz0,hlt0,HX0⟩:=L9 y1 [.int .i64 ed,.int .i64 eq,.int .i64 ea,.int .i64 et,.int .i64 ek,.int .i64 (b:Int),.int .i64 ep,.int .i64 er,.int .i64 ei] 63;rw[e2];obtain⟨hx0,hx1,hx2,hx3,hx4,hx5,hx6,hx7,hx8,hxf⟩:=fY HX0;replace HM:=A2 (HM.out.to C5);clear e2 C5;generalize y1.w.heap.size=g at *;obtain⟨E9,G1,J4,I9,M8,O9,S2,S9,T0,G8⟩:=j2 HX0;have I5:=A2 (And.intro hsz0 hlt0);clear hlt0 hsz0 HX0;have hcall:=Be1 wB y2.w ⟨y2,rfl⟩ p bi gg gs vr vp R s HM.out k N (by omega) BC0 ed eq ea et ek b ep er ei HF.out;go_wp2_with(go_at_call 31;(with_reducible refine hcall.mono ?_);clear hcall;rintro _ w3 ⟨rfl,vr',vp',R',h1,h2,h3⟩;(have HM2:=A2 h1);(have HY:=A2 (HM.out.since ⟨y2,rfl⟩ h2));clear h1 h2 h3);go_roundw
       case rel=>
        obtain⟨y3,hy3⟩:=HY.out;rw[hy3]at HM2;exact⟨j+1,y3,_,vr',vp',R',by omega,by go_num,hy3,HM2.out,HT2.out,Hs2.out⟩
       case measure=>simp[intOf];omega
      ·obtain rfl:j=A.length:=by omega
       rw[List.take_length]at Hs;have AA1:=A2 (show R.Pairwise fun x y=>x.id≠y.id from by
        have h1:=HD.out;rw[←Hs.out,←HM.out.br,List.pairwise_map]at h1;exact h1)
       have Hlen:=A2 (show R.length≤20 from by
        have h1:=HA.out;rw[←Hs.out,←HM.out.br,List.length_map]at h1;have:=HL2.out;omega)
       have Hbr:=A2 (show(V3 R).map A8.br=V3 ((A.foldl O3 (L3 k)).rs)from by rw[Bb8 R AA1.out,HM.out.br,Hs.out]);obtain⟨ar,nr,cr,rfl⟩:=G5 HM.out.rr;have hcall:=Bd8 y1.w wB.heap.size _ _ R HM.out.rr Hlen.out AA1.out;have k0:y1.w.cell? ⟨p,0,none⟩=some (.slice ar nr cr):=HM.out.st.c 0 _ rfl;have Hpn:=A2 (show some p≠(Value.slice ar nr cr).ownBlock from fun e=>by
        have h1:=HM.out.ap.b;unfold D2 at h1;simp only[List.nodup_cons,List.mem_cons,List.mem_append,not_or]at h1;exact h1.1.2.2.2.1 (N3.2 e.symm))
       clear hlt;go_wp2_with(go_at_call 32;(with_reducible refine hcall.mono ?_);clear hcall;rintro _ w4 ⟨rfl,h1,h2⟩;(have HG:=A2 h1);(have HO4:=A2 h2);(have HB4:=A2 (HM.out.st.grown h1 Hpn.out));(have k04:=HB4.out.c 0 _ rfl);clear h1 h2);obtain⟨y4,hy4⟩:=y1.grown HG.out (fun b hb=>dI HM.out.rr b hb);have HKp:=A2 (show B7 (fun b=>b∈ob (Value.slice ar nr cr)) y1.w w4 from⟨HG.out.os,HG.out.tape,HG.out.output,HG.out.size,fun j hj hn=>HG.out.block j hj (fun e=>hn (N3.2 e.symm))⟩);have Hrm:=A2 (show∀r∈V3 R,L4 w4 wB.heap.size r from fun r hr=>by
        obtain⟨i,hi⟩:=List.getElem?_of_mem ((eI R).mem_iff.1 hr);exact(HM.out.rm r (A0 hi)).keepS HKp.out (fun b hb hb2=>(HM.out.ap.r i r hi).2 b hb (by simp[D2,hb2])))
       obtain⟨z,hz⟩:=HWb.out;have AE1:w.heap.size≤wB.heap.size:=by rw[hz];exact z.b.size
       obtain⟨z4,hz4⟩:=A7.trans (a:=w) ⟨z,hz⟩ (show A7 wB w4 from⟨y4,hy4⟩);rw[hz4]at HO4 Hrm⊢;exact HP.out _ z4 (.inr ⟨by first|rfl|trivial,V3 R,by rw[(eI R).length_eq];exact jG HO4.out AE1,fun r hr=>(Hrm.out r hr).down AE1,Hbr.out⟩)
 ·have HC2:=A2 (HC1.out.mono fun o w' (h:nM W f L o w')=>show o= .returned (.tuple #[.slice none 0 0,.int .i64 (H9 f)])∧∃y:A6 W,w'=y.w from by
   obtain⟨v,y,rfl,rfl,⟨_,rfl⟩|⟨hb,_⟩⟩:=h
   ·exact⟨rfl,y,rfl⟩
   ·exact absurd hb h0)
  have HR:=A2 (fun y=>HP.out (.slice none 0 0) y (.inl ⟨h0,rfl⟩));have hb0:(H9 f != 0)=true:=by simpa using h0
  clear h0 HC1 HP;generalize H9 f=e at *;go_wp2_with(go_at_call 30;(with_reducible refine HC2.out.mono ?_);rintro _ _ ⟨rfl,y1,rfl⟩);obtain⟨z1,hz1⟩:=Hup.out y1;rw[hz1];exact HR.out z1
end
end Go.Proofs.YtmmlmhnjjfnpnaaGreat
