/- Texts that belong together. -/
import Derived.Test.YtmmlmhnjjfnpnaaGreatTpQzg
import Derived.BigQuiet
set_option linter.all false
namespace Go.Proofs.YtmmlmhnjjfnpnaaGreat
set_option maxRecDepth 200000
set_option maxHeartbeats 64000000
section
open Go.RowKit Go.ChangeMaps
theorem Am5 {s:D7} {i:Int} {k:Nat} (h:s.idx i=some k):Q4 i (s.ix.map fun x=>(x.1,Value.int .i64 (x.2:Int))) (.int .i64 0)= .int .i64 (k:Int)∧jY i (s.ix.map fun x=>(x.1,Value.int .i64 (x.2:Int)))=true:=by
 unfold D7.idx at h;have key:∀(l:List (Int×Nat)) (m:Nat),((l.find? fun x=>decide (x.1=i)).map (·.2))=some k→∃j,E8 i (l.map fun x=>(x.1,Value.int .i64 (x.2:Int))) m=some (j,.int .i64 (k:Int)):=by
  intro l;induction l with
  |nil=>intro m h;simp at h
  |cons x l ih=>
   intro m h
   simp only[List.map_cons,E8]
   by_cases e:i=x.1
   ·rw[if_pos e]
    rw[List.find?_cons_of_pos (by simp[e])]at h;simp at h;exact⟨m,by rw[h]⟩
   ·rw[if_neg e]
    rw[List.find?_cons_of_neg (by simpa using fun h=>e h.symm)]at h;exact ih (m+1) h
 obtain⟨j,hj⟩:=key s.ix 0 h;unfold Q4 jY;rw[hj];exact⟨rfl,rfl⟩
theorem Bc6 (w:World):(zeroValue 3).run Tryz.prog w= .ok (.int .i64 0) w:=by kernel_rfl
theorem Bc7 (wB:World) (w:World) (hX:∃y:A7 wB,w=y.w) (p bi gg gs:Nat) (vr vp:Value) (R:List A9) (s:D7) (h:I8 w wB.heap.size p bi gg gs vr vp R s) (d q a t kd:Int) (b:Nat) (pl r i:Int) (hbs:b<s.sp.length) (hbr:b<s.rg.length) (k:Nat) (hix:s.idx i=some k) (hk:k<R.length) (init:List E0) (lg:E0) (lK:(s.rat k).legs=init ++ [lg]) (fo:Nat) (hfo:lg.b=(fo:Int)) (hfs:fo<s.sp.length) (hfr:fo<s.rg.length) (hll:init.length≤100000):
 Calls Tryz.prog 77 #[.pointer (some ⟨p,0,none⟩),.agg #[.int .i64 d,.int .i64 q,.int .i64 a,.int .i64 t,.int .i64 kd,.int .i64 (b:Int),.int .i64 pl,.int .i64 r,.int .i64 i],.agg #[.int .i64 a,.int .i64 t]] w (aK w wB.heap.size p bi gg gs vr vp R (dK s ⟨d,q,a,t,kd,(b:Int),pl,r,i⟩)):=by
 have HP:=A3 (fun(w':World) (vr' vp':Value) (R':List A9) (h1:I8 w' wB.heap.size p bi gg gs vr' vp' R' (dK s ⟨d,q,a,t,kd,(b:Int),pl,r,i⟩)) (h2:B7 (K9 p bi gg gs vr vp R) w w') (h3:∀b,K9 p bi gg gs vr' vp' R' b→K9 p bi gg gs vr vp R b∨w.heap.size≤b)=>show aK w wB.heap.size p bi gg gs vr vp R (dK s ⟨d,q,a,t,kd,(b:Int),pl,r,i⟩) (.returned (.tuple #[])) w' from⟨rfl,vr',vp',R',h1,h2,h3⟩);generalize aK w wB.heap.size p bi gg gs vr vp R (dK s ⟨d,q,a,t,kd,(b:Int),pl,r,i⟩)=PO at *;obtain⟨r0,hr0⟩:∃r,R[k]? =some r:=⟨_,A4 hk⟩
 obtain⟨gr,cr,rfl,_,_⟩:=eQ h.rr (by omega);have hpq:r0.legs=init ++ [lg]:=by rw[←lK,kV h.br hr0];rfl
 obtain⟨gl,hga,hgc,_⟩:=(h.rm r0 (A0 hr0)).leg_at (by rw[hpq];simp);have Hh:=A3 h;have Hh0:=A3 h;have HX:=A3 hX;have Hbs:=A3 hbs;have Hbr:=A3 hbr;have Hr0:=A3 hr0;have Hpq:=A3 hpq;have Hga:=A3 hga;have Hix:=A3 hix;have Hfo:=A3 hfo;have Hfs:=A3 hfs;have Hfr:=A3 hfr;have rY:=A3 lK;have hb0:(0:Int)≤(b:Int):=by omega
 have hbl:(b:Int)<(s.sp.length:Int):=by omega
 have yB:(b:Int)<(s.rg.length:Int):=by omega
 have hf0:(0:Int)≤(fo:Int):=by omega
 have hfl:(fo:Int)<(s.sp.length:Int):=by omega
 have BC3:(fo:Int)<(s.rg.length:Int):=by omega
 have hk0:(0:Int)≤(k:Int):=by omega
 have hkl:(k:Int)<(R.length:Int):=by omega
 obtain⟨x,hx⟩:=A7.refl w;rw[hx];clear hx h hX hbs hbr hr0 hpq hga hgc hix hk lK hfo hfs hfr;go_enter Tryz.func77,Tryz.ntmps77;go_upto_region 1 with fail;obtain⟨W,bx,y0,hW,hbx,-,B8,Hup,Hbx,HB0,HB1⟩:=Z7 x ([Value.int .i64 d,.int .i64 q,.int .i64 a,.int .i64 t,.int .i64 kd,.int .i64 (b:Int),.int .i64 pl,.int .i64 r,.int .i64 i]) 63 ([Value.int .i64 a,.int .i64 t]) 36;rw[hW,hbx];clear hW hbx;have hB0:=fun y:A7 W=>HB0.since y;have hB1:=fun y:A7 W=>HB1.since y;clear HB0 HB1;replace Hh:=A3 (Hh.out.to B8);have g1:∀y:A7 W,y.w.cell? ⟨p,1,none⟩=some (.map (some bi)):=fun y=>(Hh.out.st.since y).c 1 _ rfl;have e8:∀y:A7 W,y.w.cell? ⟨bx,8,none⟩=some (.int .i64 i):=fun y=>(hB0 y).c 8 _ rfl;have hlk:∀z:A7 W,(Instr.lookup 100 (.map (some bi)) (.int .i64 i) true).run Tryz.prog z.w= .ok (.tuple #[.int .i64 (k:Int),.bool true]) z.w:=fun z=>by
  have h1:=dS gB (Hh.out.ix.since z) Tryz.underlying100 (Bc6 _) i true;rw[if_pos rfl,(Am5 Hix.out).1,(Am5 Hix.out).2]at h1;exact h1
 refine L5 (by kernel_rfl) (by kernel_rfl) ?_;repeat(go_big_quiet_step(fail))
 refine wpQuiet_nil ?_;rintro _ ⟨y1,rfl⟩;clear g1 e8 hlk;have HBe:=A3 (hB0 y1);have HBs:=A3 (hB1 y1);replace Hh:=A3 (Hh.out.to ⟨y1,rfl⟩);have HK:=A3 (show B7 (K9 p bi gg gs (.slice (some ⟨gr,0,none⟩) R.length cr) vp R) w y1.w from by obtain⟨y,e⟩:=Hup.out y1;rw[e];exact B7.of y);have HN1:=A3 (Hh0.out.notS (b:=bx) Hbx.out.1);have HN2:=A3 (Hh0.out.notS (b:=bx+1) (by have:=Hbx.out;omega));clear hB0 hB1 B8 Hup Hbx;generalize bx+1=bw at *;generalize y1.w=w1 at *;obtain⟨M,hM⟩:∃M,init.length=M:=⟨_,rfl⟩
 obtain⟨N,hN⟩:∃N,r0.legs.length=N:=⟨_,rfl⟩
 have hNM:N=M+1:=by rw[←hN,Hpq.out,List.length_append,hM];rfl
 have hNq:r0.legs[M]? =some lg:=by rw[←hM,Hpq.out,List.getElem?_append_right (Nat.le_refl _),Nat.sub_self];rfl
 have hrow:=(Hh.out.rm r0 (A0 Hr0.out)).l;unfold A9.lv at hrow;rw[Hga.out,hN]at hrow;have k0:w1.cell? ⟨p,0,none⟩=some (.slice (some ⟨gr,0,none⟩) R.length cr):=Hh.out.st.c 0 _ rfl;have l7:w1.cell? ⟨gr,k*13+7,none⟩=some (.slice (some ⟨gl,0,none⟩) N r0.lc):=by
  have h1:=(P6 Hh.out.rr (H7 A9.len R k r0 7 (.slice r0.la r0.legs.length r0.lc) Hr0.out rfl)).1 (A7.self w1);rw[Hga.out,hN]at h1;exact h1
 have q3:w1.cell? ⟨gl,M*5+3,none⟩=some (.int .i64 lg.t0):=(P6 hrow (H7 E0.len r0.legs M lg 3 _ hNq rfl)).1 (A7.self w1);have q4:w1.cell? ⟨gl,M*5+4,none⟩=some (.int .i64 lg.t1):=(P6 hrow (H7 E0.len r0.legs M lg 4 _ hNq rfl)).1 (A7.self w1);have f3:w1.frozen? ⟨gl,M*5+3,none⟩=false:=(P6 hrow (H7 E0.len r0.legs M lg 3 _ hNq rfl)).2.1 (A7.self w1);have f4:w1.frozen? ⟨gl,M*5+4,none⟩=false:=(P6 hrow (H7 E0.len r0.legs M lg 4 _ hNq rfl)).2.1 (A7.self w1);have c0:w1.cell? ⟨bw,0,none⟩=some (.int .i64 a):=HBs.out.c 0 _ rfl;have c1:w1.cell? ⟨bw,1,none⟩=some (.int .i64 t):=HBs.out.c 1 _ rfl;obtain⟨hM2,hK2⟩:=Hh.out.endL Hr0.out Hpq.out Hga.out a t;rw[hM]at hM2 hK2;have hN2:(0:Int)≤(M:Int):=by omega
 have hN3:(M:Int)<(N:Int):=by omega
 have hw1:wrap64 ((N:Int)-1)=(M:Int):=by rw[show(N:Int)-1=(M:Int) by omega];exact IntWalk.wrap64_in _ ⟨by omega,by omega⟩
 have HM2:=A3 hM2;have HK2:=A3 hK2;have HNM:=A3 hNM;have HMi:=A3 hM;have HN0:=A3 hN;clear hM hN hNM hNq hrow hM2 hK2;go_upto_region 6 with fail;refine Eq.mp (congrArg (Code.wp _ _ _ _) (show(w1.setCell ⟨gl,M*5+3,none⟩ (.int .i64 a)).setCell ⟨gl,M*5+3+1,none⟩ (.int .i64 t)= _ from rfl)) ?_;have W5:=A3 (HBe.out.keepS HK2.out HN1.out);have fJ:=A3 (HBs.out.keepS HK2.out HN2.out);have HK3:=A3 (HK.out.step HK2.out);clear k0 l7 q3 q4 f3 f4 c0 c1 HBe HBs HK HK2 Hh;generalize(w1.setCell ⟨gl,M*5+3,none⟩ (.int .i64 a)).setCell ⟨gl,M*5+3+1,none⟩ (.int .i64 t)=w2 at *;have HX2:=A3 (Hh0.out.since HX.out HK3.out);obtain⟨r1,hr1⟩:∃r1:A9,{r0 with legs:=init ++ [lg.to a t]}=r1:=⟨_,rfl⟩
 rw[hr1]at HM2;have xT:=A3 (show r1.legs=init ++ [lg.to a t]from by rw[←hr1]);have Aw3:=A3 (show r1.la=some ⟨gl,0,none⟩from by rw[←hr1];exact Hga.out);have Bw0:=A3 (show K3 r1=K3 r0 from by rw[←hr1];exact qH _ _);have xU:=A3 (show r1.legs.length=N from by
  have h1:=HN0.out;rw[Hpq.out,List.length_append]at h1;rw[xT.out,List.length_append];exact h1)
 have Aw4:=A3 (show r1.lc=r0.lc from by rw[←hr1]);have Bw1:=A3 (show∀(L:List E0),({r1 with legs:=L}:A9).br={r0.br with legs:=L}from fun L=>by rw[←hr1];rfl);obtain⟨R1,hR1⟩:∃R1,R.set k r1=R1:=⟨_,rfl⟩
 have hl1:R1.length=R.length:=by rw[←hR1,List.length_set]
 have hk1:R1[k]? =some r1:=by rw[←hR1];exact kW Hr0.out
 have HF2:=A3 (show∀x,K9 p bi gg gs (.slice (some ⟨gr,0,none⟩) R1.length cr) vp R1 x→K9 p bi gg gs (.slice (some ⟨gr,0,none⟩) R.length cr) vp R x from fun x hx=>by
  rw[hl1]at hx;rw[←hR1]at hx;exact hx.set Hr0.out Bw0.out)
 rw[hR1,←hl1]at HM2;have Hk1:=A3 hk1;have HR1:=A3 hR1;rw[←hl1]at hkl;have Hl1:=A3 hl1;clear hr1 hR1 hl1 hk1;have HN1':=A3 (fun hc=>HN1.out (HF2.out bx hc));have HN2':=A3 (fun hc=>HN2.out (HF2.out bw hc));have hrow:=(HM2.out.rm r1 (A0 Hk1.out)).l;unfold A9.lv at hrow;rw[Aw3.out,xU.out,Aw4.out]at hrow;have hq1:r1.legs[M]? =some (lg.to a t):=by rw[xT.out,←HMi.out,List.getElem?_append_right (Nat.le_refl _),Nat.sub_self];rfl
 have l0:w2.cell? ⟨gl,M*5,none⟩=some (.int .i64 (fo:Int)):=by
  have h1:=(P6 hrow (H7 E0.len r1.legs M (lg.to a t) 0 (.int .i64 lg.b) hq1 rfl)).1 (A7.self w2);rw[Hfo.out]at h1;exact h1
 have bM:=A3 hrow;clear hq1 hrow;go_upto_region 7 with fail;clear l0 hw1;obtain⟨s1,hs1⟩:∃s1:D7,{s with rs:=s.rs.set k r1.br}=s1:=⟨_,rfl⟩
 rw[hs1]at HM2;have Hs1:=A3 hs1;clear hs1;have HSf:=A3 (fun(w':World) (h1:C4 w' p [.slice (some ⟨gr,0,none⟩) R1.length cr,.map (some bi),.slice (some ⟨gg,0,none⟩) s1.rg.length s1.rg.length,vp,.slice (some ⟨gs,0,none⟩) s1.sp.length s1.sp.length]) (h2:C4 w' bx [.int .i64 d,.int .i64 q,.int .i64 a,.int .i64 t,.int .i64 kd,.int .i64 (b:Int),.int .i64 pl,.int .i64 r,.int .i64 i]) (h3:C4 w' bw [.int .i64 a,.int .i64 t])=>
  show w'.cell? ⟨p,0,none⟩=some (.slice (some ⟨gr,0,none⟩) R1.length cr)∧w'.cell? ⟨bx,5,none⟩=some (.int .i64 (b:Int))∧w'.cell? ⟨bw,0,none⟩=some (.int .i64 a)∧w'.cell? ⟨bw,1,none⟩=some (.int .i64 t)from⟨h1.c 0 _ rfl,h2.c 5 _ rfl,h3.c 0 _ rfl,h3.c 1 _ rfl⟩)
 have dQ:=A3 (fun(w':World) (hw:A8 w2 w')=>HSf.out w' (HM2.out.st.to hw) (W5.out.to hw) (fJ.out.to hw));refine R7 (fun w'=>w'.cell? ⟨p,0,none⟩=some (.slice (some ⟨gr,0,none⟩) R1.length cr)∧w'.cell? ⟨bx,5,none⟩=some (.int .i64 (b:Int))∧w'.cell? ⟨bw,0,none⟩=some (.int .i64 a)∧w'.cell? ⟨bw,1,none⟩=some (.int .i64 t)) 14 (by kernel_rfl) (dQ.out _ (A8.drew' (A8.self _))) (fun hS=>?_);iterate 10
  refine J4 0 ?_ rfl rfl (by kernel_rfl) hS (fun _ _ _ h=>h) ?_ ?_
  rotate_left
  ·(intro w h;(try dsimp only at h);go_split_ands;go_simp;try with_reducible rfl)
  (try simp only[Act.put,B9])
 refine I0 10 (by kernel_rfl) rfl fun K hK=>?_;go_simp;refine E5 hK (dQ.out _ (A8.drew' (A8.alloc (A8.self _) _))) ?_;clear hK K hS;intro hS;(try simp only[Act.put,B9])
 have hYs:A8 w2 ((w2.alloc (.cells (⟨(b:Int),a,t,0,0⟩:E0).cs.toArray 152)).drew):=A8.drew' (A8.alloc (A8.self _) _);have hYw:A8 wB ((w2.alloc (.cells (⟨(b:Int),a,t,0,0⟩:E0).cs.toArray 152)).drew):=by obtain⟨y,e⟩:=HX2.out;exact A8.trans ⟨y,e⟩ hYs
 have hY0:((w2.alloc (.cells (⟨(b:Int),a,t,0,0⟩:E0).cs.toArray 152)).drew).heap[w2.heap.size]? =some (.cells (⟨(b:Int),a,t,0,0⟩:E0).cs.toArray 152):=by
  rw[mV,kT,if_pos rfl]
 have dR:((w2.alloc (.cells (⟨(b:Int),a,t,0,0⟩:E0).cs.toArray 152)).drew).heap.size=w2.heap.size+1:=by
  show(w2.alloc _).heap.size= _;simp
 have hcY:∀j v,(⟨(b:Int),a,t,0,0⟩:E0).cs[j]? =some v→((w2.alloc (.cells (⟨(b:Int),a,t,0,0⟩:E0).cs.toArray 152)).drew).cell? ((⟨w2.heap.size,0,none⟩:Addr).add j)=some v:=fun j v hv=>by
  rw[Addr.add_lit];simp only[World.cell?,hY0,Nat.zero_add];simpa using hv
 have hoY:=J8 bM.out hYs;have hbY:=hYw.size;have hlv:r1.lv= .slice (some ⟨gl,0,none⟩) N r0.lc:=by unfold A9.lv;rw[Aw3.out,xU.out,Aw4.out]
 have oD:gl∈K3 r1:=List.mem_append_left _ (by rw[hlv,V3];simp);have hpv:some p≠(Value.slice (some ⟨gl,0,none⟩) N r0.lc).ownBlock:=fun e=>(HM2.out.ap.r k r1 Hk1.out).2 gl oD (by have e2:p=gl:=(by simpa[Value.ownBlock]using e);rw[←e2];simp[D6]);have hne1:some bx≠(Value.slice (some ⟨gl,0,none⟩) N r0.lc).ownBlock:=fun e=>HN1'.out (.inr ⟨r1,A0 Hk1.out,by have e2:bx=gl:=(by simpa[Value.ownBlock]using e);rw[e2];exact oD⟩);have hne2:some bw≠(Value.slice (some ⟨gl,0,none⟩) N r0.lc).ownBlock:=fun e=>HN2'.out (.inr ⟨r1,A0 Hk1.out,by have e2:bw=gl:=(by simpa[Value.ownBlock]using e);rw[e2];exact oD⟩);have HpY:=HM2.out.st.to hYs;have HeY:=W5.out.to hYs;have HsY:=fJ.out.to hYs;have hNb:N≤100001:=by have h1:=HNM.out;have h2:=HMi.out;omega
 refine I0 11 (by kernel_rfl) rfl fun K hK=>?_;(refine M8 (w0:=wB) (k:=5) hYw rfl _ _ 37 rfl wB.heap.size (Nat.le_refl _) hbY 152 (.agg #[.int .i64 0,.int .i64 0,.int .i64 0,.int .i64 0,.int .i64 0]) 40 Am1 (.slice (some ⟨gl,0,none⟩) N r0.lc) N (B4 E0.cs r1.legs) rfl hoY ⟨w2.heap.size,0,none⟩ 1 1 (⟨(b:Int),a,t,0,0⟩:E0).cs rfl rfl hcY (Al8 _) (by decide) (by unfold maxLen;omega) (by omega) ?_;intro v2 q2 hown2 hg2 hl2;obtain⟨a2,n2,c2,rfl⟩:=I4 hown2)
 refine E5 hK (HSf.out _ (HpY.grown hg2 hpv) (HeY.grown hg2 hne1) (HsY.grown hg2 hne2)) ?_;clear hK K hS;intro hS;(try simp only[Act.put,B9])
 have hgg:gr≠gl:=fun e=>(HM2.out.ap.r k r1 Hk1.out).2 gl oD (by rw[←e];simp[D6,V3]);have jU:=lM (J8 HM2.out.rr hYs) hg2 (fun x hx e=>hgg (by
  have e1:gr=x:=by simpa[Value.ownBlock]using hx
  have e2:x=gl:=by simpa[Value.ownBlock]using e
  rw[e1,e2]))
 have k7:=(P6 jU (H7 A9.len R1 k r1 7 (.slice r1.la r1.legs.length r1.lc) Hk1.out rfl)).1 (A7.self q2.w);have kf7:=(P6 jU (H7 A9.len R1 k r1 7 (.slice r1.la r1.legs.length r1.lc) Hk1.out rfl)).2.1 (A7.self q2.w);rw[show(A7.self q2.w).w=q2.w from rfl]at k7 kf7;iterate 2
  refine J4 12 ?_ rfl rfl (by kernel_rfl) hS (fun _ _ _ h=>h) ?_ ?_
  rotate_left
  ·(intro w h;(try dsimp only at h);go_split_ands;go_simp;try with_reducible rfl)
  (try simp only[Act.put,B9])
 refine I0 14 (by kernel_rfl) rfl fun K hK=>?_;go_simp;refine M9 hK (by kernel_rfl) ?_;clear hK K;(try clear hS)
 (try simp only[Act.put,B9])
 have hn2:n2=N+1:=by
  obtain⟨_,⟨e2,e3⟩|⟨_,_,_,e2,_⟩⟩:=hown2
  ·omega
  ·simp only[Value.slice.injEq]at e2;exact e2.2.1
 subst hn2;have hLn:N+1=(r1.legs ++ [(⟨(b:Int),a,t,0,0⟩:E0)]).length:=by rw[List.length_append,xU.out];rfl
 obtain⟨hM3,hK3,hF3⟩:=HM2.out.newLegs (w':=q2.w) (L:=r1.legs ++ [(⟨(b:Int),a,t,0,0⟩:E0)]) (a2:=a2) (n2:=N+1) (c2:=c2) Hk1.out hLn ((B7.to (B7.refl _ w2) hYs).step ⟨hg2.os,hg2.tape,hg2.output,hg2.size,fun j hj hn=>hg2.block j hj (fun e=>hn (by rw[hlv,O2];exact e.symm))⟩) (by rw[U6,Y1];exact hown2) (fun x hx=>by
  rcases hl2 x (O2.1 hx)with h'|h'
  ·left;rw[hlv,O2];exact h'
  ·right;have h'':x=w2.heap.size+1:=h'.trans dR;omega)
 clear k7 kf7;go_upto_region 8 with fail;have aT:=A3 (W5.out.keepS hK3 HN1'.out);have hsz2:w.heap.size≤w2.heap.size:=HK3.out.size;have HKt:=A3 (HK3.out.trans hK3 (fun x hx=>.inl (HF2.out x hx)));have HFt:=A3 (show∀x,K9 p bi gg gs (.slice (some ⟨gr,0,none⟩) R1.length cr) vp (R1.set k {r1 with legs:=r1.legs ++ [(⟨(b:Int),a,t,0,0⟩:E0)],la:=a2,lc:=c2}) x→K9 p bi gg gs (.slice (some ⟨gr,0,none⟩) R.length cr) vp R x∨w.heap.size≤x from fun x hx=>by
  rcases hF3 x hx with h'|h'
  ·exact .inl (HF2.out x h')
  ·exact .inr (by omega))
 have HM3:=A3 hM3;clear hM3 hK3 hF3 jU hgg hNb HpY HeY HsY hpv hne1 hne2 oD hlv hbY hoY hcY dR hY0 hYw hYs hl2 hg2 hown2 hLn hsz2 dQ HSf;generalize q2.w.setCell ⟨gr,k*13+7,none⟩ (.slice a2 (N+1) c2)=w3 at *;obtain⟨r3,hr3⟩:∃r3:A9,{r1 with legs:=r1.legs ++ [(⟨(b:Int),a,t,0,0⟩:E0)],la:=a2,lc:=c2}=r3:=⟨_,rfl⟩
 rw[hr3]at HM3 HFt;have Hr3:=A3 hr3;clear hr3;obtain⟨s3,hs3⟩:∃s3:D7,{s1 with rs:=s1.rs.set k r3.br}=s3:=⟨_,rfl⟩
 rw[hs3]at HM3;have Hs3:=A3 hs3;have Hrg:=A3 (show s3.rg=s.rg from by rw[←hs3,←Hs1.out]);have Hsp:=A3 (show s3.sp=s.sp from by rw[←hs3,←Hs1.out]);clear hs3;have Ax5:fo<s3.rg.length:=by rw[Hrg.out];exact Hfr.out
 have hp2:w3.cell? ⟨p,2,none⟩=some (.slice (some ⟨gg,0,none⟩) s.rg.length s.rg.length):=by have h1:=HM3.out.st.c 2 _ rfl;rw[Hrg.out]at h1;exact h1
 have e5:w3.cell? ⟨bx,5,none⟩=some (.int .i64 (b:Int)):=aT.out.c 5 _ rfl;have d0:w3.cell? ⟨gg,fo,none⟩=some (.int .i64 s3.rg[fo]):=HM3.out.rg.c fo _ (by rw[List.getElem?_map,A4 Ax5];rfl);have df:∀o,w3.frozen? ⟨gg,o,none⟩=false:=fun o=>HM3.out.rg.f o;have hst3:A8 w3 w3.drew:=A8.drew' (A8.self _);obtain⟨hM4,hK4⟩:=(HM3.out.to hst3).setRg (b:=fo) Ax5 (-1);have yA:=(aT.out.to hst3).keepS hK4 (fun e=>HN1.out (.inl (by rw[e];simp[D6])));have Ay2:=HKt.out.trans ((B7.to (B7.refl _ w3) hst3).step hK4) (fun g e=>.inl (.inl (by rw[e];simp[D6])));have HM4:=A3 hM4;have nN:=A3 yA;have xD:=A3 Ay2;have hS4:(fun w'=>w'.cell? ⟨p,2,none⟩=some (.slice (some ⟨gg,0,none⟩) s.rg.length s.rg.length)∧w'.cell? ⟨bx,5,none⟩=some (.int .i64 (b:Int))) (w3.drew.setCell ⟨gg,fo,none⟩ (.int .i64 (-1))):=⟨by have h1:=hM4.st.c 2 _ rfl;rw[show({s3 with rg:=s3.rg.set fo (-1)}:D7).rg.length=s.rg.length from by simp[Hrg.out]]at h1;exact h1,yA.c 5 _ rfl⟩
 clear hM4 hK4 yA Ay2 hst3;refine R7 (fun w'=>w'.cell? ⟨p,2,none⟩=some (.slice (some ⟨gg,0,none⟩) s.rg.length s.rg.length)∧w'.cell? ⟨bx,5,none⟩=some (.int .i64 (b:Int))) 15 (by kernel_rfl) ⟨hp2,e5⟩ (fun hS=>?_);iterate 13
  refine J4 0 ?_ rfl rfl (by kernel_rfl) hS (fun _ _ _ h=>h) ?_ ?_
  rotate_left
  ·(intro w h;(try dsimp only at h);go_split_ands;go_simp;try with_reducible rfl)
  (try simp only[Act.put,B9])
 refine I0 13 (by kernel_rfl) rfl fun K hK=>?_;go_simp;refine E5 hK (hS4) ?_;clear hK K hS;intro hS;(try simp only[Act.put,B9])
 clear hp2 e5 d0 df hS;have hS:=hS4;rw[show w3.drew.setCell ⟨gg,fo,none⟩ (.int .i64 (-1))=(w3.setCell ⟨gg,fo,none⟩ (.int .i64 (-1))).drew from rfl]at HM4 nN xD hS;clear hS4 HM3 aT HKt;generalize(w3.setCell ⟨gg,fo,none⟩ (.int .i64 (-1))).drew=w4 at *;have hb4:b<(s3.rg.set fo (-1)).length:=by rw[List.length_set,Hrg.out];exact Hbr.out
 have d1:w4.cell? ⟨gg,b,none⟩=some (.int .i64 (s3.rg.set fo (-1))[b]):=HM4.out.rg.c b _ (by rw[List.getElem?_map,A4 hb4];rfl);have df1:∀o,w4.frozen? ⟨gg,o,none⟩=false:=fun o=>HM4.out.rg.f o;obtain⟨hM5,hK5⟩:=HM4.out.setRg (b:=b) hb4 (k:Int);have Br4:=A3 (nN.out.keepS hK5 (fun e=>HN1.out (.inl (by rw[e];simp[D6]))));have Br7:=A3 (xD.out.trans hK5 (fun g e=>.inl (.inl (by rw[e];simp[D6]))));have HM5:=A3 hM5;clear hM5 hK5;refine tk 14 ?_ rfl (by kernel_rfl) hS (fun _ _ _ h=>h) ?_ ?_;rotate_left
 ·(intro w h;(try dsimp only at h);go_split_ands;go_simp;try with_reducible rfl)
 (try simp only[Act.put,B9])
 refine I0 15 (by kernel_rfl) rfl fun K hK=>?_;go_simp;refine M9 hK (by kernel_rfl) ?_;clear hK K;(try clear hS)
 (try simp only[Act.put,B9])
 clear d1 df1 HM4 nN xD;go_upto_region 9 with fail;generalize w4.setCell ⟨gg,b,none⟩ (.int .i64 (k:Int))=w5 at *;obtain⟨s5,hs5⟩:∃s5:D7,{s3 with rg:=(s3.rg.set fo (-1)).set b (k:Int)}=s5:=⟨_,rfl⟩
 have HM6:=A3 (show I8 w5 wB.heap.size p bi gg gs (.slice (some ⟨gr,0,none⟩) R1.length cr) vp (R1.set k r3) s5 from hs5 ▸ HM5.out);have Hs5:=A3 hs5;have sC:=A3 (show s5.sp=s.sp from by rw[←hs5];exact Hsp.out);clear hs5 HM5;obtain⟨u,hu⟩:∃u,s.sp[b]? =some u:=⟨_,A4 Hbs.out⟩
 obtain⟨v,hv⟩:∃v,s.sp[fo]? =some v:=⟨_,A4 Hfs.out⟩
 have hu5:s5.sp[b]? =some u:=by rw[sC.out];exact hu
 have hv5:s5.sp[fo]? =some v:=by rw[sC.out];exact hv
 have g4:∀w',A8 w5 w'→w'.cell? ⟨p,4,none⟩=some (.slice (some ⟨gs,0,none⟩) s.sp.length s.sp.length):=fun w' h=>by have h1:=(HM6.out.st.to h).c 4 _ rfl;rw[sC.out]at h1;exact h1
 have e5:∀w',A8 w5 w'→w'.cell? ⟨bx,5,none⟩=some (.int .i64 (b:Int)):=fun w' h=>(Br4.out.to h).c 5 _ rfl;have m0:∀w',A8 w5 w'→w'.cell? ⟨gs,b*4,none⟩=some (.int .i64 u.w):=fun w' h=>(HM6.out.sp.to h).c _ _ (H7 D8.len s5.sp b u 0 _ hu5 rfl);have m1:∀w',A8 w5 w'→w'.cell? ⟨gs,b*4+1,none⟩=some (.int .i64 u.p):=fun w' h=>(HM6.out.sp.to h).c _ _ (H7 D8.len s5.sp b u 1 _ hu5 rfl);have m2:∀w',A8 w5 w'→w'.cell? ⟨gs,b*4+2,none⟩=some (.int .i64 u.r):=fun w' h=>(HM6.out.sp.to h).c _ _ (H7 D8.len s5.sp b u 2 _ hu5 rfl);have m3:∀w',A8 w5 w'→w'.cell? ⟨gs,b*4+3,none⟩=some (.bool u.z):=fun w' h=>(HM6.out.sp.to h).c _ _ (H7 D8.len s5.sp b u 3 _ hu5 rfl);have q0:w5.cell? ⟨gs,fo*4,none⟩=some (.int .i64 v.w):=HM6.out.sp.c _ _ (H7 D8.len s5.sp fo v 0 _ hv5 rfl);have q1:w5.cell? ⟨gs,fo*4+1,none⟩=some (.int .i64 v.p):=HM6.out.sp.c _ _ (H7 D8.len s5.sp fo v 1 _ hv5 rfl);have q2:w5.cell? ⟨gs,fo*4+2,none⟩=some (.int .i64 v.r):=HM6.out.sp.c _ _ (H7 D8.len s5.sp fo v 2 _ hv5 rfl);have q3:w5.cell? ⟨gs,fo*4+3,none⟩=some (.bool v.z):=HM6.out.sp.c _ _ (H7 D8.len s5.sp fo v 3 _ hv5 rfl);have qf:∀o,w5.frozen? ⟨gs,o,none⟩=false:=fun o=>HM6.out.sp.f o;have Hu:=A3 hu;clear hu hv hu5 hv5;refine R7 (fun w'=>A8 w5 w') 14 (by kernel_rfl) (A8.drew' (A8.self _)) (fun hS=>?_);iterate 14
  refine J4 0 ?_ rfl rfl (by kernel_rfl) hS (fun _ _ _ h=>h) ?_ ?_
  rotate_left
  ·(intro w h;(try dsimp only at h);go_split_ands;go_simp;try with_reducible rfl)
  (try simp only[Act.put,B9])
 refine I0 14 (by kernel_rfl) rfl fun K hK=>?_;go_simp;refine M9 hK (by kernel_rfl) ?_;clear hK K;(try clear hS)
 (try simp only[Act.put,B9])
 clear g4 e5 m0 m1 m2 m3 q0 q1 q2 q3 qf;have hst:A8 w5 w5.drew:=A8.drew' (A8.self _);obtain⟨hM7,hK7⟩:=(HM6.out.to hst).setSp (b:=fo) (by rw[sC.out];exact Hfs.out) u;have HE:=A3 (show dK s ⟨d,q,a,t,kd,(b:Int),pl,r,i⟩={s5 with sp:=s5.sp.set fo u}from by
  have W7:s.rat k=r0.br:=kV Hh0.out.br Hr0.out;have hget:((s.rat k).legs.getLast?.map (·.b)).getD 0=(fo:Int):=by rw[rY.out];simp[Hfo.out]
  have hu2:s.sp.getD b default=u:=by rw[A6,Hu.out];rfl
  have h3:r3.br={r0.br with legs:=(aI (init ++ [lg]) fun x=>x.to a t) ++ [(⟨(b:Int),a,t,0,0⟩:E0)]}:=by
   rw[←Hr3.out];show({r1 with legs:=r1.legs ++ [(⟨(b:Int),a,t,0,0⟩:E0)]}:A9).br= _;rw[Bw1.out,hZ,xT.out]
  have hl0:r0.br.legs=init ++ [lg]:=Hpq.out;rw[←Hs5.out,←Hs3.out,←Hs1.out];unfold dK;dsimp only;rw[Hix.out];dsimp only;rw[hget,Int.toNat_natCast,Int.toNat_natCast,hu2];unfold D7.setR;rw[W7,List.set_set,h3,←hl0])
 refine M7 (v:=.tuple #[]) (by simp[results,Tryz.results77,go_sem]) rfl ?_;exact HP.out _ _ _ _ (by rw[HE.out];exact hM7) (Br7.out.trans ((B7.to (B7.refl _ w5) hst).step hK7) (fun g e=>.inl (.inl (by rw[e];simp[D6])))) HFt.out
end
section
open Go.RowKit Go.ChangeMaps
theorem Bc8 (wB:World) (w:World) (hX:∃y:A7 wB,w=y.w) (p bi gg gs:Nat) (vr vp:Value) (R:List A9) (s:D7) (h:I8 w wB.heap.size p bi gg gs vr vp R s) (n N:Nat) (hN:N≤100000) (hlr:R.length≤100000) (d q a t kd:Int) (b:Nat) (pl r i:Int) (hF:vM n s N (⟨d,q,a,t,kd,(b:Int),pl,r,i⟩:Ev) b):
 Calls Tryz.prog 31 #[.pointer (some ⟨p,0,none⟩),.agg #[.int .i64 d,.int .i64 q,.int .i64 a,.int .i64 t,.int .i64 kd,.int .i64 (b:Int),.int .i64 pl,.int .i64 r,.int .i64 i]] w (aK w wB.heap.size p bi gg gs vr vp R (V7 s ⟨d,q,a,t,kd,(b:Int),pl,r,i⟩)):=by
 have HP:=A3 (fun(w':World) (vr' vp':Value) (R':List A9) (h1:I8 w' wB.heap.size p bi gg gs vr' vp' R' (V7 s ⟨d,q,a,t,kd,(b:Int),pl,r,i⟩)) (h2:B7 (K9 p bi gg gs vr vp R) w w') (h3:∀b,K9 p bi gg gs vr' vp' R' b→K9 p bi gg gs vr vp R b∨w.heap.size≤b)=>show aK w wB.heap.size p bi gg gs vr vp R (V7 s ⟨d,q,a,t,kd,(b:Int),pl,r,i⟩) (.returned (.tuple #[])) w' from⟨rfl,vr',vp',R',h1,h2,h3⟩);generalize aK w wB.heap.size p bi gg gs vr vp R (V7 s ⟨d,q,a,t,kd,(b:Int),pl,r,i⟩)=PO at *;have hkk:=hF.kk;have hbn:=hF.hbn;have hn1:=hF.n1;have hn2:=hF.n2;have HF:=A3 hF;have Hh:=A3 h;have Hh0:=A3 h;have HX:=A3 hX;have hb0:(0:Int)≤(b:Int):=by omega
 have yB:(b:Int)<(s.rg.length:Int):=by omega
 have Hbs:=A3 (show b<s.sp.length by omega);have Hbr:=A3 (show b<s.rg.length by omega);obtain⟨x,hx⟩:=A7.refl w;rw[hx];clear hx h hX hF hbn hn1 hn2;go_enter Tryz.func31,Tryz.ntmps31;go_upto_region 1 with fail;obtain⟨W,bx,y0,hW,hbx,-,B8,Hup,Hbx,HB0⟩:=K7 x ([Value.int .i64 d,.int .i64 q,.int .i64 a,.int .i64 t,.int .i64 kd,.int .i64 (b:Int),.int .i64 pl,.int .i64 r,.int .i64 i]) 63;rw[hW,hbx];clear hW hbx;have hB0:=fun y:A7 W=>HB0.since y;clear HB0;replace Hh:=A3 (Hh.out.to B8);have HBe:=A3 hB0;have e2:∀y:A7 W,y.w.cell? ⟨bx,2,none⟩=some (.int .i64 a):=fun y=>(hB0 y).c 2 _ rfl;have e3:∀y:A7 W,y.w.cell? ⟨bx,3,none⟩=some (.int .i64 t):=fun y=>(hB0 y).c 3 _ rfl;clear hB0 B8;go_upto_region 2 with fail;clear e2 e3;obtain⟨y1,e2,C9,hsz0,hlt0,HX0⟩:=L8 y0 [.int .i64 a,.int .i64 t] 36;rw[e2];obtain⟨hx0,hx1,hxf⟩:=aC HX0;skip;clear e2 C9;generalize y0.w.heap.size=gw at *;obtain⟨E6,G9,I3⟩:=p8 HX0;have I9:=A3 (And.intro hsz0 hlt0);clear hlt0 hsz0 HX0;clear hx0 hx1 hxf;replace Hh:=A3 (Hh.out.to ⟨y1,rfl⟩);obtain⟨j,hj⟩:∃j,B0 s.rg b=j:=⟨_,rfl⟩
 have hjc:(s.rg.map (Value.int .i64))[b]? =some (.int .i64 j):=by
  rw[List.getElem?_map,A4 Hbr.out,←hj];unfold B0;rw[A6,A4 Hbr.out];rfl
 have g2:∀y:A7 y1.w,y.w.cell? ⟨p,2,none⟩=some (.slice (some ⟨gg,0,none⟩) s.rg.length s.rg.length):=fun y=>(Hh.out.st.since y).c 2 _ rfl;have gj:∀y:A7 y1.w,y.w.cell? ⟨gg,b,none⟩=some (.int .i64 j):=fun y=>(Hh.out.rg.since y).c b _ hjc;have jP:=A3 (HBe.out y1);have nQ:=A3 (show C4 y1.w gw [.int .i64 a,.int .i64 t]from Al6 I9.out.2 (E6 (A7.self _)) (G9 (A7.self _)) (fun o=>I3 (A7.self _) o));have e5:∀y:A7 y1.w,y.w.cell? ⟨bx,5,none⟩=some (.int .i64 (b:Int)):=fun y=>(jP.out.since y).c 5 _ rfl;have Hj:=A3 hj;have HK:=A3 (show B7 (K9 p bi gg gs vr vp R) w y1.w from by obtain⟨y,e⟩:=Hup.out y1;rw[e];exact B7.of y);have HN1:=A3 (Hh0.out.notS (b:=bx) Hbx.out.1);have HN2:=A3 (Hh0.out.notS (b:=gw) (by have h1:=Hbx.out;have h2:=I9.out;omega));clear hj hjc E6 G9 I3 I9 Hbx Hup HBe;obtain⟨z0,hq0⟩:=A7.refl y1.w;rw[hq0];clear hq0;refine L5 (by kernel_rfl) (by kernel_rfl) ?_;repeat(go_big_quiet_step(fail))
 refine wpQuiet_nil ?_;rintro _ ⟨z,rfl⟩;clear g2 gj e5;replace Hh:=A3 (Hh.out.to ⟨z,rfl⟩);have W5:=A3 (jP.out.to ⟨z,rfl⟩);have fJ:=A3 (nQ.out.to ⟨z,rfl⟩);have HK2:=A3 (HK.out.to ⟨z,rfl⟩);have HX2:=A3 (Hh0.out.since HX.out HK2.out);clear jP nQ HK;generalize z.w=w2 at *;have hkc:kd=1∨kd=2∨kd=3∨kd=4∨kd=5∨kd=6∨kd=7∨kd=8∨kd=9:=by have h1:1≤kd:=hkk.1;have h2:kd≤9:=hkk.2;omega
 clear hkk;have HPl:=A3 (fun(w':World) (o:Ending) (s':D7) (hs:V7 s ⟨d,q,a,t,kd,(b:Int),pl,r,i⟩=s') (hp:aK w2 wB.heap.size p bi gg gs vr vp R s' o w')=>show PO o w' from by
  obtain⟨rfl,vr',vp',R',h1,h2,h3⟩:=hp;exact HP.out w' vr' vp' R' (by rw[hs];exact h1) (HK2.out.step h2) (fun x hx=>by
   rcases h3 x hx with h'|h'
   ·exact .inl h'
   ·exact .inr (Nat.le_trans HK2.out.size h')))
 have Hlen:=A3 (show s.rs.length=R.length by rw[←Hh0.out.br,List.length_map]);have c4:w2.cell? ⟨bx,4,none⟩=some (.int .i64 kd):=W5.out.c 4 _ rfl;have c0:w2.cell? ⟨bx,0,none⟩=some (.int .i64 d):=W5.out.c 0 _ rfl;have c1:w2.cell? ⟨bx,1,none⟩=some (.int .i64 q):=W5.out.c 1 _ rfl;have c2:w2.cell? ⟨bx,2,none⟩=some (.int .i64 a):=W5.out.c 2 _ rfl;have c3:w2.cell? ⟨bx,3,none⟩=some (.int .i64 t):=W5.out.c 3 _ rfl;have c5:w2.cell? ⟨bx,5,none⟩=some (.int .i64 (b:Int)):=W5.out.c 5 _ rfl;have c6:w2.cell? ⟨bx,6,none⟩=some (.int .i64 pl):=W5.out.c 6 _ rfl;have c7:w2.cell? ⟨bx,7,none⟩=some (.int .i64 r):=W5.out.c 7 _ rfl;have c8:w2.cell? ⟨bx,8,none⟩=some (.int .i64 i):=W5.out.c 8 _ rfl;have v0:w2.cell? ⟨gw,0,none⟩=some (.int .i64 a):=fJ.out.c 0 _ rfl;have v1:w2.cell? ⟨gw,1,none⟩=some (.int .i64 t):=fJ.out.c 1 _ rfl;rcases hkc with rfl|rfl|rfl|rfl|rfl|rfl|rfl|rfl|rfl
 ·have hL:=vV w2 wB.heap.size p bi gg gs vr vp R s Hh.out b Hbs.out Hbr.out (by rw[HF.out.n3,Hlen.out]) (by have h1:=HF.out.k0;rw[Hlen.out]at h1;exact h1) (fun h=>(HF.out.k1 h).1) ⟨1,pl,0,false⟩ a t
  go_wp2_with(go_at_call 79;(with_reducible refine hL.mono ?_);clear hL;intro o w3 hp;have hr:=HPl.out w3 o _ rfl hp;have ho:=hp.1;subst ho);refine M7 (v:=.tuple #[]) (by simp[results,Tryz.results31,go_sem]) rfl ?_;exact hr
 ·have hL:=vV w2 wB.heap.size p bi gg gs vr vp R s Hh.out b Hbs.out Hbr.out (by rw[HF.out.n3,Hlen.out]) (by have h1:=HF.out.k0;rw[Hlen.out]at h1;exact h1) (fun h=>(HF.out.k1 h).1) ⟨2,pl,0,false⟩ a t
  go_wp2_with(go_at_call 79;(with_reducible refine hL.mono ?_);clear hL;intro o w3 hp;have hr:=HPl.out w3 o _ rfl hp;have ho:=hp.1;subst ho);refine M7 (v:=.tuple #[]) (by simp[results,Tryz.results31,go_sem]) rfl ?_;exact hr
 ·have hnew:=HF.out.s3 rfl
  have hL:=Bc1 wB w2 HX2.out p bi gg gs vr vp R s Hh.out d q a t 3 b pl r i Hbs.out Hbr.out (by rw[HF.out.n3,Hlen.out]) hnew hlr;go_wp2_with(go_at_call 76;(with_reducible refine hL.mono ?_);clear hL;intro o w3 hp;have hr:=HPl.out w3 o _ rfl hp;have ho:=hp.1;subst ho);refine M7 (v:=.tuple #[]) (by simp[results,Tryz.results31,go_sem]) rfl ?_;exact hr
 ·obtain⟨k,init,lg,fo,h1,h2,h3,h4,h5,h6⟩:=HF.out.s4 rfl
  have hL:=Bc7 wB w2 HX2.out p bi gg gs vr vp R s Hh.out d q a t 4 b pl r i Hbs.out Hbr.out k h1 (by rw[←Hlen.out];exact h2) init lg h3 fo h4 (by rw[HF.out.n2];exact h5) (by rw[HF.out.n1];exact h5) (by omega);go_wp2_with(go_at_call 77;(with_reducible refine hL.mono ?_);clear hL;intro o w3 hp;have hr:=HPl.out w3 o _ rfl hp;have ho:=hp.1;subst ho);refine M7 (v:=.tuple #[]) (by simp[results,Tryz.results31,go_sem]) rfl ?_;exact hr
 ·by_cases hneg:j<0
  ·have hr:=HPl.out w2 (.returned (.tuple #[])) s (by show(if B0 s.rg (b:Int).toNat<0 then s else _)=s;rw[Int.toNat_natCast,Hj.out,if_pos hneg]) ⟨rfl,vr,vp,R,Hh.out,B7.refl _ _,fun x hx=>.inl hx⟩
   go_wp2_with fail;refine M7 (v:=.tuple #[]) (by simp[results,Tryz.results31,go_sem]) rfl ?_;exact hr
  ·obtain⟨k,rfl⟩:∃k:Nat,j=(k:Int):=⟨j.toNat,by omega⟩
   have hkR:k<R.length:=by have h1:=HF.out.k0;rw[Hj.out,Hlen.out]at h1;omega
   obtain⟨r1,hr1⟩:∃r,R[k]? =some r:=⟨_,A4 hkR⟩
   obtain⟨gr,cr,rfl,_,_⟩:=eQ Hh.out.rr (by omega);have hpl:r1.pauses.length≤N:=by
    have h1:=(HF.out.k1 (by rw[Hj.out];omega)).2;rw[Hj.out,Int.toNat_natCast,kV Hh0.out.br hr1]at h1;exact h1
   have Hr1:=A3 hr1;have hk0:(0:Int)≤(k:Int):=by omega
   have hkl:(k:Int)<(R.length:Int):=by omega
   have hgr:gr∉K3 r1:=fun hb=>(Hh.out.ap.r k r1 hr1).2 gr hb (by simp[D6,V3]);have hrow:=(Hh.out.rm r1 (A0 hr1)).p;have HkR:=A3 hkR;clear hr1 hkR;go_upto_region 10 with fail;clear c4 c0 c1 c2 c3 c5 c6 c7 c8 v0 v1;have hpv:some p≠r1.pv.ownBlock:=fun e=>(Hh.out.ap.r k r1 Hr1.out).2 p (List.mem_append_right _ (O2.2 e.symm)) (by simp[D6]);have hwv:some gw≠r1.pv.ownBlock:=fun e=>HN2.out (.inr ⟨r1,A0 Hr1.out,List.mem_append_right _ (O2.2 e.symm)⟩);have hgv:some gr≠r1.pv.ownBlock:=fun e=>hgr (List.mem_append_right _ (O2.2 e.symm));have HSf:=A3 (fun(w':World) (h1:C4 w' p [.slice (some ⟨gr,0,none⟩) R.length cr,.map (some bi),.slice (some ⟨gg,0,none⟩) s.rg.length s.rg.length,vp,.slice (some ⟨gs,0,none⟩) s.sp.length s.sp.length]) (h2:w'.ownsRow wB.heap.size 40 13 (.slice (some ⟨gr,0,none⟩) R.length cr) R.length (B4 A9.cs R)) (h3:C4 w' gw [.int .i64 a,.int .i64 t])=>
    show w'.cell? ⟨p,0,none⟩=some (.slice (some ⟨gr,0,none⟩) R.length cr)∧w'.cell? ⟨gr,k*13+8,none⟩=some (.slice r1.pa r1.pauses.length r1.pc)∧w'.cell? ⟨gw,0,none⟩=some (.int .i64 a)∧w'.cell? ⟨gw,1,none⟩=some (.int .i64 t)from⟨h1.c 0 _ rfl,(P6 h2 (H7 A9.len R k r1 8 _ Hr1.out rfl)).1 (A7.self w'),h3.c 0 _ rfl,h3.c 1 _ rfl⟩)
   have dQ:=A3 (fun(w':World) (hw:A8 w2 w')=>HSf.out w' (Hh.out.st.to hw) (J8 Hh.out.rr hw) (fJ.out.to hw));refine R7 (fun w'=>w'.cell? ⟨p,0,none⟩=some (.slice (some ⟨gr,0,none⟩) R.length cr)∧w'.cell? ⟨gr,k*13+8,none⟩=some (.slice r1.pa r1.pauses.length r1.pc)∧w'.cell? ⟨gw,0,none⟩=some (.int .i64 a)∧w'.cell? ⟨gw,1,none⟩=some (.int .i64 t)) 19 (by kernel_rfl) (dQ.out _ (A8.drew' (A8.self _))) (fun hS=>?_);iterate 15
    refine J4 0 ?_ rfl rfl (by kernel_rfl) hS (fun _ _ _ h=>h) ?_ ?_
    rotate_left
    ·(intro w h;(try dsimp only at h);go_split_ands;go_simp;try with_reducible rfl)
    (try simp only[Act.put,B9])
   refine I0 15 (by kernel_rfl) rfl fun K hK=>?_;go_simp;refine E5 hK (dQ.out _ (A8.drew' (A8.alloc (A8.self _) _))) ?_;clear hK K hS;intro hS;(try simp only[Act.put,B9])
   have hYs:A8 w2 ((w2.alloc (.cells (⟨a,t,0,0⟩:I2).cs.toArray 44)).drew):=A8.drew' (A8.alloc (A8.self _) _);have hYw:A8 wB ((w2.alloc (.cells (⟨a,t,0,0⟩:I2).cs.toArray 44)).drew):=by obtain⟨y,e⟩:=HX2.out;exact A8.trans ⟨y,e⟩ hYs
   have hY0:((w2.alloc (.cells (⟨a,t,0,0⟩:I2).cs.toArray 44)).drew).heap[w2.heap.size]? =some (.cells (⟨a,t,0,0⟩:I2).cs.toArray 44):=by
    rw[mV,kT,if_pos rfl]
   have dR:((w2.alloc (.cells (⟨a,t,0,0⟩:I2).cs.toArray 44)).drew).heap.size=w2.heap.size+1:=by
    show(w2.alloc _).heap.size= _;simp
   have hcY:∀j v,(⟨a,t,0,0⟩:I2).cs[j]? =some v→((w2.alloc (.cells (⟨a,t,0,0⟩:I2).cs.toArray 44)).drew).cell? ((⟨w2.heap.size,0,none⟩:Addr).add j)=some v:=fun j v hv=>by
    rw[Addr.add_lit];simp only[World.cell?,hY0,Nat.zero_add];simpa using hv
   have hoY:=J8 hrow hYs;have hbY:=hYw.size;have HpY:=Hh.out.st.to hYs;have HsY:=fJ.out.to hYs;have hrY:=J8 Hh.out.rr hYs;have hgv':∀x,(Value.slice (some ⟨gr,0,none⟩) R.length cr).ownBlock=some x→some x≠r1.pv.ownBlock:=fun x hx=>by
    have e1:gr=x:=by simpa[Value.ownBlock]using hx
    rw[←e1];exact hgv
   refine I0 16 (by kernel_rfl) rfl fun K hK=>?_;(refine M8 (w0:=wB) (k:=4) hYw rfl _ _ 38 rfl wB.heap.size (Nat.le_refl _) hbY 44 (.agg #[.int .i64 0,.int .i64 0,.int .i64 0,.int .i64 0]) 32 Am2 r1.pv r1.pauses.length (B4 I2.cs r1.pauses) rfl hoY ⟨w2.heap.size,0,none⟩ 1 1 (⟨a,t,0,0⟩:I2).cs rfl rfl hcY (Al9 _) (by decide) (by unfold maxLen;omega) (by omega) ?_;intro v2 q2 hown2 hg2 hl2;obtain⟨a2,n2,c2,rfl⟩:=I4 hown2)
   refine E5 hK (HSf.out _ (HpY.grown hg2 hpv) (lM hrY hg2 hgv') (HsY.grown hg2 hwv)) ?_;clear hK K hS;intro hS;(try simp only[Act.put,B9])
   have jU:=lM hrY hg2 hgv';have k8:=(P6 jU (H7 A9.len R k r1 8 (.slice r1.pa r1.pauses.length r1.pc) Hr1.out rfl)).1 (A7.self q2.w);have kf8:=(P6 jU (H7 A9.len R k r1 8 (.slice r1.pa r1.pauses.length r1.pc) Hr1.out rfl)).2.1 (A7.self q2.w);rw[show(A7.self q2.w).w=q2.w from rfl]at k8 kf8;iterate 2
    refine J4 17 ?_ rfl rfl (by kernel_rfl) hS (fun _ _ _ h=>h) ?_ ?_
    rotate_left
    ·(intro w h;(try dsimp only at h);go_split_ands;go_simp;try with_reducible rfl)
    (try simp only[Act.put,B9])
   refine I0 19 (by kernel_rfl) rfl fun K hK=>?_;go_simp;refine M9 hK (by kernel_rfl) ?_;clear hK K;(try clear hS)
   (try simp only[Act.put,B9])
   have hn2:n2=r1.pauses.length+1:=by
    obtain⟨_,⟨e2,e3⟩|⟨_,_,_,e2,_⟩⟩:=hown2
    ·omega
    ·simp only[Value.slice.injEq]at e2;exact e2.2.1
   subst hn2;have hLn:r1.pauses.length+1=(r1.pauses ++ [(⟨a,t,0,0⟩:I2)]).length:=by rw[List.length_append];rfl
   obtain⟨hM3,hK3,hF3⟩:=Hh.out.newPses (w':=q2.w) (L:=r1.pauses ++ [(⟨a,t,0,0⟩:I2)]) (a2:=a2) (n2:=r1.pauses.length+1) (c2:=c2) Hr1.out hLn ((B7.to (B7.refl _ w2) hYs).step ⟨hg2.os,hg2.tape,hg2.output,hg2.size,fun j hj hn=>hg2.block j hj (fun e=>hn (by rw[O2];exact e.symm))⟩) (by rw[U6,Y1];exact hown2) (fun x hx=>by
    rcases hl2 x (O2.1 hx)with h'|h'
    ·left;rw[O2];exact h'
    ·right;have h'':x=w2.heap.size+1:=h'.trans dR;omega)
   have HM3:=A3 hM3;have HK3:=A3 hK3;have HF3:=A3 hF3;clear k8 kf8 hM3 hK3 hF3 jU hl2 hg2 hown2 hLn hYs hYw hY0 dR hcY hoY hbY HpY HsY hrY hgv' hgv hwv hpv dQ HSf hrow;go_upto_region 11 with fail;generalize q2.w.setCell ⟨gr,k*13+8,none⟩ (.slice a2 (r1.pauses.length+1) c2)=w3 at *;obtain⟨gp,cp,hvp,_,_⟩:=eQ HM3.out.pz (by show 0<s.pz.length;have h1:=HF.out.n3;have h2:=Hlen.out;have h3:=HkR.out;omega);have hkp:k<s.pz.length:=by have h1:=HF.out.n3;have h2:=Hlen.out;have h3:=HkR.out;omega
   have k3:w3.cell? ⟨p,3,none⟩=some (.slice (some ⟨gp,0,none⟩) s.pz.length cp):=by have h1:=HM3.out.st.c 3 _ rfl;rw[hvp]at h1;exact h1
   have hzc:(s.pz.map Value.bool)[k]? =some (.bool s.pz[k]):=by rw[List.getElem?_map,A4 hkp];rfl
   have yJ:w3.ownsRow wB.heap.size 4 1 (.slice (some ⟨gp,0,none⟩) s.pz.length cp) s.pz.length (s.pz.map .bool):=by have h1:=HM3.out.pz;rw[hvp]at h1;exact h1
   have z0:=(P6 yJ hzc).1 (A7.self w3);have zf:=(P6 yJ hzc).2.1 (A7.self w3);rw[show(A7.self w3).w=w3 from rfl]at z0 zf;obtain⟨hM4,hK4⟩:=HM3.out.setPz hvp (k:=k) hkp true;have HE:=A3 (show V7 s ⟨d,q,a,t,5,(b:Int),pl,r,i⟩={s with rs:=s.rs.set k {r1 with pauses:=r1.pauses ++ [(⟨a,t,0,0⟩:I2)],pa:=a2,pc:=c2}.br,pz:=s.pz.set k true}from by
    show(if B0 s.rg (b:Int).toNat<0 then s else{(s.setR (B0 s.rg (b:Int).toNat).toNat fun r=>{r with pauses:=r.pauses ++ [⟨a,t,0,0⟩]})with pz:=s.pz.set (B0 s.rg (b:Int).toNat).toNat true})= _;rw[Int.toNat_natCast,Hj.out,if_neg hneg,Int.toNat_natCast];unfold D7.setR;rw[kV Hh0.out.br Hr1.out];rfl)
   have hgp:gp∈ob vp:=by rw[hvp,V3];simp
   have hr:=HPl.out _ (.returned (.tuple #[])) _ HE.out ⟨rfl,_,_,_,hM4,HK3.out.trans hK4 (fun x e=>.inl (.inl (by have e2:x=gp:=e;rw[e2];simp[D6,hgp]))),HF3.out⟩;clear hM4 hK4 hzc yJ hvp;go_wp2_with fail;refine M7 (v:=.tuple #[]) (by simp[results,Tryz.results31,go_sem]) rfl ?_;exact hr
 ·by_cases hneg:j<0
  ·have hr:=HPl.out w2 (.returned (.tuple #[])) s (by show(if B0 s.rg (b:Int).toNat<0 then s else _)=s;rw[Int.toNat_natCast,Hj.out,if_pos hneg]) ⟨rfl,vr,vp,R,Hh.out,B7.refl _ _,fun x hx=>.inl hx⟩
   go_wp2_with fail;refine M7 (v:=.tuple #[]) (by simp[results,Tryz.results31,go_sem]) rfl ?_;exact hr
  ·obtain⟨k,rfl⟩:∃k:Nat,j=(k:Int):=⟨j.toNat,by omega⟩
   have hL:=Ak5 w2 wB.heap.size p bi gg gs vr vp R s Hh.out k (by have h1:=HF.out.k0;rw[Hj.out,Hlen.out]at h1;omega) (by rw[HF.out.n3,Hlen.out]) a t;have HE:=A3 (show V7 s ⟨d,q,a,t,6,(b:Int),pl,r,i⟩=V2 s k a t from by show(if B0 s.rg (b:Int).toNat<0 then s else V2 s (B0 s.rg (b:Int).toNat).toNat a t)= _;rw[Int.toNat_natCast,Hj.out,if_neg hneg,Int.toNat_natCast]);go_wp2_with(go_at_call 78;(with_reducible refine hL.mono ?_);clear hL;intro o w3 hp;have hr:=HPl.out w3 o _ HE.out hp;have ho:=hp.1;subst ho);refine M7 (v:=.tuple #[]) (by simp[results,Tryz.results31,go_sem]) rfl ?_;exact hr
 ·have hr:=HPl.out w2 (.returned (.tuple #[])) s rfl ⟨rfl,vr,vp,R,Hh.out,B7.refl _ _,fun x hx=>.inl hx⟩
  go_wp2_with fail;refine M7 (v:=.tuple #[]) (by simp[results,Tryz.results31,go_sem]) rfl ?_;exact hr
 ·have hr:=HPl.out w2 (.returned (.tuple #[])) s rfl ⟨rfl,vr,vp,R,Hh.out,B7.refl _ _,fun x hx=>.inl hx⟩
  go_wp2_with fail;refine M7 (v:=.tuple #[]) (by simp[results,Tryz.results31,go_sem]) rfl ?_;exact hr
 ·have hL:=vV w2 wB.heap.size p bi gg gs vr vp R s Hh.out b Hbs.out Hbr.out (by rw[HF.out.n3,Hlen.out]) (by have h1:=HF.out.k0;rw[Hlen.out]at h1;exact h1) (fun h=>(HF.out.k1 h).1) ⟨6,0,0,false⟩ a t
  go_wp2_with(go_at_call 79;(with_reducible refine hL.mono ?_);clear hL;intro o w3 hp;have hr:=HPl.out w3 o _ rfl hp;have ho:=hp.1;subst ho);refine M7 (v:=.tuple #[]) (by simp[results,Tryz.results31,go_sem]) rfl ?_;exact hr
end
section
open Go.RowKit Go.ChangeMaps
def qQ (w:World) (f:G4) (L:List Ev) (o:Ending) (w':World):Prop:=
 ∃(v:Value) (y:A7 w),o= .returned (.tuple #[v,.int .i64 (K5 f)])∧w'=y.w∧((K5 f≠0∧v= .slice none 0 0)∨(K5 f=0∧∃R:List A9,y.w.ownsRow w.heap.size 40 13 v R.length (B4 A9.cs R)∧(∀r∈R,P5 y.w w.heap.size r)∧R.map A9.br=bG (dL f L)))
theorem jI {w:World} {B B':Nat} {e:TypeId} {k:Nat} {v:Value} {n:Nat} {xs:List Value} (h:w.ownsRow B e k v n xs) (hb:B'≤B):w.ownsRow B' e k v n xs:=by
 obtain⟨hl,h|⟨g,cap,cur,rfl,hg,r⟩⟩:=h
 ·exact⟨hl,.inl h⟩
 ·exact⟨hl,.inr ⟨g,cap,cur,rfl,Nat.le_trans hb hg,r⟩⟩
theorem P5.down {w:World} {B B':Nat} {r:A9} (h:P5 w B r) (hb:B'≤B):P5 w B' r:=⟨jI h.l hb,jI h.p hb⟩
theorem Bc9:M6 Tryz.prog 22 3 (.int .i64 0) 1 8:=M6.mk' (by kernel_rfl) (by kernel_rfl) rfl (by decide)
theorem Bd0 (w:World) (x:A7 w) (f:G4) (da ta:Option Addr) (dc tc:Nat) (hf:i5 w f da ta) (a:Option Addr) (l:List Ev) (cl:Nat) (h:D0 Ev.cs 9 w a l) (hl:l.length≤40) (hI:∀e∈l,U0 e.p):
 Calls Tryz.prog 8 #[.agg #[.int .i64 f.bk,.int .i64 f.rd,.int .i64 f.dv,.slice da f.dk.length dc,.slice ta f.tk.length tc],.slice a l.length cl] x.w (qQ w f (P9 l)):=by
 have HP:=A3 (fun(v:Value) (y:A7 w) (h:(K5 f≠0∧v= .slice none 0 0)∨(K5 f=0∧∃R:List A9,y.w.ownsRow w.heap.size 40 13 v R.length (B4 A9.cs R)∧(∀r∈R,P5 y.w w.heap.size r)∧R.map A9.br=bG (dL f (P9 l))))=>show qQ w f (P9 l) (.returned (.tuple #[v,.int .i64 (K5 f)])) y.w from⟨v,y,rfl,rfl,h⟩);generalize qQ w f (P9 l)=PO at *;have HC:=A3 (fun(W:World) (hW:∃z:A7 w,W=z.w) (y:A7 W)=>Bb7 W y f da ta dc tc (hf.to hW) a l cl (h.to hW) (by omega) hI);have HL:=A3 (AY3 l);have HL2:=A3 (show(P9 l).length≤40 from Nat.le_trans (vR l) hl);clear hf h hI hl;generalize P9 l=L at *;go_enter Tryz.func8,Tryz.ntmps8;go_upto_region 1 with fail;obtain⟨W,bx,y0,hW,hbx,-,B8,Hup,Hbx,HB0⟩:=K7 x [.int .i64 f.bk,.int .i64 f.rd,.int .i64 f.dv,.slice da f.dk.length dc,.slice ta f.tk.length tc] 24;rw[hW,hbx];clear hW hbx;obtain⟨D9,E7,F9,G0,G8,hf0⟩:=V5 HB0;clear HB0;have HC1:=A3 (HC.out W B8 y0);clear B8 HC;by_cases h0:K5 f=0
 ·have HC2:=A3 (HC1.out.mono fun o w' (h:nA W f L o w')=>show∃(v:Value) (y:A7 W),o= .returned (.tuple #[v,.int .i64 0])∧w'=y.w∧y.w.ownsRow W.heap.size 63 9 v (O4 f (P4 f.bk.toNat) L).length (B4 Ev.cs (O4 f (P4 f.bk.toNat) L))from by
   obtain⟨v,y,rfl,rfl,⟨hb,_⟩|⟨_,hb⟩⟩:=h
   ·exact absurd h0 hb
   ·exact⟨v,y,by rw[h0],rfl,hb⟩)
  rw[h0]at HP;have H0:=A3 h0;clear HC1 h0;obtain⟨m,hm,oG⟩:∃m:Nat,f.bk=(m:Int)∧m≤128:=by
   have:=Ai2 H0.out;exact⟨f.bk.toNat,by omega,by omega⟩
  have Hm:=A3 (show f.bk.toNat=m by omega);have HR:=A3 (show dL f L=((O4 f (P4 m) L).foldl V7 (Q3 m)).rs from by rw[←Hm.out];rfl);rw[Hm.out]at HC2;have HT:=A3 (Ba4 (f:=f) (n:=m) HL.out (by have:=HL2.out;omega));have HA:=A3 (Ai8 f L);have HD:=A3 (AT7 (f:=f) HL.out (by have:=HL2.out;omega));have HAl:=A3 (show(O4 f (P4 m) L).length≤40 from Nat.le_trans (vA f L _).length_le HL2.out);rw[HR.out]at HA HD HP;generalize O4 f (P4 m) L=A at *;rw[hm]at D9 HC2;have Hmf:=A3 Hm.out.symm;clear HL HR hm Hm H0;have Ay4:=fun q:World=>sM Bc9 rfl m (by omega) (by omega) q;have hmk:=fun(w':World)=>zW (enc:=D8.cs) Ak2 D8.len ⟨0,0,0,false⟩ rfl m (by omega) (by omega) w';have hmm:=@run_makeMap Tryz.prog;go_upto_region 4 with(go_at_call 30;(with_reducible refine HC2.out.mono ?_);rintro _ _ ⟨v1,y1,rfl,rfl,hown⟩;obtain⟨a1,n1,c1,rfl⟩:=I4 hown;have HO:=A3 hown;clear hown)
  clear HC2;have e0:=fun(w':World) (h:A8 y1.w w')=>A8.cell (W:=W) D9 (A8.trans ⟨y1,rfl⟩ h);have e1:=fun(w':World) (h:A8 y1.w w')=>A8.cell (W:=W) E7 (A8.trans ⟨y1,rfl⟩ h);have e2:=fun(w':World) (h:A8 y1.w w')=>A8.cell (W:=W) F9 (A8.trans ⟨y1,rfl⟩ h);have e3:=fun(w':World) (h:A8 y1.w w')=>A8.cell (W:=W) G0 (A8.trans ⟨y1,rfl⟩ h);have e4:=fun(w':World) (h:A8 y1.w w')=>A8.cell (W:=W) G8 (A8.trans ⟨y1,rfl⟩ h);have HWb:=A3 (Hup.out y1);clear D9 E7 F9 G0 G8 hf0;generalize y1.w=wB at *;go_cut [8] (fun s8 wr=>∃(p bi gg gs:Nat),s8= .pointer (some ⟨p,0,none⟩)∧A8 wB wr∧I8 wr wB.heap.size p bi gg gs (.slice none 0 0) (.slice none 0 0) [] {Q3 m with rg:=List.replicate m 0})
  case first=>
   go_region_held3 (fun w'=>A8 wB w') (first|assumption|exact A8.drew' (A8.self _)|exact A8.alloc (by assumption) _|exact A8.drew' (A8.alloc (by assumption) _)) (fail);all_goals
    go_wp2_with fail;go_meet;clear Ay4 hmk hmm;first
     |(exact kX (wB.heap.size+1+1+1) (wB.heap.size) (wB.heap.size+1) (wB.heap.size+1+1) (M1 _ _ _ _ _).2.2.2 (M1 _ _ _ _ _).1 (M1 _ _ _ _ _).2.1 (M1 _ _ _ _ _).2.2.1 (A8.drew' (A8.alloc (A8.alloc (A8.alloc (A8.alloc (A8.self _) _) _) _) _)) ⟨by simp<;>omega,by simp;omega⟩)
     |(exact kX (wB.heap.size+1+1+1) (wB.heap.size) (wB.heap.size+1+1) (wB.heap.size+1) (M1 _ _ _ _ _).2.2.2 (M1 _ _ _ _ _).1 (M1 _ _ _ _ _).2.2.1 (M1 _ _ _ _ _).2.1 (A8.drew' (A8.alloc (A8.alloc (A8.alloc (A8.alloc (A8.self _) _) _) _) _)) ⟨by simp<;>omega,by simp;omega⟩)
     |(exact kX (wB.heap.size+1+1+1) (wB.heap.size+1) (wB.heap.size) (wB.heap.size+1+1) (M1 _ _ _ _ _).2.2.2 (M1 _ _ _ _ _).2.1 (M1 _ _ _ _ _).1 (M1 _ _ _ _ _).2.2.1 (A8.drew' (A8.alloc (A8.alloc (A8.alloc (A8.alloc (A8.self _) _) _) _) _)) ⟨by simp<;>omega,by simp;omega⟩)
     |(exact kX (wB.heap.size+1+1+1) (wB.heap.size+1) (wB.heap.size+1+1) (wB.heap.size) (M1 _ _ _ _ _).2.2.2 (M1 _ _ _ _ _).2.1 (M1 _ _ _ _ _).2.2.1 (M1 _ _ _ _ _).1 (A8.drew' (A8.alloc (A8.alloc (A8.alloc (A8.alloc (A8.self _) _) _) _) _)) ⟨by simp<;>omega,by simp;omega⟩)
     |(exact kX (wB.heap.size+1+1+1) (wB.heap.size+1+1) (wB.heap.size) (wB.heap.size+1) (M1 _ _ _ _ _).2.2.2 (M1 _ _ _ _ _).2.2.1 (M1 _ _ _ _ _).1 (M1 _ _ _ _ _).2.1 (A8.drew' (A8.alloc (A8.alloc (A8.alloc (A8.alloc (A8.self _) _) _) _) _)) ⟨by simp<;>omega,by simp;omega⟩)
     |(exact kX (wB.heap.size+1+1+1) (wB.heap.size+1+1) (wB.heap.size+1) (wB.heap.size) (M1 _ _ _ _ _).2.2.2 (M1 _ _ _ _ _).2.2.1 (M1 _ _ _ _ _).2.1 (M1 _ _ _ _ _).1 (A8.drew' (A8.alloc (A8.alloc (A8.alloc (A8.alloc (A8.self _) _) _) _) _)) ⟨by simp<;>omega,by simp;omega⟩)
  case rest=>
   clear Ay4 hmk hmm e0 e1 e2 e3 e4;obtain⟨p,bi,gg,gs,rfl,hst,hM⟩:=hcut;have HM:=A3 hM;obtain⟨y1,rfl⟩:=hst;clear hM;have k2:y1.w.cell? ⟨p,2,none⟩=some (.slice (some ⟨gg,0,none⟩) m m):=by have h:=HM.out.st.c 2 _ rfl;simpa using h
   go_wp2_with fail;clear k2;go_loopw [35] (fun s wr=>∃(k:Nat) (y:A7 wB),k≤m∧s= .int .i64 k∧wr=y.w∧I8 y.w wB.heap.size p bi gg gs (.slice none 0 0) (.slice none 0 0) [] {Q3 m with rg:=List.replicate k (-1) ++ List.replicate (m-k) 0}) (fun s _ =>m-(intOf s).toNat)
   case atStart=>exact⟨0,y1,by omega,rfl,rfl,by simpa using HM.out⟩
   case round=>
    clear HM;obtain⟨k,y,hk,rfl,rfl,hM⟩:=hrel;have HM:=A3 hM;clear hM;by_cases hlt:k<m
    ·have hk0:(0:Int)≤(k:Int):=by omega
     have hkl:(k:Int)<(m:Int):=by omega
     have hlen:(List.replicate k (-1:Int) ++ List.replicate (m-k) 0).length=m:=by simp;omega
     have hu:((List.replicate k (-1:Int) ++ List.replicate (m-k) 0).map (Value.int .i64))[k]? =some (.int .i64 0):=by
      rw[List.getElem?_map,List.getElem?_append_right (by simp),List.length_replicate,Nat.sub_self,List.getElem?_replicate,if_pos (by omega)];rfl
     have k2:y.w.cell? ⟨p,2,none⟩=some (.slice (some ⟨gg,0,none⟩) m m):=by have h:=HM.out.st.c 2 _ rfl;rw[show({Q3 m with rg:=List.replicate k (-1) ++ List.replicate (m-k) 0}:D7).rg.length=m from hlen]at h;exact h
     have q0:y.w.cell? ⟨gg,k,none⟩=some (.int .i64 0):=HM.out.rg.c _ _ hu;have qf:∀o,y.w.frozen? ⟨gg,o,none⟩=false:=fun o=>HM.out.rg.f o;have hP:=(HM.out.setRg (b:=k) (by rw[hlen];exact hlt) (-1)).1;obtain⟨y2,h2⟩:=y.set ⟨gg,k,none⟩ HM.out.ge.2.2.1 (.int .i64 (-1));rw[h2]at hP;have el:({({Q3 m with rg:=List.replicate k (-1) ++ List.replicate (m-k) 0}:D7)with rg:=(List.replicate k (-1:Int) ++ List.replicate (m-k) 0).set k (-1)}:D7)={Q3 m with rg:=List.replicate (k+1) (-1) ++ List.replicate (m-(k+1)) 0}:=by
      congr 1;rw[List.set_append_right _ _ (by simp),List.length_replicate,Nat.sub_self,show m-k=(m-(k+1))+1 by omega,List.replicate_succ,List.set_cons_zero,List.replicate_succ'];simp
     have HM2:=A3 (show I8 y2.w wB.heap.size p bi gg gs (.slice none 0 0) (.slice none 0 0) [] {Q3 m with rg:=List.replicate (k+1) (-1) ++ List.replicate (m-(k+1)) 0}from el ▸ hP);have H2:=A3 h2;clear hP h2 el hu hlen;go_wp2_with fail;clear k2 q0 qf;go_roundw
     case rel=>exact⟨k+1,y2,by omega,by go_num,H2.out,HM2.out⟩
     case measure=>simp[intOf];omega
    ·obtain rfl:k=m:=by omega
     replace HM:=A3 (show I8 y.w wB.heap.size p bi gg gs (.slice none 0 0) (.slice none 0 0) [] (Q3 k)from by have h:=HM.out;rw[Nat.sub_self,List.replicate_zero,List.append_nil]at h;exact h);clear hlt;go_wp2_with fail;obtain⟨hn1,a2,c2,he2,_,hels,_,_⟩:=O9 b9 (by decide) HO.out;obtain⟨rfl,rfl,rfl⟩:a1=a2∧n1=A.length∧c1=c2:=by simpa using he2
     have HEl:=A3 hels;clear hn1 he2 hels hk;go_loopw [47] (fun i wr=>∃(j:Nat) (y:A7 wB) (s:D7) (vr vp:Value) (R:List A9),j≤A.length∧i= .int .i64 j∧wr=y.w∧I8 y.w wB.heap.size p bi gg gs vr vp R s∧jH f k s (A.drop j)∧s=(A.take j).foldl V7 (Q3 k)) (fun i _ =>A.length-(intOf i).toNat)
     case atStart=>exact⟨0,y,Q3 k,_,_,_,by omega,rfl,rfl,HM.out,HT.out,rfl⟩
     case round=>
      clear HM HT;obtain⟨j,y1,s,vr,vp,R,hj,rfl,rfl,hM,hT,hs⟩:=hrel;have HM:=A3 hM;have HT:=A3 hT;have Hs:=A3 hs;clear hM hT hs;by_cases hlt:j<A.length
      ·have h40:=HAl.out
       obtain⟨e,he⟩:∃e,A[j]? =some e:=⟨_,A4 hlt⟩
       have hd:A.drop j=e :: A.drop (j+1):=by
        rw[List.drop_eq_getElem_cons hlt,(A5 he).2]
       have hlen:=HT.out.len;rw[hd]at HT;obtain⟨b,N,hN,hF,hT2⟩:=HT.out.next Hmf.out
       have Bw9:R.length≤100000:=by
        have h1:s.rs.length=R.length:=by rw[←HM.out.br,List.length_map]
        omega
       have Hs2:=A3 (show V7 s e=(A.take (j+1)).foldl V7 (Q3 k)from by
        rw[List.take_succ_eq_append_getElem hlt,(A5 he).2,List.foldl_append,Hs.out];rfl)
       obtain⟨b1,off1,rfl,hb1,hc⟩:=HEl.out j e he;obtain⟨ed,eq,ea,et,ek,eb,ep,er,ei⟩:=e;obtain rfl:eb=(b:Int):=hF.hb;have HF:=A3 hF;have HT2:=A3 hT2;have ka0:∀y:A7 wB,y.w.cell? ⟨b1,off1+j*9,none⟩=some (.int .i64 ed):=fun y=>A7.cell (hc 0 _ rfl) hb1 y;have ka1:∀y:A7 wB,y.w.cell? ⟨b1,off1+j*9+1,none⟩=some (.int .i64 eq):=fun y=>A7.cell (hc 1 _ rfl) hb1 y;have ka2:∀y:A7 wB,y.w.cell? ⟨b1,off1+j*9+2,none⟩=some (.int .i64 ea):=fun y=>A7.cell (hc 2 _ rfl) hb1 y;have ka3:∀y:A7 wB,y.w.cell? ⟨b1,off1+j*9+3,none⟩=some (.int .i64 et):=fun y=>A7.cell (hc 3 _ rfl) hb1 y;have ka4:∀y:A7 wB,y.w.cell? ⟨b1,off1+j*9+4,none⟩=some (.int .i64 ek):=fun y=>A7.cell (hc 4 _ rfl) hb1 y;have ka5:∀y:A7 wB,y.w.cell? ⟨b1,off1+j*9+5,none⟩=some (.int .i64 (b:Int)):=fun y=>A7.cell (hc 5 _ rfl) hb1 y;have ka6:∀y:A7 wB,y.w.cell? ⟨b1,off1+j*9+6,none⟩=some (.int .i64 ep):=fun y=>A7.cell (hc 6 _ rfl) hb1 y;have ka7:∀y:A7 wB,y.w.cell? ⟨b1,off1+j*9+7,none⟩=some (.int .i64 er):=fun y=>A7.cell (hc 7 _ rfl) hb1 y;have ka8:∀y:A7 wB,y.w.cell? ⟨b1,off1+j*9+8,none⟩=some (.int .i64 ei):=fun y=>A7.cell (hc 8 _ rfl) hb1 y;have hj0:(0:Int)≤(j:Int):=by omega
       have hjl:(j:Int)<(A.length:Int):=by omega
       clear hc hb1 he hd hF hT2 HT hlen Hs;go_upto_region 13 with fail;obtain⟨y2,e2,C9,hsz0,hlt0,HX0⟩:=L8 y1 [.int .i64 ed,.int .i64 eq,.int .i64 ea,.int .i64 et,.int .i64 ek,.int .i64 (b:Int),.int .i64 ep,.int .i64 er,.int .i64 ei] 63;rw[e2];obtain⟨hx0,hx1,hx2,hx3,hx4,hx5,hx6,hx7,hx8,hxf⟩:=zV HX0;replace HM:=A3 (HM.out.to C9);clear e2 C9;generalize y1.w.heap.size=g at *;obtain⟨E6,G9,K1,J5,O8,U5,X9,Z4,Z5,I3⟩:=eT HX0;have I9:=A3 (And.intro hsz0 hlt0);clear hlt0 hsz0 HX0;have hcall:=Bc8 wB y2.w ⟨y2,rfl⟩ p bi gg gs vr vp R s HM.out k N (by omega) Bw9 ed eq ea et ek b ep er ei HF.out;go_wp2_with(go_at_call 31;(with_reducible refine hcall.mono ?_);clear hcall;rintro _ w3 ⟨rfl,vr',vp',R',h1,h2,h3⟩;(have HM2:=A3 h1);(have HY:=A3 (HM.out.since ⟨y2,rfl⟩ h2));clear h1 h2 h3);go_roundw
       case rel=>
        obtain⟨y3,hy3⟩:=HY.out;rw[hy3]at HM2;exact⟨j+1,y3,_,vr',vp',R',by omega,by go_num,hy3,HM2.out,HT2.out,Hs2.out⟩
       case measure=>simp[intOf];omega
      ·obtain rfl:j=A.length:=by omega
       rw[List.take_length]at Hs;have Av7:=A3 (show R.Pairwise fun x y=>x.id≠y.id from by
        have h1:=HD.out;rw[←Hs.out,←HM.out.br,List.pairwise_map]at h1;exact h1)
       have Hlen:=A3 (show R.length≤20 from by
        have h1:=HA.out;rw[←Hs.out,←HM.out.br,List.length_map]at h1;have:=HL2.out;omega)
       have Hbr:=A3 (show(bG R).map A9.br=bG ((A.foldl V7 (Q3 k)).rs)from by rw[Ba5 R Av7.out,HM.out.br,Hs.out]);obtain⟨ar,nr,cr,rfl⟩:=I4 HM.out.rr;have hcall:=Bc5 y1.w wB.heap.size _ _ R HM.out.rr Hlen.out Av7.out;have k0:y1.w.cell? ⟨p,0,none⟩=some (.slice ar nr cr):=HM.out.st.c 0 _ rfl;have Hpn:=A3 (show some p≠(Value.slice ar nr cr).ownBlock from fun e=>by
        have h1:=HM.out.ap.b;unfold D6 at h1;simp only[List.nodup_cons,List.mem_cons,List.mem_append,not_or]at h1;exact h1.1.2.2.2.1 (O2.2 e.symm))
       clear hlt;go_wp2_with(go_at_call 32;(with_reducible refine hcall.mono ?_);clear hcall;rintro _ w4 ⟨rfl,h1,h2⟩;(have HG:=A3 h1);(have HO4:=A3 h2);(have HB4:=A3 (HM.out.st.grown h1 Hpn.out));(have k04:=HB4.out.c 0 _ rfl);clear h1 h2);obtain⟨y4,hy4⟩:=y1.grown HG.out (fun b hb=>aZ HM.out.rr b hb);have HKp:=A3 (show B7 (fun b=>b∈ob (Value.slice ar nr cr)) y1.w w4 from⟨HG.out.os,HG.out.tape,HG.out.output,HG.out.size,fun j hj hn=>HG.out.block j hj (fun e=>hn (O2.2 e.symm))⟩);have Hrm:=A3 (show∀r∈bG R,P5 w4 wB.heap.size r from fun r hr=>by
        obtain⟨i,hi⟩:=List.getElem?_of_mem ((jE R).mem_iff.1 hr);exact(HM.out.rm r (A0 hi)).keepS HKp.out (fun b hb hb2=>(HM.out.ap.r i r hi).2 b hb (by simp[D6,hb2])))
       obtain⟨z,hz⟩:=HWb.out;have Az4:w.heap.size≤wB.heap.size:=by rw[hz];exact z.b.size
       obtain⟨z4,hz4⟩:=A8.trans (a:=w) ⟨z,hz⟩ (show A8 wB w4 from⟨y4,hy4⟩);rw[hz4]at HO4 Hrm⊢;exact HP.out _ z4 (.inr ⟨by first|rfl|trivial,bG R,by rw[(jE R).length_eq];exact jI HO4.out Az4,fun r hr=>(Hrm.out r hr).down Az4,Hbr.out⟩)
 ·have HC2:=A3 (HC1.out.mono fun o w' (h:nA W f L o w')=>show o= .returned (.tuple #[.slice none 0 0,.int .i64 (K5 f)])∧∃y:A7 W,w'=y.w from by
   obtain⟨v,y,rfl,rfl,⟨_,rfl⟩|⟨hb,_⟩⟩:=h
   ·exact⟨rfl,y,rfl⟩
   ·exact absurd hb h0)
  have HR:=A3 (fun y=>HP.out (.slice none 0 0) y (.inl ⟨h0,rfl⟩));have hb0:(K5 f != 0)=true:=by simpa using h0
  clear h0 HC1 HP;generalize K5 f=e at *;go_wp2_with(go_at_call 30;(with_reducible refine HC2.out.mono ?_);rintro _ _ ⟨rfl,y1,rfl⟩);obtain⟨z1,hz1⟩:=Hup.out y1;rw[hz1];exact HR.out z1
end
end Go.Proofs.YtmmlmhnjjfnpnaaGreat
