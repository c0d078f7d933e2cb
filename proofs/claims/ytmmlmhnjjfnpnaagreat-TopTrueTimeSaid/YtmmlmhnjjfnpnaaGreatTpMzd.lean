/- Texts that belong together. -/
import Derived.Test.YtmmlmhnjjfnpnaaGreatTpMzc
import Derived.BigQuiet
set_option linter.all false
namespace Go.Proofs.YtmmlmhnjjfnpnaaGreat
open Go.RowKit Go.ChangeMaps
theorem idx_some {s:Sto} {i:Int} {k:Nat} (h:s.idx i=some k):lkV i (s.ix.map fun x=>(x.1,Value.int .i64 (x.2:Int))) (.int .i64 0)= .int .i64 (k:Int)∧lkB i (s.ix.map fun x=>(x.1,Value.int .i64 (x.2:Int)))=true:=by
 unfold Sto.idx at h;have key:∀(l:List (Int×Nat)) (m:Nat),((l.find? fun x=>decide (x.1=i)).map (·.2))=some k→∃j,lkF i (l.map fun x=>(x.1,Value.int .i64 (x.2:Int))) m=some (j,.int .i64 (k:Int)):=by
  intro l;induction l with
  |nil=>intro m h;simp at h
  |cons x l ih=>
   intro m h
   simp only[List.map_cons,lkF]
   by_cases e:i=x.1
   ·rw[if_pos e]
    rw[List.find?_cons_of_pos (by simp[e])]at h;simp at h;exact⟨m,by rw[h]⟩
   ·rw[if_neg e]
    rw[List.find?_cons_of_neg (by simpa using fun h=>e h.symm)]at h;exact ih (m+1) h
 obtain⟨j,hj⟩:=key s.ix 0 h;unfold lkV lkB;rw[hj];exact⟨rfl,rfl⟩
theorem zeroIn (w:World):(zeroValue 3).run Tryz.prog w= .ok (.int .i64 0) w:=by kernel_rfl
set_option maxRecDepth 100000 in
set_option maxHeartbeats 16000000 in
theorem schange_calls (wB:World) (w:World) (hX:∃y:Since wB,w=y.w) (p bi gg gs:Nat) (vr vp:Value) (R:List Ride) (s:Sto) (h:StoM w wB.heap.size p bi gg gs vr vp R s) (d q a t kd:Int) (b:Nat) (pl r i:Int) (hbs:b<s.sp.length) (hbr:b<s.rg.length) (k:Nat) (hix:s.idx i=some k) (hk:k<R.length) (init:List Leg) (lg:Leg) (hleg:(s.rat k).legs=init ++ [lg]) (fo:Nat) (hfo:lg.b=(fo:Int)) (hfs:fo<s.sp.length) (hfr:fo<s.rg.length) (hll:init.length≤100000):
 Calls Tryz.prog 77 #[.pointer (some ⟨p,0,none⟩),.agg #[.int .i64 d,.int .i64 q,.int .i64 a,.int .i64 t,.int .i64 kd,.int .i64 (b:Int),.int .i64 pl,.int .i64 r,.int .i64 i],.agg #[.int .i64 a,.int .i64 t]] w (StoPost w wB.heap.size p bi gg gs vr vp R (changeS s ⟨d,q,a,t,kd,(b:Int),pl,r,i⟩)):=by
 have HP:=Lib.hid (fun(w':World) (vr' vp':Value) (R':List Ride) (h1:StoM w' wB.heap.size p bi gg gs vr' vp' R' (changeS s ⟨d,q,a,t,kd,(b:Int),pl,r,i⟩)) (h2:KpS (StoS p bi gg gs vr vp R) w w') (h3:∀b,StoS p bi gg gs vr' vp' R' b→StoS p bi gg gs vr vp R b∨w.heap.size≤b)=>show StoPost w wB.heap.size p bi gg gs vr vp R (changeS s ⟨d,q,a,t,kd,(b:Int),pl,r,i⟩) (.returned (.tuple #[])) w' from⟨rfl,vr',vp',R',h1,h2,h3⟩);generalize StoPost w wB.heap.size p bi gg gs vr vp R (changeS s ⟨d,q,a,t,kd,(b:Int),pl,r,i⟩)=PO at *;obtain⟨r0,hr0⟩:∃r,R[k]? =some r:=⟨_,List.getElem?_eq_getElem hk⟩
 obtain⟨gr,cr,rfl,_,_⟩:=own_some h.rr (by omega);have hpq:r0.legs=init ++ [lg]:=by rw[←hleg,rat_at h.br hr0];rfl
 obtain⟨gl,hga,hgc,_⟩:=(h.rm r0 (List.mem_of_getElem? hr0)).leg_at (by rw[hpq];simp);have Hh:=Lib.hid h;have Hh0:=Lib.hid h;have HX:=Lib.hid hX;have Hbs:=Lib.hid hbs;have Hbr:=Lib.hid hbr;have Hr0:=Lib.hid hr0;have Hpq:=Lib.hid hpq;have Hga:=Lib.hid hga;have Hix:=Lib.hid hix;have Hfo:=Lib.hid hfo;have Hfs:=Lib.hid hfs;have Hfr:=Lib.hid hfr;have Hleg:=Lib.hid hleg;have hb0:(0:Int)≤(b:Int):=by omega
 have hbl:(b:Int)<(s.sp.length:Int):=by omega
 have hbl2:(b:Int)<(s.rg.length:Int):=by omega
 have hf0:(0:Int)≤(fo:Int):=by omega
 have hfl:(fo:Int)<(s.sp.length:Int):=by omega
 have hfl2:(fo:Int)<(s.rg.length:Int):=by omega
 have hk0:(0:Int)≤(k:Int):=by omega
 have hkl:(k:Int)<(R.length:Int):=by omega
 obtain⟨x,hx⟩:=Since.refl w;rw[hx];clear hx h hX hbs hbr hr0 hpq hga hgc hix hk hleg hfo hfs hfr;go_enter Tryz.func77,Tryz.ntmps77;go_upto_region 1 with fail;obtain⟨W,bx,y0,hW,hbx,-,hWup,Hup,Hbx,HB0,HB1⟩:=heads2 x ([Value.int .i64 d,.int .i64 q,.int .i64 a,.int .i64 t,.int .i64 kd,.int .i64 (b:Int),.int .i64 pl,.int .i64 r,.int .i64 i]) 63 ([Value.int .i64 a,.int .i64 t]) 36;rw[hW,hbx];clear hW hbx;have hB0:=fun y:Since W=>HB0.since y;have hB1:=fun y:Since W=>HB1.since y;clear HB0 HB1;replace Hh:=Lib.hid (Hh.out.to hWup);have g1:∀y:Since W,y.w.cell? ⟨p,1,none⟩=some (.map (some bi)):=fun y=>(Hh.out.st.since y).c 1 _ rfl;have e8:∀y:Since W,y.w.cell? ⟨bx,8,none⟩=some (.int .i64 i):=fun y=>(hB0 y).c 8 _ rfl;have hlk:∀z:Since W,(Instr.lookup 100 (.map (some bi)) (.int .i64 i) true).run Tryz.prog z.w= .ok (.tuple #[.int .i64 (k:Int),.bool true]) z.w:=fun z=>by
  have h1:=run_look keyI (Hh.out.ix.since z) Tryz.underlying100 (zeroIn _) i true;rw[if_pos rfl,(idx_some Hix.out).1,(idx_some Hix.out).2]at h1;exact h1
 refine wp_region_since (by kernel_rfl) (by kernel_rfl) ?_;repeat(go_big_quiet_step(fail))
 refine wpQuiet_nil ?_;rintro _ ⟨y1,rfl⟩;clear g1 e8 hlk;have HBe:=Lib.hid (hB0 y1);have HBs:=Lib.hid (hB1 y1);replace Hh:=Lib.hid (Hh.out.to ⟨y1,rfl⟩);have HK:=Lib.hid (show KpS (StoS p bi gg gs (.slice (some ⟨gr,0,none⟩) R.length cr) vp R) w y1.w from by obtain⟨y,e⟩:=Hup.out y1;rw[e];exact KpS.of y);have HN1:=Lib.hid (Hh0.out.notS (b:=bx) Hbx.out.1);have HN2:=Lib.hid (Hh0.out.notS (b:=bx+1) (by have:=Hbx.out;omega));clear hB0 hB1 hWup Hup Hbx;generalize bx+1=bw at *;generalize y1.w=w1 at *;obtain⟨M,hM⟩:∃M,init.length=M:=⟨_,rfl⟩
 obtain⟨N,hN⟩:∃N,r0.legs.length=N:=⟨_,rfl⟩
 have hNM:N=M+1:=by rw[←hN,Hpq.out,List.length_append,hM];rfl
 have hNq:r0.legs[M]? =some lg:=by rw[←hM,Hpq.out,List.getElem?_append_right (Nat.le_refl _),Nat.sub_self];rfl
 have hrow:=(Hh.out.rm r0 (List.mem_of_getElem? Hr0.out)).l;unfold Ride.lv at hrow;rw[Hga.out,hN]at hrow;have k0:w1.cell? ⟨p,0,none⟩=some (.slice (some ⟨gr,0,none⟩) R.length cr):=Hh.out.st.c 0 _ rfl;have l7:w1.cell? ⟨gr,k*13+7,none⟩=some (.slice (some ⟨gl,0,none⟩) N r0.lc):=by
  have h1:=(own_cell Hh.out.rr (flat_at Ride.len R k r0 7 (.slice r0.la r0.legs.length r0.lc) Hr0.out rfl)).1 (Since.self w1);rw[Hga.out,hN]at h1;exact h1
 have q3:w1.cell? ⟨gl,M*5+3,none⟩=some (.int .i64 lg.t0):=(own_cell hrow (flat_at Leg.len r0.legs M lg 3 _ hNq rfl)).1 (Since.self w1);have q4:w1.cell? ⟨gl,M*5+4,none⟩=some (.int .i64 lg.t1):=(own_cell hrow (flat_at Leg.len r0.legs M lg 4 _ hNq rfl)).1 (Since.self w1);have f3:w1.frozen? ⟨gl,M*5+3,none⟩=false:=(own_cell hrow (flat_at Leg.len r0.legs M lg 3 _ hNq rfl)).2.1 (Since.self w1);have f4:w1.frozen? ⟨gl,M*5+4,none⟩=false:=(own_cell hrow (flat_at Leg.len r0.legs M lg 4 _ hNq rfl)).2.1 (Since.self w1);have c0:w1.cell? ⟨bw,0,none⟩=some (.int .i64 a):=HBs.out.c 0 _ rfl;have c1:w1.cell? ⟨bw,1,none⟩=some (.int .i64 t):=HBs.out.c 1 _ rfl;obtain⟨hM2,hK2⟩:=Hh.out.endL Hr0.out Hpq.out Hga.out a t;rw[hM]at hM2 hK2;have hN2:(0:Int)≤(M:Int):=by omega
 have hN3:(M:Int)<(N:Int):=by omega
 have hw1:wrap64 ((N:Int)-1)=(M:Int):=by rw[show(N:Int)-1=(M:Int) by omega];exact IntWalk.wrap64_in _ ⟨by omega,by omega⟩
 have HM2:=Lib.hid hM2;have HK2:=Lib.hid hK2;have HNM:=Lib.hid hNM;have HMi:=Lib.hid hM;have HN0:=Lib.hid hN;clear hM hN hNM hNq hrow hM2 hK2;go_upto_region 6 with fail;refine Eq.mp (congrArg (Code.wp _ _ _ _) (show(w1.setCell ⟨gl,M*5+3,none⟩ (.int .i64 a)).setCell ⟨gl,M*5+3+1,none⟩ (.int .i64 t)= _ from rfl)) ?_;have HBe2:=Lib.hid (HBe.out.keepS HK2.out HN1.out);have HBs2:=Lib.hid (HBs.out.keepS HK2.out HN2.out);have HK3:=Lib.hid (HK.out.step HK2.out);clear k0 l7 q3 q4 f3 f4 c0 c1 HBe HBs HK HK2 Hh;generalize(w1.setCell ⟨gl,M*5+3,none⟩ (.int .i64 a)).setCell ⟨gl,M*5+3+1,none⟩ (.int .i64 t)=w2 at *;have HX2:=Lib.hid (Hh0.out.since HX.out HK3.out);obtain⟨r1,hr1⟩:∃r1:Ride,{r0 with legs:=init ++ [lg.to a t]}=r1:=⟨_,rfl⟩
 rw[hr1]at HM2;have Hr1l:=Lib.hid (show r1.legs=init ++ [lg.to a t]from by rw[←hr1]);have Hr1a:=Lib.hid (show r1.la=some ⟨gl,0,none⟩from by rw[←hr1];exact Hga.out);have Hr1b:=Lib.hid (show rblk r1=rblk r0 from by rw[←hr1];exact rblk_legs _ _);have Hr1n:=Lib.hid (show r1.legs.length=N from by
  have h1:=HN0.out;rw[Hpq.out,List.length_append]at h1;rw[Hr1l.out,List.length_append];exact h1)
 have Hr1c:=Lib.hid (show r1.lc=r0.lc from by rw[←hr1]);have Hr1br:=Lib.hid (show∀(L:List Leg),({r1 with legs:=L}:Ride).br={r0.br with legs:=L}from fun L=>by rw[←hr1];rfl);obtain⟨R1,hR1⟩:∃R1,R.set k r1=R1:=⟨_,rfl⟩
 have hl1:R1.length=R.length:=by rw[←hR1,List.length_set]
 have hk1:R1[k]? =some r1:=by rw[←hR1];exact set_get Hr0.out
 have HF2:=Lib.hid (show∀x,StoS p bi gg gs (.slice (some ⟨gr,0,none⟩) R1.length cr) vp R1 x→StoS p bi gg gs (.slice (some ⟨gr,0,none⟩) R.length cr) vp R x from fun x hx=>by
  rw[hl1]at hx;rw[←hR1]at hx;exact hx.set Hr0.out Hr1b.out)
 rw[hR1,←hl1]at HM2;have Hk1:=Lib.hid hk1;have HR1:=Lib.hid hR1;rw[←hl1]at hkl;have Hl1:=Lib.hid hl1;clear hr1 hR1 hl1 hk1;have HN1':=Lib.hid (fun hc=>HN1.out (HF2.out bx hc));have HN2':=Lib.hid (fun hc=>HN2.out (HF2.out bw hc));have hrow:=(HM2.out.rm r1 (List.mem_of_getElem? Hk1.out)).l;unfold Ride.lv at hrow;rw[Hr1a.out,Hr1n.out,Hr1c.out]at hrow;have hq1:r1.legs[M]? =some (lg.to a t):=by rw[Hr1l.out,←HMi.out,List.getElem?_append_right (Nat.le_refl _),Nat.sub_self];rfl
 have l0:w2.cell? ⟨gl,M*5,none⟩=some (.int .i64 (fo:Int)):=by
  have h1:=(own_cell hrow (flat_at Leg.len r1.legs M (lg.to a t) 0 (.int .i64 lg.b) hq1 rfl)).1 (Since.self w2);rw[Hfo.out]at h1;exact h1
 have Hrow:=Lib.hid hrow;clear hq1 hrow;go_upto_region 7 with fail;clear l0 hw1;obtain⟨s1,hs1⟩:∃s1:Sto,{s with rs:=s.rs.set k r1.br}=s1:=⟨_,rfl⟩
 rw[hs1]at HM2;have Hs1:=Lib.hid hs1;clear hs1;have HSf:=Lib.hid (fun(w':World) (h1:BoxIs w' p [.slice (some ⟨gr,0,none⟩) R1.length cr,.map (some bi),.slice (some ⟨gg,0,none⟩) s1.rg.length s1.rg.length,vp,.slice (some ⟨gs,0,none⟩) s1.sp.length s1.sp.length]) (h2:BoxIs w' bx [.int .i64 d,.int .i64 q,.int .i64 a,.int .i64 t,.int .i64 kd,.int .i64 (b:Int),.int .i64 pl,.int .i64 r,.int .i64 i]) (h3:BoxIs w' bw [.int .i64 a,.int .i64 t])=>
  show w'.cell? ⟨p,0,none⟩=some (.slice (some ⟨gr,0,none⟩) R1.length cr)∧w'.cell? ⟨bx,5,none⟩=some (.int .i64 (b:Int))∧w'.cell? ⟨bw,0,none⟩=some (.int .i64 a)∧w'.cell? ⟨bw,1,none⟩=some (.int .i64 t)from⟨h1.c 0 _ rfl,h2.c 5 _ rfl,h3.c 0 _ rfl,h3.c 1 _ rfl⟩)
 have HSto:=Lib.hid (fun(w':World) (hw:IsSince w2 w')=>HSf.out w' (HM2.out.st.to hw) (HBe2.out.to hw) (HBs2.out.to hw));refine wp_region_M (fun w'=>w'.cell? ⟨p,0,none⟩=some (.slice (some ⟨gr,0,none⟩) R1.length cr)∧w'.cell? ⟨bx,5,none⟩=some (.int .i64 (b:Int))∧w'.cell? ⟨bw,0,none⟩=some (.int .i64 a)∧w'.cell? ⟨bw,1,none⟩=some (.int .i64 t)) 14 (by kernel_rfl) (HSto.out _ (IsSince.drew' (IsSince.self _))) (fun hS=>?_);refine tk 0 ?_ rfl (by kernel_rfl) hS (fun _ _ _ h=>h) ?_ ?_;rotate_left
 ·(intro w h;(try dsimp only at h);go_split_ands;go_simp;try with_reducible rfl)
 (try simp only[Act.put,actS])
 refine tk 1 ?_ rfl (by kernel_rfl) hS (fun _ _ _ h=>h) ?_ ?_;rotate_left
 ·(intro w h;(try dsimp only at h);go_split_ands;go_simp;try with_reducible rfl)
 (try simp only[Act.put,actS])
 refine tk 2 ?_ rfl (by kernel_rfl) hS (fun _ _ _ h=>h) ?_ ?_;rotate_left
 ·(intro w h;(try dsimp only at h);go_split_ands;go_simp;try with_reducible rfl)
 (try simp only[Act.put,actS])
 refine tk 3 ?_ rfl (by kernel_rfl) hS (fun _ _ _ h=>h) ?_ ?_;rotate_left
 ·(intro w h;(try dsimp only at h);go_split_ands;go_simp;try with_reducible rfl)
 (try simp only[Act.put,actS])
 refine tk 4 ?_ rfl (by kernel_rfl) hS (fun _ _ _ h=>h) ?_ ?_;rotate_left
 ·(intro w h;(try dsimp only at h);go_split_ands;go_simp;try with_reducible rfl)
 (try simp only[Act.put,actS])
 refine tk 5 ?_ rfl (by kernel_rfl) hS (fun _ _ _ h=>h) ?_ ?_;rotate_left
 ·(intro w h;(try dsimp only at h);go_split_ands;go_simp;try with_reducible rfl)
 (try simp only[Act.put,actS])
 refine tk 6 ?_ rfl (by kernel_rfl) hS (fun _ _ _ h=>h) ?_ ?_;rotate_left
 ·(intro w h;(try dsimp only at h);go_split_ands;go_simp;try with_reducible rfl)
 (try simp only[Act.put,actS])
 refine tk 7 ?_ rfl (by kernel_rfl) hS (fun _ _ _ h=>h) ?_ ?_;rotate_left
 ·(intro w h;(try dsimp only at h);go_split_ands;go_simp;try with_reducible rfl)
 (try simp only[Act.put,actS])
 refine tk 8 ?_ rfl (by kernel_rfl) hS (fun _ _ _ h=>h) ?_ ?_;rotate_left
 ·(intro w h;(try dsimp only at h);go_split_ands;go_simp;try with_reducible rfl)
 (try simp only[Act.put,actS])
 refine tk 9 ?_ rfl (by kernel_rfl) hS (fun _ _ _ h=>h) ?_ ?_;rotate_left
 ·(intro w h;(try dsimp only at h);go_split_ands;go_simp;try with_reducible rfl)
 (try simp only[Act.put,actS])
 refine tk1 10 (by kernel_rfl) rfl fun K hK=>?_;go_simp;refine tkK hK (HSto.out _ (IsSince.drew' (IsSince.alloc (IsSince.self _) _))) ?_;clear hK K hS;intro hS;(try simp only[Act.put,actS])
 have hYs:IsSince w2 ((w2.alloc (.cells (⟨(b:Int),a,t,0,0⟩:Leg).cs.toArray 152)).drew):=IsSince.drew' (IsSince.alloc (IsSince.self _) _);have hYw:IsSince wB ((w2.alloc (.cells (⟨(b:Int),a,t,0,0⟩:Leg).cs.toArray 152)).drew):=by obtain⟨y,e⟩:=HX2.out;exact IsSince.trans ⟨y,e⟩ hYs
 have hY0:((w2.alloc (.cells (⟨(b:Int),a,t,0,0⟩:Leg).cs.toArray 152)).drew).heap[w2.heap.size]? =some (.cells (⟨(b:Int),a,t,0,0⟩:Leg).cs.toArray 152):=by
  rw[heap_drew,heap_al,if_pos rfl]
 have hYsz:((w2.alloc (.cells (⟨(b:Int),a,t,0,0⟩:Leg).cs.toArray 152)).drew).heap.size=w2.heap.size+1:=by
  show(w2.alloc _).heap.size= _;simp
 have hcY:∀j v,(⟨(b:Int),a,t,0,0⟩:Leg).cs[j]? =some v→((w2.alloc (.cells (⟨(b:Int),a,t,0,0⟩:Leg).cs.toArray 152)).drew).cell? ((⟨w2.heap.size,0,none⟩:Addr).add j)=some v:=fun j v hv=>by
  rw[Addr.add_lit];simp only[World.cell?,hY0,Nat.zero_add];simpa using hv
 have hoY:=own_to Hrow.out hYs;have hbY:=hYw.size;have hlv:r1.lv= .slice (some ⟨gl,0,none⟩) N r0.lc:=by unfold Ride.lv;rw[Hr1a.out,Hr1n.out,Hr1c.out]
 have hglr:gl∈rblk r1:=List.mem_append_left _ (by rw[hlv,ob_slice];simp);have hpv:some p≠(Value.slice (some ⟨gl,0,none⟩) N r0.lc).ownBlock:=fun e=>(HM2.out.ap.r k r1 Hk1.out).2 gl hglr (by have e2:p=gl:=(by simpa[Value.ownBlock]using e);rw[←e2];simp[sblk]);have hne1:some bx≠(Value.slice (some ⟨gl,0,none⟩) N r0.lc).ownBlock:=fun e=>HN1'.out (.inr ⟨r1,List.mem_of_getElem? Hk1.out,by have e2:bx=gl:=(by simpa[Value.ownBlock]using e);rw[e2];exact hglr⟩);have hne2:some bw≠(Value.slice (some ⟨gl,0,none⟩) N r0.lc).ownBlock:=fun e=>HN2'.out (.inr ⟨r1,List.mem_of_getElem? Hk1.out,by have e2:bw=gl:=(by simpa[Value.ownBlock]using e);rw[e2];exact hglr⟩);have HpY:=HM2.out.st.to hYs;have HeY:=HBe2.out.to hYs;have HsY:=HBs2.out.to hYs;have hNb:N≤100001:=by have h1:=HNM.out;have h2:=HMi.out;omega
 refine tk1 11 (by kernel_rfl) rfl fun K hK=>?_;(refine step_appL (w0:=wB) (k:=5) hYw rfl _ _ 37 rfl wB.heap.size (Nat.le_refl _) hbY 152 (.agg #[.int .i64 0,.int .i64 0,.int .i64 0,.int .i64 0,.int .i64 0]) 40 sLegT (.slice (some ⟨gl,0,none⟩) N r0.lc) N (flat Leg.cs r1.legs) rfl hoY ⟨w2.heap.size,0,none⟩ 1 1 (⟨(b:Int),a,t,0,0⟩:Leg).cs rfl rfl hcY (leg_oneT _) (by decide) (by unfold maxLen;omega) (by omega) ?_;intro v2 q2 hown2 hg2 hl2;obtain⟨a2,n2,c2,rfl⟩:=own_slice hown2)
 refine tkK hK (HSf.out _ (HpY.grown hg2 hpv) (HeY.grown hg2 hne1) (HsY.grown hg2 hne2)) ?_;clear hK K hS;intro hS;(try simp only[Act.put,actS])
 have hgg:gr≠gl:=fun e=>(HM2.out.ap.r k r1 Hk1.out).2 gl hglr (by rw[←e];simp[sblk,ob_slice]);have hrr2:=own_keep (own_to HM2.out.rr hYs) hg2 (fun x hx e=>hgg (by
  have e1:gr=x:=by simpa[Value.ownBlock]using hx
  have e2:x=gl:=by simpa[Value.ownBlock]using e
  rw[e1,e2]))
 have k7:=(own_cell hrr2 (flat_at Ride.len R1 k r1 7 (.slice r1.la r1.legs.length r1.lc) Hk1.out rfl)).1 (Since.self q2.w);have kf7:=(own_cell hrr2 (flat_at Ride.len R1 k r1 7 (.slice r1.la r1.legs.length r1.lc) Hk1.out rfl)).2.1 (Since.self q2.w);rw[show(Since.self q2.w).w=q2.w from rfl]at k7 kf7;refine tk 12 ?_ rfl (by kernel_rfl) hS (fun _ _ _ h=>h) ?_ ?_;rotate_left
 ·(intro w h;(try dsimp only at h);go_split_ands;go_simp;try with_reducible rfl)
 (try simp only[Act.put,actS])
 refine tk 13 ?_ rfl (by kernel_rfl) hS (fun _ _ _ h=>h) ?_ ?_;rotate_left
 ·(intro w h;(try dsimp only at h);go_split_ands;go_simp;try with_reducible rfl)
 (try simp only[Act.put,actS])
 refine tk1 14 (by kernel_rfl) rfl fun K hK=>?_;go_simp;refine tkL hK (by kernel_rfl) ?_;clear hK K hS;(try simp only[Act.put,actS])
 have hn2:n2=N+1:=by
  obtain⟨_,⟨e2,e3⟩|⟨_,_,_,e2,_⟩⟩:=hown2
  ·omega
  ·simp only[Value.slice.injEq]at e2;exact e2.2.1
 subst hn2;have hLn:N+1=(r1.legs ++ [(⟨(b:Int),a,t,0,0⟩:Leg)]).length:=by rw[List.length_append,Hr1n.out];rfl
 obtain⟨hM3,hK3,hF3⟩:=HM2.out.newLegs (w':=q2.w) (L:=r1.legs ++ [(⟨(b:Int),a,t,0,0⟩:Leg)]) (a2:=a2) (n2:=N+1) (c2:=c2) Hk1.out hLn ((KpS.to (KpS.refl _ w2) hYs).step ⟨hg2.os,hg2.tape,hg2.output,hg2.size,fun j hj hn=>hg2.block j hj (fun e=>hn (by rw[hlv,ob_mem];exact e.symm))⟩) (by rw[flat_append,flat_one];exact hown2) (fun x hx=>by
  rcases hl2 x (ob_mem.1 hx)with h'|h'
  ·left;rw[hlv,ob_mem];exact h'
  ·right;have h'':x=w2.heap.size+1:=h'.trans hYsz;omega)
 clear k7 kf7;go_upto_region 8 with fail;have HBe3:=Lib.hid (HBe2.out.keepS hK3 HN1'.out);have hsz2:w.heap.size≤w2.heap.size:=HK3.out.size;have HKt:=Lib.hid (HK3.out.trans hK3 (fun x hx=>.inl (HF2.out x hx)));have HFt:=Lib.hid (show∀x,StoS p bi gg gs (.slice (some ⟨gr,0,none⟩) R1.length cr) vp (R1.set k {r1 with legs:=r1.legs ++ [(⟨(b:Int),a,t,0,0⟩:Leg)],la:=a2,lc:=c2}) x→StoS p bi gg gs (.slice (some ⟨gr,0,none⟩) R.length cr) vp R x∨w.heap.size≤x from fun x hx=>by
  rcases hF3 x hx with h'|h'
  ·exact .inl (HF2.out x h')
  ·exact .inr (by omega))
 have HM3:=Lib.hid hM3;clear hM3 hK3 hF3 hrr2 hgg hNb HpY HeY HsY hpv hne1 hne2 hglr hlv hbY hoY hcY hYsz hY0 hYw hYs hl2 hg2 hown2 hLn hsz2 HSto HSf;generalize q2.w.setCell ⟨gr,k*13+7,none⟩ (.slice a2 (N+1) c2)=w3 at *;obtain⟨r3,hr3⟩:∃r3:Ride,{r1 with legs:=r1.legs ++ [(⟨(b:Int),a,t,0,0⟩:Leg)],la:=a2,lc:=c2}=r3:=⟨_,rfl⟩
 rw[hr3]at HM3 HFt;have Hr3:=Lib.hid hr3;clear hr3;obtain⟨s3,hs3⟩:∃s3:Sto,{s1 with rs:=s1.rs.set k r3.br}=s3:=⟨_,rfl⟩
 rw[hs3]at HM3;have Hs3:=Lib.hid hs3;have Hrg:=Lib.hid (show s3.rg=s.rg from by rw[←hs3,←Hs1.out]);have Hsp:=Lib.hid (show s3.sp=s.sp from by rw[←hs3,←Hs1.out]);clear hs3;have hfo3:fo<s3.rg.length:=by rw[Hrg.out];exact Hfr.out
 have hp2:w3.cell? ⟨p,2,none⟩=some (.slice (some ⟨gg,0,none⟩) s.rg.length s.rg.length):=by have h1:=HM3.out.st.c 2 _ rfl;rw[Hrg.out]at h1;exact h1
 have e5:w3.cell? ⟨bx,5,none⟩=some (.int .i64 (b:Int)):=HBe3.out.c 5 _ rfl;have d0:w3.cell? ⟨gg,fo,none⟩=some (.int .i64 s3.rg[fo]):=HM3.out.rg.c fo _ (by rw[List.getElem?_map,List.getElem?_eq_getElem hfo3];rfl);have df:∀o,w3.frozen? ⟨gg,o,none⟩=false:=fun o=>HM3.out.rg.f o;have hst3:IsSince w3 w3.drew:=IsSince.drew' (IsSince.self _);obtain⟨hM4,hK4⟩:=(HM3.out.to hst3).setRg (b:=fo) hfo3 (-1);have hbe4:=(HBe3.out.to hst3).keepS hK4 (fun e=>HN1.out (.inl (by rw[e];simp[sblk])));have hkt4:=HKt.out.trans ((KpS.to (KpS.refl _ w3) hst3).step hK4) (fun g e=>.inl (.inl (by rw[e];simp[sblk])));have HM4:=Lib.hid hM4;have HBe4:=Lib.hid hbe4;have HKt4:=Lib.hid hkt4;have hS4:(fun w'=>w'.cell? ⟨p,2,none⟩=some (.slice (some ⟨gg,0,none⟩) s.rg.length s.rg.length)∧w'.cell? ⟨bx,5,none⟩=some (.int .i64 (b:Int))) (w3.drew.setCell ⟨gg,fo,none⟩ (.int .i64 (-1))):=⟨by have h1:=hM4.st.c 2 _ rfl;rw[show({s3 with rg:=s3.rg.set fo (-1)}:Sto).rg.length=s.rg.length from by simp[Hrg.out]]at h1;exact h1,hbe4.c 5 _ rfl⟩
 clear hM4 hK4 hbe4 hkt4 hst3;refine wp_region_M (fun w'=>w'.cell? ⟨p,2,none⟩=some (.slice (some ⟨gg,0,none⟩) s.rg.length s.rg.length)∧w'.cell? ⟨bx,5,none⟩=some (.int .i64 (b:Int))) 15 (by kernel_rfl) ⟨hp2,e5⟩ (fun hS=>?_);refine tk 0 ?_ rfl (by kernel_rfl) hS (fun _ _ _ h=>h) ?_ ?_;rotate_left
 ·(intro w h;(try dsimp only at h);go_split_ands;go_simp;try with_reducible rfl)
 (try simp only[Act.put,actS])
 refine tk 1 ?_ rfl (by kernel_rfl) hS (fun _ _ _ h=>h) ?_ ?_;rotate_left
 ·(intro w h;(try dsimp only at h);go_split_ands;go_simp;try with_reducible rfl)
 (try simp only[Act.put,actS])
 refine tk 2 ?_ rfl (by kernel_rfl) hS (fun _ _ _ h=>h) ?_ ?_;rotate_left
 ·(intro w h;(try dsimp only at h);go_split_ands;go_simp;try with_reducible rfl)
 (try simp only[Act.put,actS])
 refine tk 3 ?_ rfl (by kernel_rfl) hS (fun _ _ _ h=>h) ?_ ?_;rotate_left
 ·(intro w h;(try dsimp only at h);go_split_ands;go_simp;try with_reducible rfl)
 (try simp only[Act.put,actS])
 refine tk 4 ?_ rfl (by kernel_rfl) hS (fun _ _ _ h=>h) ?_ ?_;rotate_left
 ·(intro w h;(try dsimp only at h);go_split_ands;go_simp;try with_reducible rfl)
 (try simp only[Act.put,actS])
 refine tk 5 ?_ rfl (by kernel_rfl) hS (fun _ _ _ h=>h) ?_ ?_;rotate_left
 ·(intro w h;(try dsimp only at h);go_split_ands;go_simp;try with_reducible rfl)
 (try simp only[Act.put,actS])
 refine tk 6 ?_ rfl (by kernel_rfl) hS (fun _ _ _ h=>h) ?_ ?_;rotate_left
 ·(intro w h;(try dsimp only at h);go_split_ands;go_simp;try with_reducible rfl)
 (try simp only[Act.put,actS])
 refine tk 7 ?_ rfl (by kernel_rfl) hS (fun _ _ _ h=>h) ?_ ?_;rotate_left
 ·(intro w h;(try dsimp only at h);go_split_ands;go_simp;try with_reducible rfl)
 (try simp only[Act.put,actS])
 refine tk 8 ?_ rfl (by kernel_rfl) hS (fun _ _ _ h=>h) ?_ ?_;rotate_left
 ·(intro w h;(try dsimp only at h);go_split_ands;go_simp;try with_reducible rfl)
 (try simp only[Act.put,actS])
 refine tk 9 ?_ rfl (by kernel_rfl) hS (fun _ _ _ h=>h) ?_ ?_;rotate_left
 ·(intro w h;(try dsimp only at h);go_split_ands;go_simp;try with_reducible rfl)
 (try simp only[Act.put,actS])
 refine tk 10 ?_ rfl (by kernel_rfl) hS (fun _ _ _ h=>h) ?_ ?_;rotate_left
 ·(intro w h;(try dsimp only at h);go_split_ands;go_simp;try with_reducible rfl)
 (try simp only[Act.put,actS])
 refine tk 11 ?_ rfl (by kernel_rfl) hS (fun _ _ _ h=>h) ?_ ?_;rotate_left
 ·(intro w h;(try dsimp only at h);go_split_ands;go_simp;try with_reducible rfl)
 (try simp only[Act.put,actS])
 refine tk 12 ?_ rfl (by kernel_rfl) hS (fun _ _ _ h=>h) ?_ ?_;rotate_left
 ·(intro w h;(try dsimp only at h);go_split_ands;go_simp;try with_reducible rfl)
 (try simp only[Act.put,actS])
 refine tk1 13 (by kernel_rfl) rfl fun K hK=>?_;go_simp;refine tkK hK (hS4) ?_;clear hK K hS;intro hS;(try simp only[Act.put,actS])
 clear hp2 e5 d0 df hS;have hS:=hS4;rw[show w3.drew.setCell ⟨gg,fo,none⟩ (.int .i64 (-1))=(w3.setCell ⟨gg,fo,none⟩ (.int .i64 (-1))).drew from rfl]at HM4 HBe4 HKt4 hS;clear hS4 HM3 HBe3 HKt;generalize(w3.setCell ⟨gg,fo,none⟩ (.int .i64 (-1))).drew=w4 at *;have hb4:b<(s3.rg.set fo (-1)).length:=by rw[List.length_set,Hrg.out];exact Hbr.out
 have d1:w4.cell? ⟨gg,b,none⟩=some (.int .i64 (s3.rg.set fo (-1))[b]):=HM4.out.rg.c b _ (by rw[List.getElem?_map,List.getElem?_eq_getElem hb4];rfl);have df1:∀o,w4.frozen? ⟨gg,o,none⟩=false:=fun o=>HM4.out.rg.f o;obtain⟨hM5,hK5⟩:=HM4.out.setRg (b:=b) hb4 (k:Int);have HBe5:=Lib.hid (HBe4.out.keepS hK5 (fun e=>HN1.out (.inl (by rw[e];simp[sblk]))));have HKt5:=Lib.hid (HKt4.out.trans hK5 (fun g e=>.inl (.inl (by rw[e];simp[sblk]))));have HM5:=Lib.hid hM5;clear hM5 hK5;refine tk 14 ?_ rfl (by kernel_rfl) hS (fun _ _ _ h=>h) ?_ ?_;rotate_left
 ·(intro w h;(try dsimp only at h);go_split_ands;go_simp;try with_reducible rfl)
 (try simp only[Act.put,actS])
 refine tk1 15 (by kernel_rfl) rfl fun K hK=>?_;go_simp;refine tkL hK (by kernel_rfl) ?_;clear hK K hS;(try simp only[Act.put,actS])
 clear d1 df1 HM4 HBe4 HKt4;go_upto_region 9 with fail;generalize w4.setCell ⟨gg,b,none⟩ (.int .i64 (k:Int))=w5 at *;obtain⟨s5,hs5⟩:∃s5:Sto,{s3 with rg:=(s3.rg.set fo (-1)).set b (k:Int)}=s5:=⟨_,rfl⟩
 have HM6:=Lib.hid (show StoM w5 wB.heap.size p bi gg gs (.slice (some ⟨gr,0,none⟩) R1.length cr) vp (R1.set k r3) s5 from hs5 ▸ HM5.out);have Hs5:=Lib.hid hs5;have Hsp5:=Lib.hid (show s5.sp=s.sp from by rw[←hs5];exact Hsp.out);clear hs5 HM5;obtain⟨u,hu⟩:∃u,s.sp[b]? =some u:=⟨_,List.getElem?_eq_getElem Hbs.out⟩
 obtain⟨v,hv⟩:∃v,s.sp[fo]? =some v:=⟨_,List.getElem?_eq_getElem Hfs.out⟩
 have hu5:s5.sp[b]? =some u:=by rw[Hsp5.out];exact hu
 have hv5:s5.sp[fo]? =some v:=by rw[Hsp5.out];exact hv
 have g4:∀w',IsSince w5 w'→w'.cell? ⟨p,4,none⟩=some (.slice (some ⟨gs,0,none⟩) s.sp.length s.sp.length):=fun w' h=>by have h1:=(HM6.out.st.to h).c 4 _ rfl;rw[Hsp5.out]at h1;exact h1
 have e5:∀w',IsSince w5 w'→w'.cell? ⟨bx,5,none⟩=some (.int .i64 (b:Int)):=fun w' h=>(HBe5.out.to h).c 5 _ rfl;have m0:∀w',IsSince w5 w'→w'.cell? ⟨gs,b*4,none⟩=some (.int .i64 u.w):=fun w' h=>(HM6.out.sp.to h).c _ _ (flat_at Spt.len s5.sp b u 0 _ hu5 rfl);have m1:∀w',IsSince w5 w'→w'.cell? ⟨gs,b*4+1,none⟩=some (.int .i64 u.p):=fun w' h=>(HM6.out.sp.to h).c _ _ (flat_at Spt.len s5.sp b u 1 _ hu5 rfl);have m2:∀w',IsSince w5 w'→w'.cell? ⟨gs,b*4+2,none⟩=some (.int .i64 u.r):=fun w' h=>(HM6.out.sp.to h).c _ _ (flat_at Spt.len s5.sp b u 2 _ hu5 rfl);have m3:∀w',IsSince w5 w'→w'.cell? ⟨gs,b*4+3,none⟩=some (.bool u.z):=fun w' h=>(HM6.out.sp.to h).c _ _ (flat_at Spt.len s5.sp b u 3 _ hu5 rfl);have q0:w5.cell? ⟨gs,fo*4,none⟩=some (.int .i64 v.w):=HM6.out.sp.c _ _ (flat_at Spt.len s5.sp fo v 0 _ hv5 rfl);have q1:w5.cell? ⟨gs,fo*4+1,none⟩=some (.int .i64 v.p):=HM6.out.sp.c _ _ (flat_at Spt.len s5.sp fo v 1 _ hv5 rfl);have q2:w5.cell? ⟨gs,fo*4+2,none⟩=some (.int .i64 v.r):=HM6.out.sp.c _ _ (flat_at Spt.len s5.sp fo v 2 _ hv5 rfl);have q3:w5.cell? ⟨gs,fo*4+3,none⟩=some (.bool v.z):=HM6.out.sp.c _ _ (flat_at Spt.len s5.sp fo v 3 _ hv5 rfl);have qf:∀o,w5.frozen? ⟨gs,o,none⟩=false:=fun o=>HM6.out.sp.f o;have Hu:=Lib.hid hu;clear hu hv hu5 hv5;refine wp_region_M (fun w'=>IsSince w5 w') 14 (by kernel_rfl) (IsSince.drew' (IsSince.self _)) (fun hS=>?_);refine tk 0 ?_ rfl (by kernel_rfl) hS (fun _ _ _ h=>h) ?_ ?_;rotate_left
 ·(intro w h;(try dsimp only at h);go_split_ands;go_simp;try with_reducible rfl)
 (try simp only[Act.put,actS])
 refine tk 1 ?_ rfl (by kernel_rfl) hS (fun _ _ _ h=>h) ?_ ?_;rotate_left
 ·(intro w h;(try dsimp only at h);go_split_ands;go_simp;try with_reducible rfl)
 (try simp only[Act.put,actS])
 refine tk 2 ?_ rfl (by kernel_rfl) hS (fun _ _ _ h=>h) ?_ ?_;rotate_left
 ·(intro w h;(try dsimp only at h);go_split_ands;go_simp;try with_reducible rfl)
 (try simp only[Act.put,actS])
 refine tk 3 ?_ rfl (by kernel_rfl) hS (fun _ _ _ h=>h) ?_ ?_;rotate_left
 ·(intro w h;(try dsimp only at h);go_split_ands;go_simp;try with_reducible rfl)
 (try simp only[Act.put,actS])
 refine tk 4 ?_ rfl (by kernel_rfl) hS (fun _ _ _ h=>h) ?_ ?_;rotate_left
 ·(intro w h;(try dsimp only at h);go_split_ands;go_simp;try with_reducible rfl)
 (try simp only[Act.put,actS])
 refine tk 5 ?_ rfl (by kernel_rfl) hS (fun _ _ _ h=>h) ?_ ?_;rotate_left
 ·(intro w h;(try dsimp only at h);go_split_ands;go_simp;try with_reducible rfl)
 (try simp only[Act.put,actS])
 refine tk 6 ?_ rfl (by kernel_rfl) hS (fun _ _ _ h=>h) ?_ ?_;rotate_left
 ·(intro w h;(try dsimp only at h);go_split_ands;go_simp;try with_reducible rfl)
 (try simp only[Act.put,actS])
 refine tk 7 ?_ rfl (by kernel_rfl) hS (fun _ _ _ h=>h) ?_ ?_;rotate_left
 ·(intro w h;(try dsimp only at h);go_split_ands;go_simp;try with_reducible rfl)
 (try simp only[Act.put,actS])
 refine tk 8 ?_ rfl (by kernel_rfl) hS (fun _ _ _ h=>h) ?_ ?_;rotate_left
 ·(intro w h;(try dsimp only at h);go_split_ands;go_simp;try with_reducible rfl)
 (try simp only[Act.put,actS])
 refine tk 9 ?_ rfl (by kernel_rfl) hS (fun _ _ _ h=>h) ?_ ?_;rotate_left
 ·(intro w h;(try dsimp only at h);go_split_ands;go_simp;try with_reducible rfl)
 (try simp only[Act.put,actS])
 refine tk 10 ?_ rfl (by kernel_rfl) hS (fun _ _ _ h=>h) ?_ ?_;rotate_left
 ·(intro w h;(try dsimp only at h);go_split_ands;go_simp;try with_reducible rfl)
 (try simp only[Act.put,actS])
 refine tk 11 ?_ rfl (by kernel_rfl) hS (fun _ _ _ h=>h) ?_ ?_;rotate_left
 ·(intro w h;(try dsimp only at h);go_split_ands;go_simp;try with_reducible rfl)
 (try simp only[Act.put,actS])
 refine tk 12 ?_ rfl (by kernel_rfl) hS (fun _ _ _ h=>h) ?_ ?_;rotate_left
 ·(intro w h;(try dsimp only at h);go_split_ands;go_simp;try with_reducible rfl)
 (try simp only[Act.put,actS])
 refine tk 13 ?_ rfl (by kernel_rfl) hS (fun _ _ _ h=>h) ?_ ?_;rotate_left
 ·(intro w h;(try dsimp only at h);go_split_ands;go_simp;try with_reducible rfl)
 (try simp only[Act.put,actS])
 refine tk1 14 (by kernel_rfl) rfl fun K hK=>?_;go_simp;refine tkL hK (by kernel_rfl) ?_;clear hK K hS;(try simp only[Act.put,actS])
 clear g4 e5 m0 m1 m2 m3 q0 q1 q2 q3 qf;have hst:IsSince w5 w5.drew:=IsSince.drew' (IsSince.self _);obtain⟨hM7,hK7⟩:=(HM6.out.to hst).setSp (b:=fo) (by rw[Hsp5.out];exact Hfs.out) u;have HE:=Lib.hid (show changeS s ⟨d,q,a,t,kd,(b:Int),pl,r,i⟩={s5 with sp:=s5.sp.set fo u}from by
  have hrat:s.rat k=r0.br:=rat_at Hh0.out.br Hr0.out;have hget:((s.rat k).legs.getLast?.map (·.b)).getD 0=(fo:Int):=by rw[Hleg.out];simp[Hfo.out]
  have hu2:s.sp.getD b default=u:=by rw[List.getD_eq_getElem?_getD,Hu.out];rfl
  have h3:r3.br={r0.br with legs:=(lastSet (init ++ [lg]) fun x=>x.to a t) ++ [(⟨(b:Int),a,t,0,0⟩:Leg)]}:=by
   rw[←Hr3.out];show({r1 with legs:=r1.legs ++ [(⟨(b:Int),a,t,0,0⟩:Leg)]}:Ride).br= _;rw[Hr1br.out,lastSet_snoc,Hr1l.out]
  have hl0:r0.br.legs=init ++ [lg]:=Hpq.out;rw[←Hs5.out,←Hs3.out,←Hs1.out];unfold changeS;dsimp only;rw[Hix.out];dsimp only;rw[hget,Int.toNat_natCast,Int.toNat_natCast,hu2];unfold Sto.setR;rw[hrat,List.set_set,h3,←hl0])
 refine body_end (v:=.tuple #[]) (by simp[results,Tryz.results77,go_sem]) rfl ?_;exact HP.out _ _ _ _ (by rw[HE.out];exact hM7) (HKt5.out.trans ((KpS.to (KpS.refl _ w5) hst).step hK7) (fun g e=>.inl (.inl (by rw[e];simp[sblk])))) HFt.out
end Go.Proofs.YtmmlmhnjjfnpnaaGreat
namespace Go.Proofs.YtmmlmhnjjfnpnaaGreat
open Go.RowKit Go.ChangeMaps
set_option maxRecDepth 100000 in
set_option maxHeartbeats 16000000 in
theorem tell_b_calls (wB:World) (w:World) (hX:∃y:Since wB,w=y.w) (p bi gg gs:Nat) (vr vp:Value) (R:List Ride) (s:Sto) (h:StoM w wB.heap.size p bi gg gs vr vp R s) (n N:Nat) (hN:N≤100000) (hlr:R.length≤100000) (d q a t kd:Int) (b:Nat) (pl r i:Int) (hF:TellF n s N (⟨d,q,a,t,kd,(b:Int),pl,r,i⟩:Ev) b):
 Calls Tryz.prog 31 #[.pointer (some ⟨p,0,none⟩),.agg #[.int .i64 d,.int .i64 q,.int .i64 a,.int .i64 t,.int .i64 kd,.int .i64 (b:Int),.int .i64 pl,.int .i64 r,.int .i64 i]] w (StoPost w wB.heap.size p bi gg gs vr vp R (tellS s ⟨d,q,a,t,kd,(b:Int),pl,r,i⟩)):=by
 have HP:=Lib.hid (fun(w':World) (vr' vp':Value) (R':List Ride) (h1:StoM w' wB.heap.size p bi gg gs vr' vp' R' (tellS s ⟨d,q,a,t,kd,(b:Int),pl,r,i⟩)) (h2:KpS (StoS p bi gg gs vr vp R) w w') (h3:∀b,StoS p bi gg gs vr' vp' R' b→StoS p bi gg gs vr vp R b∨w.heap.size≤b)=>show StoPost w wB.heap.size p bi gg gs vr vp R (tellS s ⟨d,q,a,t,kd,(b:Int),pl,r,i⟩) (.returned (.tuple #[])) w' from⟨rfl,vr',vp',R',h1,h2,h3⟩);generalize StoPost w wB.heap.size p bi gg gs vr vp R (tellS s ⟨d,q,a,t,kd,(b:Int),pl,r,i⟩)=PO at *;have hkk:=hF.kk;have hbn:=hF.hbn;have hn1:=hF.n1;have hn2:=hF.n2;have HF:=Lib.hid hF;have Hh:=Lib.hid h;have Hh0:=Lib.hid h;have HX:=Lib.hid hX;have hb0:(0:Int)≤(b:Int):=by omega
 have hbl2:(b:Int)<(s.rg.length:Int):=by omega
 have Hbs:=Lib.hid (show b<s.sp.length by omega);have Hbr:=Lib.hid (show b<s.rg.length by omega);obtain⟨x,hx⟩:=Since.refl w;rw[hx];clear hx h hX hF hbn hn1 hn2;go_enter Tryz.func31,Tryz.ntmps31;go_upto_region 1 with fail;obtain⟨W,bx,y0,hW,hbx,-,hWup,Hup,Hbx,HB0⟩:=heads1 x ([Value.int .i64 d,.int .i64 q,.int .i64 a,.int .i64 t,.int .i64 kd,.int .i64 (b:Int),.int .i64 pl,.int .i64 r,.int .i64 i]) 63;rw[hW,hbx];clear hW hbx;have hB0:=fun y:Since W=>HB0.since y;clear HB0;replace Hh:=Lib.hid (Hh.out.to hWup);have HBe:=Lib.hid hB0;have e2:∀y:Since W,y.w.cell? ⟨bx,2,none⟩=some (.int .i64 a):=fun y=>(hB0 y).c 2 _ rfl;have e3:∀y:Since W,y.w.cell? ⟨bx,3,none⟩=some (.int .i64 t):=fun y=>(hB0 y).c 3 _ rfl;clear hB0 hWup;go_upto_region 2 with fail;clear e2 e3;obtain⟨y1,e2,hst0,hsz0,hlt0,HX0⟩:=grow1 y0 [.int .i64 a,.int .i64 t] 36;rw[e2];obtain⟨hx0,hx1,hxf⟩:=cx2 HX0;skip;clear e2 hst0;generalize y0.w.heap.size=gw at *;obtain⟨Hhx0,Hhx1,Hhxf⟩:=bx2 HX0;have Hhxg:=Lib.hid (And.intro hsz0 hlt0);clear hlt0 hsz0 HX0;clear hx0 hx1 hxf;replace Hh:=Lib.hid (Hh.out.to ⟨y1,rfl⟩);obtain⟨j,hj⟩:∃j,at0 s.rg b=j:=⟨_,rfl⟩
 have hjc:(s.rg.map (Value.int .i64))[b]? =some (.int .i64 j):=by
  rw[List.getElem?_map,List.getElem?_eq_getElem Hbr.out,←hj];unfold at0;rw[List.getD_eq_getElem?_getD,List.getElem?_eq_getElem Hbr.out];rfl
 have g2:∀y:Since y1.w,y.w.cell? ⟨p,2,none⟩=some (.slice (some ⟨gg,0,none⟩) s.rg.length s.rg.length):=fun y=>(Hh.out.st.since y).c 2 _ rfl;have gj:∀y:Since y1.w,y.w.cell? ⟨gg,b,none⟩=some (.int .i64 j):=fun y=>(Hh.out.rg.since y).c b _ hjc;have HBe1:=Lib.hid (HBe.out y1);have HBs1:=Lib.hid (show BoxIs y1.w gw [.int .i64 a,.int .i64 t]from box2v Hhxg.out.2 (Hhx0 (Since.self _)) (Hhx1 (Since.self _)) (fun o=>Hhxf (Since.self _) o));have e5:∀y:Since y1.w,y.w.cell? ⟨bx,5,none⟩=some (.int .i64 (b:Int)):=fun y=>(HBe1.out.since y).c 5 _ rfl;have Hj:=Lib.hid hj;have HK:=Lib.hid (show KpS (StoS p bi gg gs vr vp R) w y1.w from by obtain⟨y,e⟩:=Hup.out y1;rw[e];exact KpS.of y);have HN1:=Lib.hid (Hh0.out.notS (b:=bx) Hbx.out.1);have HN2:=Lib.hid (Hh0.out.notS (b:=gw) (by have h1:=Hbx.out;have h2:=Hhxg.out;omega));clear hj hjc Hhx0 Hhx1 Hhxf Hhxg Hbx Hup HBe;obtain⟨z0,hq0⟩:=Since.refl y1.w;rw[hq0];clear hq0;refine wp_region_since (by kernel_rfl) (by kernel_rfl) ?_;repeat(go_big_quiet_step(fail))
 refine wpQuiet_nil ?_;rintro _ ⟨z,rfl⟩;clear g2 gj e5;replace Hh:=Lib.hid (Hh.out.to ⟨z,rfl⟩);have HBe2:=Lib.hid (HBe1.out.to ⟨z,rfl⟩);have HBs2:=Lib.hid (HBs1.out.to ⟨z,rfl⟩);have HK2:=Lib.hid (HK.out.to ⟨z,rfl⟩);have HX2:=Lib.hid (Hh0.out.since HX.out HK2.out);clear HBe1 HBs1 HK;generalize z.w=w2 at *;have hkc:kd=1∨kd=2∨kd=3∨kd=4∨kd=5∨kd=6∨kd=7∨kd=8∨kd=9:=by have h1:1≤kd:=hkk.1;have h2:kd≤9:=hkk.2;omega
 clear hkk;have HPl:=Lib.hid (fun(w':World) (o:Ending) (s':Sto) (hs:tellS s ⟨d,q,a,t,kd,(b:Int),pl,r,i⟩=s') (hp:StoPost w2 wB.heap.size p bi gg gs vr vp R s' o w')=>show PO o w' from by
  obtain⟨rfl,vr',vp',R',h1,h2,h3⟩:=hp;exact HP.out w' vr' vp' R' (by rw[hs];exact h1) (HK2.out.step h2) (fun x hx=>by
   rcases h3 x hx with h'|h'
   ·exact .inl h'
   ·exact .inr (Nat.le_trans HK2.out.size h')))
 have Hlen:=Lib.hid (show s.rs.length=R.length by rw[←Hh0.out.br,List.length_map]);have c4:w2.cell? ⟨bx,4,none⟩=some (.int .i64 kd):=HBe2.out.c 4 _ rfl;have c0:w2.cell? ⟨bx,0,none⟩=some (.int .i64 d):=HBe2.out.c 0 _ rfl;have c1:w2.cell? ⟨bx,1,none⟩=some (.int .i64 q):=HBe2.out.c 1 _ rfl;have c2:w2.cell? ⟨bx,2,none⟩=some (.int .i64 a):=HBe2.out.c 2 _ rfl;have c3:w2.cell? ⟨bx,3,none⟩=some (.int .i64 t):=HBe2.out.c 3 _ rfl;have c5:w2.cell? ⟨bx,5,none⟩=some (.int .i64 (b:Int)):=HBe2.out.c 5 _ rfl;have c6:w2.cell? ⟨bx,6,none⟩=some (.int .i64 pl):=HBe2.out.c 6 _ rfl;have c7:w2.cell? ⟨bx,7,none⟩=some (.int .i64 r):=HBe2.out.c 7 _ rfl;have c8:w2.cell? ⟨bx,8,none⟩=some (.int .i64 i):=HBe2.out.c 8 _ rfl;have v0:w2.cell? ⟨gw,0,none⟩=some (.int .i64 a):=HBs2.out.c 0 _ rfl;have v1:w2.cell? ⟨gw,1,none⟩=some (.int .i64 t):=HBs2.out.c 1 _ rfl;rcases hkc with rfl|rfl|rfl|rfl|rfl|rfl|rfl|rfl|rfl
 ·have hL:=sleave_calls w2 wB.heap.size p bi gg gs vr vp R s Hh.out b Hbs.out Hbr.out (by rw[HF.out.n3,Hlen.out]) (by have h1:=HF.out.k0;rw[Hlen.out]at h1;exact h1) (fun h=>(HF.out.k1 h).1) ⟨1,pl,0,false⟩ a t
  go_wp2_with(go_at_call 79;(with_reducible refine hL.mono ?_);clear hL;intro o w3 hp;have hr:=HPl.out w3 o _ rfl hp;have ho:=hp.1;subst ho);refine body_end (v:=.tuple #[]) (by simp[results,Tryz.results31,go_sem]) rfl ?_;exact hr
 ·have hL:=sleave_calls w2 wB.heap.size p bi gg gs vr vp R s Hh.out b Hbs.out Hbr.out (by rw[HF.out.n3,Hlen.out]) (by have h1:=HF.out.k0;rw[Hlen.out]at h1;exact h1) (fun h=>(HF.out.k1 h).1) ⟨2,pl,0,false⟩ a t
  go_wp2_with(go_at_call 79;(with_reducible refine hL.mono ?_);clear hL;intro o w3 hp;have hr:=HPl.out w3 o _ rfl hp;have ho:=hp.1;subst ho);refine body_end (v:=.tuple #[]) (by simp[results,Tryz.results31,go_sem]) rfl ?_;exact hr
 ·have hnew:=HF.out.s3 rfl
  have hL:=sbegin_calls wB w2 HX2.out p bi gg gs vr vp R s Hh.out d q a t 3 b pl r i Hbs.out Hbr.out (by rw[HF.out.n3,Hlen.out]) hnew hlr;go_wp2_with(go_at_call 76;(with_reducible refine hL.mono ?_);clear hL;intro o w3 hp;have hr:=HPl.out w3 o _ rfl hp;have ho:=hp.1;subst ho);refine body_end (v:=.tuple #[]) (by simp[results,Tryz.results31,go_sem]) rfl ?_;exact hr
 ·obtain⟨k,init,lg,fo,h1,h2,h3,h4,h5,h6⟩:=HF.out.s4 rfl
  have hL:=schange_calls wB w2 HX2.out p bi gg gs vr vp R s Hh.out d q a t 4 b pl r i Hbs.out Hbr.out k h1 (by rw[←Hlen.out];exact h2) init lg h3 fo h4 (by rw[HF.out.n2];exact h5) (by rw[HF.out.n1];exact h5) (by omega);go_wp2_with(go_at_call 77;(with_reducible refine hL.mono ?_);clear hL;intro o w3 hp;have hr:=HPl.out w3 o _ rfl hp;have ho:=hp.1;subst ho);refine body_end (v:=.tuple #[]) (by simp[results,Tryz.results31,go_sem]) rfl ?_;exact hr
 ·by_cases hneg:j<0
  ·have hr:=HPl.out w2 (.returned (.tuple #[])) s (by show(if at0 s.rg (b:Int).toNat<0 then s else _)=s;rw[Int.toNat_natCast,Hj.out,if_pos hneg]) ⟨rfl,vr,vp,R,Hh.out,KpS.refl _ _,fun x hx=>.inl hx⟩
   go_wp2_with fail;refine body_end (v:=.tuple #[]) (by simp[results,Tryz.results31,go_sem]) rfl ?_;exact hr
  ·obtain⟨k,rfl⟩:∃k:Nat,j=(k:Int):=⟨j.toNat,by omega⟩
   have hkR:k<R.length:=by have h1:=HF.out.k0;rw[Hj.out,Hlen.out]at h1;omega
   obtain⟨r1,hr1⟩:∃r,R[k]? =some r:=⟨_,List.getElem?_eq_getElem hkR⟩
   obtain⟨gr,cr,rfl,_,_⟩:=own_some Hh.out.rr (by omega);have hpl:r1.pauses.length≤N:=by
    have h1:=(HF.out.k1 (by rw[Hj.out];omega)).2;rw[Hj.out,Int.toNat_natCast,rat_at Hh0.out.br hr1]at h1;exact h1
   have Hr1:=Lib.hid hr1;have hk0:(0:Int)≤(k:Int):=by omega
   have hkl:(k:Int)<(R.length:Int):=by omega
   have hgr:gr∉rblk r1:=fun hb=>(Hh.out.ap.r k r1 hr1).2 gr hb (by simp[sblk,ob_slice]);have hrow:=(Hh.out.rm r1 (List.mem_of_getElem? hr1)).p;have HkR:=Lib.hid hkR;clear hr1 hkR;go_upto_region 10 with fail;clear c4 c0 c1 c2 c3 c5 c6 c7 c8 v0 v1;have hpv:some p≠r1.pv.ownBlock:=fun e=>(Hh.out.ap.r k r1 Hr1.out).2 p (List.mem_append_right _ (ob_mem.2 e.symm)) (by simp[sblk]);have hwv:some gw≠r1.pv.ownBlock:=fun e=>HN2.out (.inr ⟨r1,List.mem_of_getElem? Hr1.out,List.mem_append_right _ (ob_mem.2 e.symm)⟩);have hgv:some gr≠r1.pv.ownBlock:=fun e=>hgr (List.mem_append_right _ (ob_mem.2 e.symm));have HSf:=Lib.hid (fun(w':World) (h1:BoxIs w' p [.slice (some ⟨gr,0,none⟩) R.length cr,.map (some bi),.slice (some ⟨gg,0,none⟩) s.rg.length s.rg.length,vp,.slice (some ⟨gs,0,none⟩) s.sp.length s.sp.length]) (h2:w'.ownsRow wB.heap.size 40 13 (.slice (some ⟨gr,0,none⟩) R.length cr) R.length (flat Ride.cs R)) (h3:BoxIs w' gw [.int .i64 a,.int .i64 t])=>
    show w'.cell? ⟨p,0,none⟩=some (.slice (some ⟨gr,0,none⟩) R.length cr)∧w'.cell? ⟨gr,k*13+8,none⟩=some (.slice r1.pa r1.pauses.length r1.pc)∧w'.cell? ⟨gw,0,none⟩=some (.int .i64 a)∧w'.cell? ⟨gw,1,none⟩=some (.int .i64 t)from⟨h1.c 0 _ rfl,(own_cell h2 (flat_at Ride.len R k r1 8 _ Hr1.out rfl)).1 (Since.self w'),h3.c 0 _ rfl,h3.c 1 _ rfl⟩)
   have HSto:=Lib.hid (fun(w':World) (hw:IsSince w2 w')=>HSf.out w' (Hh.out.st.to hw) (own_to Hh.out.rr hw) (HBs2.out.to hw));refine wp_region_M (fun w'=>w'.cell? ⟨p,0,none⟩=some (.slice (some ⟨gr,0,none⟩) R.length cr)∧w'.cell? ⟨gr,k*13+8,none⟩=some (.slice r1.pa r1.pauses.length r1.pc)∧w'.cell? ⟨gw,0,none⟩=some (.int .i64 a)∧w'.cell? ⟨gw,1,none⟩=some (.int .i64 t)) 19 (by kernel_rfl) (HSto.out _ (IsSince.drew' (IsSince.self _))) (fun hS=>?_);refine tk 0 ?_ rfl (by kernel_rfl) hS (fun _ _ _ h=>h) ?_ ?_;rotate_left
   ·(intro w h;(try dsimp only at h);go_split_ands;go_simp;try with_reducible rfl)
   (try simp only[Act.put,actS])
   refine tk 1 ?_ rfl (by kernel_rfl) hS (fun _ _ _ h=>h) ?_ ?_;rotate_left
   ·(intro w h;(try dsimp only at h);go_split_ands;go_simp;try with_reducible rfl)
   (try simp only[Act.put,actS])
   refine tk 2 ?_ rfl (by kernel_rfl) hS (fun _ _ _ h=>h) ?_ ?_;rotate_left
   ·(intro w h;(try dsimp only at h);go_split_ands;go_simp;try with_reducible rfl)
   (try simp only[Act.put,actS])
   refine tk 3 ?_ rfl (by kernel_rfl) hS (fun _ _ _ h=>h) ?_ ?_;rotate_left
   ·(intro w h;(try dsimp only at h);go_split_ands;go_simp;try with_reducible rfl)
   (try simp only[Act.put,actS])
   refine tk 4 ?_ rfl (by kernel_rfl) hS (fun _ _ _ h=>h) ?_ ?_;rotate_left
   ·(intro w h;(try dsimp only at h);go_split_ands;go_simp;try with_reducible rfl)
   (try simp only[Act.put,actS])
   refine tk 5 ?_ rfl (by kernel_rfl) hS (fun _ _ _ h=>h) ?_ ?_;rotate_left
   ·(intro w h;(try dsimp only at h);go_split_ands;go_simp;try with_reducible rfl)
   (try simp only[Act.put,actS])
   refine tk 6 ?_ rfl (by kernel_rfl) hS (fun _ _ _ h=>h) ?_ ?_;rotate_left
   ·(intro w h;(try dsimp only at h);go_split_ands;go_simp;try with_reducible rfl)
   (try simp only[Act.put,actS])
   refine tk 7 ?_ rfl (by kernel_rfl) hS (fun _ _ _ h=>h) ?_ ?_;rotate_left
   ·(intro w h;(try dsimp only at h);go_split_ands;go_simp;try with_reducible rfl)
   (try simp only[Act.put,actS])
   refine tk 8 ?_ rfl (by kernel_rfl) hS (fun _ _ _ h=>h) ?_ ?_;rotate_left
   ·(intro w h;(try dsimp only at h);go_split_ands;go_simp;try with_reducible rfl)
   (try simp only[Act.put,actS])
   refine tk 9 ?_ rfl (by kernel_rfl) hS (fun _ _ _ h=>h) ?_ ?_;rotate_left
   ·(intro w h;(try dsimp only at h);go_split_ands;go_simp;try with_reducible rfl)
   (try simp only[Act.put,actS])
   refine tk 10 ?_ rfl (by kernel_rfl) hS (fun _ _ _ h=>h) ?_ ?_;rotate_left
   ·(intro w h;(try dsimp only at h);go_split_ands;go_simp;try with_reducible rfl)
   (try simp only[Act.put,actS])
   refine tk 11 ?_ rfl (by kernel_rfl) hS (fun _ _ _ h=>h) ?_ ?_;rotate_left
   ·(intro w h;(try dsimp only at h);go_split_ands;go_simp;try with_reducible rfl)
   (try simp only[Act.put,actS])
   refine tk 12 ?_ rfl (by kernel_rfl) hS (fun _ _ _ h=>h) ?_ ?_;rotate_left
   ·(intro w h;(try dsimp only at h);go_split_ands;go_simp;try with_reducible rfl)
   (try simp only[Act.put,actS])
   refine tk 13 ?_ rfl (by kernel_rfl) hS (fun _ _ _ h=>h) ?_ ?_;rotate_left
   ·(intro w h;(try dsimp only at h);go_split_ands;go_simp;try with_reducible rfl)
   (try simp only[Act.put,actS])
   refine tk 14 ?_ rfl (by kernel_rfl) hS (fun _ _ _ h=>h) ?_ ?_;rotate_left
   ·(intro w h;(try dsimp only at h);go_split_ands;go_simp;try with_reducible rfl)
   (try simp only[Act.put,actS])
   refine tk1 15 (by kernel_rfl) rfl fun K hK=>?_;go_simp;refine tkK hK (HSto.out _ (IsSince.drew' (IsSince.alloc (IsSince.self _) _))) ?_;clear hK K hS;intro hS;(try simp only[Act.put,actS])
   have hYs:IsSince w2 ((w2.alloc (.cells (⟨a,t,0,0⟩:Pse).cs.toArray 44)).drew):=IsSince.drew' (IsSince.alloc (IsSince.self _) _);have hYw:IsSince wB ((w2.alloc (.cells (⟨a,t,0,0⟩:Pse).cs.toArray 44)).drew):=by obtain⟨y,e⟩:=HX2.out;exact IsSince.trans ⟨y,e⟩ hYs
   have hY0:((w2.alloc (.cells (⟨a,t,0,0⟩:Pse).cs.toArray 44)).drew).heap[w2.heap.size]? =some (.cells (⟨a,t,0,0⟩:Pse).cs.toArray 44):=by
    rw[heap_drew,heap_al,if_pos rfl]
   have hYsz:((w2.alloc (.cells (⟨a,t,0,0⟩:Pse).cs.toArray 44)).drew).heap.size=w2.heap.size+1:=by
    show(w2.alloc _).heap.size= _;simp
   have hcY:∀j v,(⟨a,t,0,0⟩:Pse).cs[j]? =some v→((w2.alloc (.cells (⟨a,t,0,0⟩:Pse).cs.toArray 44)).drew).cell? ((⟨w2.heap.size,0,none⟩:Addr).add j)=some v:=fun j v hv=>by
    rw[Addr.add_lit];simp only[World.cell?,hY0,Nat.zero_add];simpa using hv
   have hoY:=own_to hrow hYs;have hbY:=hYw.size;have HpY:=Hh.out.st.to hYs;have HsY:=HBs2.out.to hYs;have hrY:=own_to Hh.out.rr hYs;have hgv':∀x,(Value.slice (some ⟨gr,0,none⟩) R.length cr).ownBlock=some x→some x≠r1.pv.ownBlock:=fun x hx=>by
    have e1:gr=x:=by simpa[Value.ownBlock]using hx
    rw[←e1];exact hgv
   refine tk1 16 (by kernel_rfl) rfl fun K hK=>?_;(refine step_appL (w0:=wB) (k:=4) hYw rfl _ _ 38 rfl wB.heap.size (Nat.le_refl _) hbY 44 (.agg #[.int .i64 0,.int .i64 0,.int .i64 0,.int .i64 0]) 32 sPseT r1.pv r1.pauses.length (flat Pse.cs r1.pauses) rfl hoY ⟨w2.heap.size,0,none⟩ 1 1 (⟨a,t,0,0⟩:Pse).cs rfl rfl hcY (pse_oneT _) (by decide) (by unfold maxLen;omega) (by omega) ?_;intro v2 q2 hown2 hg2 hl2;obtain⟨a2,n2,c2,rfl⟩:=own_slice hown2)
   refine tkK hK (HSf.out _ (HpY.grown hg2 hpv) (own_keep hrY hg2 hgv') (HsY.grown hg2 hwv)) ?_;clear hK K hS;intro hS;(try simp only[Act.put,actS])
   have hrr2:=own_keep hrY hg2 hgv';have k8:=(own_cell hrr2 (flat_at Ride.len R k r1 8 (.slice r1.pa r1.pauses.length r1.pc) Hr1.out rfl)).1 (Since.self q2.w);have kf8:=(own_cell hrr2 (flat_at Ride.len R k r1 8 (.slice r1.pa r1.pauses.length r1.pc) Hr1.out rfl)).2.1 (Since.self q2.w);rw[show(Since.self q2.w).w=q2.w from rfl]at k8 kf8;refine tk 17 ?_ rfl (by kernel_rfl) hS (fun _ _ _ h=>h) ?_ ?_;rotate_left
   ·(intro w h;(try dsimp only at h);go_split_ands;go_simp;try with_reducible rfl)
   (try simp only[Act.put,actS])
   refine tk 18 ?_ rfl (by kernel_rfl) hS (fun _ _ _ h=>h) ?_ ?_;rotate_left
   ·(intro w h;(try dsimp only at h);go_split_ands;go_simp;try with_reducible rfl)
   (try simp only[Act.put,actS])
   refine tk1 19 (by kernel_rfl) rfl fun K hK=>?_;go_simp;refine tkL hK (by kernel_rfl) ?_;clear hK K hS;(try simp only[Act.put,actS])
   have hn2:n2=r1.pauses.length+1:=by
    obtain⟨_,⟨e2,e3⟩|⟨_,_,_,e2,_⟩⟩:=hown2
    ·omega
    ·simp only[Value.slice.injEq]at e2;exact e2.2.1
   subst hn2;have hLn:r1.pauses.length+1=(r1.pauses ++ [(⟨a,t,0,0⟩:Pse)]).length:=by rw[List.length_append];rfl
   obtain⟨hM3,hK3,hF3⟩:=Hh.out.newPses (w':=q2.w) (L:=r1.pauses ++ [(⟨a,t,0,0⟩:Pse)]) (a2:=a2) (n2:=r1.pauses.length+1) (c2:=c2) Hr1.out hLn ((KpS.to (KpS.refl _ w2) hYs).step ⟨hg2.os,hg2.tape,hg2.output,hg2.size,fun j hj hn=>hg2.block j hj (fun e=>hn (by rw[ob_mem];exact e.symm))⟩) (by rw[flat_append,flat_one];exact hown2) (fun x hx=>by
    rcases hl2 x (ob_mem.1 hx)with h'|h'
    ·left;rw[ob_mem];exact h'
    ·right;have h'':x=w2.heap.size+1:=h'.trans hYsz;omega)
   have HM3:=Lib.hid hM3;have HK3:=Lib.hid hK3;have HF3:=Lib.hid hF3;clear k8 kf8 hM3 hK3 hF3 hrr2 hl2 hg2 hown2 hLn hYs hYw hY0 hYsz hcY hoY hbY HpY HsY hrY hgv' hgv hwv hpv HSto HSf hrow;go_upto_region 11 with fail;generalize q2.w.setCell ⟨gr,k*13+8,none⟩ (.slice a2 (r1.pauses.length+1) c2)=w3 at *;obtain⟨gp,cp,hvp,_,_⟩:=own_some HM3.out.pz (by show 0<s.pz.length;have h1:=HF.out.n3;have h2:=Hlen.out;have h3:=HkR.out;omega);have hkp:k<s.pz.length:=by have h1:=HF.out.n3;have h2:=Hlen.out;have h3:=HkR.out;omega
   have k3:w3.cell? ⟨p,3,none⟩=some (.slice (some ⟨gp,0,none⟩) s.pz.length cp):=by have h1:=HM3.out.st.c 3 _ rfl;rw[hvp]at h1;exact h1
   have hzc:(s.pz.map Value.bool)[k]? =some (.bool s.pz[k]):=by rw[List.getElem?_map,List.getElem?_eq_getElem hkp];rfl
   have hpz3:w3.ownsRow wB.heap.size 4 1 (.slice (some ⟨gp,0,none⟩) s.pz.length cp) s.pz.length (s.pz.map .bool):=by have h1:=HM3.out.pz;rw[hvp]at h1;exact h1
   have z0:=(own_cell hpz3 hzc).1 (Since.self w3);have zf:=(own_cell hpz3 hzc).2.1 (Since.self w3);rw[show(Since.self w3).w=w3 from rfl]at z0 zf;obtain⟨hM4,hK4⟩:=HM3.out.setPz hvp (k:=k) hkp true;have HE:=Lib.hid (show tellS s ⟨d,q,a,t,5,(b:Int),pl,r,i⟩={s with rs:=s.rs.set k {r1 with pauses:=r1.pauses ++ [(⟨a,t,0,0⟩:Pse)],pa:=a2,pc:=c2}.br,pz:=s.pz.set k true}from by
    show(if at0 s.rg (b:Int).toNat<0 then s else{(s.setR (at0 s.rg (b:Int).toNat).toNat fun r=>{r with pauses:=r.pauses ++ [⟨a,t,0,0⟩]})with pz:=s.pz.set (at0 s.rg (b:Int).toNat).toNat true})= _;rw[Int.toNat_natCast,Hj.out,if_neg hneg,Int.toNat_natCast];unfold Sto.setR;rw[rat_at Hh0.out.br Hr1.out];rfl)
   have hgp:gp∈ob vp:=by rw[hvp,ob_slice];simp
   have hr:=HPl.out _ (.returned (.tuple #[])) _ HE.out ⟨rfl,_,_,_,hM4,HK3.out.trans hK4 (fun x e=>.inl (.inl (by have e2:x=gp:=e;rw[e2];simp[sblk,hgp]))),HF3.out⟩;clear hM4 hK4 hzc hpz3 hvp;go_wp2_with fail;refine body_end (v:=.tuple #[]) (by simp[results,Tryz.results31,go_sem]) rfl ?_;exact hr
 ·by_cases hneg:j<0
  ·have hr:=HPl.out w2 (.returned (.tuple #[])) s (by show(if at0 s.rg (b:Int).toNat<0 then s else _)=s;rw[Int.toNat_natCast,Hj.out,if_pos hneg]) ⟨rfl,vr,vp,R,Hh.out,KpS.refl _ _,fun x hx=>.inl hx⟩
   go_wp2_with fail;refine body_end (v:=.tuple #[]) (by simp[results,Tryz.results31,go_sem]) rfl ?_;exact hr
  ·obtain⟨k,rfl⟩:∃k:Nat,j=(k:Int):=⟨j.toNat,by omega⟩
   have hL:=resume_calls w2 wB.heap.size p bi gg gs vr vp R s Hh.out k (by have h1:=HF.out.k0;rw[Hj.out,Hlen.out]at h1;omega) (by rw[HF.out.n3,Hlen.out]) a t;have HE:=Lib.hid (show tellS s ⟨d,q,a,t,6,(b:Int),pl,r,i⟩=resumeS s k a t from by show(if at0 s.rg (b:Int).toNat<0 then s else resumeS s (at0 s.rg (b:Int).toNat).toNat a t)= _;rw[Int.toNat_natCast,Hj.out,if_neg hneg,Int.toNat_natCast]);go_wp2_with(go_at_call 78;(with_reducible refine hL.mono ?_);clear hL;intro o w3 hp;have hr:=HPl.out w3 o _ HE.out hp;have ho:=hp.1;subst ho);refine body_end (v:=.tuple #[]) (by simp[results,Tryz.results31,go_sem]) rfl ?_;exact hr
 ·have hr:=HPl.out w2 (.returned (.tuple #[])) s rfl ⟨rfl,vr,vp,R,Hh.out,KpS.refl _ _,fun x hx=>.inl hx⟩
  go_wp2_with fail;refine body_end (v:=.tuple #[]) (by simp[results,Tryz.results31,go_sem]) rfl ?_;exact hr
 ·have hr:=HPl.out w2 (.returned (.tuple #[])) s rfl ⟨rfl,vr,vp,R,Hh.out,KpS.refl _ _,fun x hx=>.inl hx⟩
  go_wp2_with fail;refine body_end (v:=.tuple #[]) (by simp[results,Tryz.results31,go_sem]) rfl ?_;exact hr
 ·have hL:=sleave_calls w2 wB.heap.size p bi gg gs vr vp R s Hh.out b Hbs.out Hbr.out (by rw[HF.out.n3,Hlen.out]) (by have h1:=HF.out.k0;rw[Hlen.out]at h1;exact h1) (fun h=>(HF.out.k1 h).1) ⟨6,0,0,false⟩ a t
  go_wp2_with(go_at_call 79;(with_reducible refine hL.mono ?_);clear hL;intro o w3 hp;have hr:=HPl.out w3 o _ rfl hp;have ho:=hp.1;subst ho);refine body_end (v:=.tuple #[]) (by simp[results,Tryz.results31,go_sem]) rfl ?_;exact hr
end Go.Proofs.YtmmlmhnjjfnpnaaGreat
namespace Go.Proofs.YtmmlmhnjjfnpnaaGreat
open Go.RowKit Go.ChangeMaps
def AllRes (w:World) (f:Flt) (L:List Ev) (o:Ending) (w':World):Prop:=
 ∃(v:Value) (y:Since w),o= .returned (.tuple #[v,.int .i64 (fltE f)])∧w'=y.w∧((fltE f≠0∧v= .slice none 0 0)∨(fltE f=0∧∃R:List Ride,y.w.ownsRow w.heap.size 40 13 v R.length (flat Ride.cs R)∧(∀r∈R,RideM y.w w.heap.size r)∧R.map Ride.br=sortI (ridesL f L)))
theorem own_down {w:World} {B B':Nat} {e:TypeId} {k:Nat} {v:Value} {n:Nat} {xs:List Value} (h:w.ownsRow B e k v n xs) (hb:B'≤B):w.ownsRow B' e k v n xs:=by
 obtain⟨hl,h|⟨g,cap,cur,rfl,hg,r⟩⟩:=h
 ·exact⟨hl,.inl h⟩
 ·exact⟨hl,.inr ⟨g,cap,cur,rfl,Nat.le_trans hb hg,r⟩⟩
theorem RideM.down {w:World} {B B':Nat} {r:Ride} (h:RideM w B r) (hb:B'≤B):RideM w B' r:=⟨own_down h.l hb,own_down h.p hb⟩
theorem sIntT:SliceOf Tryz.prog 22 3 (.int .i64 0) 1 8:=SliceOf.mk' (by kernel_rfl) (by kernel_rfl) rfl (by decide)
set_option maxRecDepth 100000 in
set_option maxHeartbeats 16000000 in
theorem all_r_calls (w:World) (x:Since w) (f:Flt) (da ta:Option Addr) (dc tc:Nat) (hf:FltAt w f da ta) (a:Option Addr) (l:List Ev) (cl:Nat) (h:Els Ev.cs 9 w a l) (hl:l.length≤40) (hI:∀e∈l,I64 e.p):
 Calls Tryz.prog 8 #[.agg #[.int .i64 f.bk,.int .i64 f.rd,.int .i64 f.dv,.slice da f.dk.length dc,.slice ta f.tk.length tc],.slice a l.length cl] x.w (AllRes w f (setL l)):=by
 have HP:=Lib.hid (fun(v:Value) (y:Since w) (h:(fltE f≠0∧v= .slice none 0 0)∨(fltE f=0∧∃R:List Ride,y.w.ownsRow w.heap.size 40 13 v R.length (flat Ride.cs R)∧(∀r∈R,RideM y.w w.heap.size r)∧R.map Ride.br=sortI (ridesL f (setL l))))=>show AllRes w f (setL l) (.returned (.tuple #[v,.int .i64 (fltE f)])) y.w from⟨v,y,rfl,rfl,h⟩);generalize AllRes w f (setL l)=PO at *;have HC:=Lib.hid (fun(W:World) (hW:∃z:Since w,W=z.w) (y:Since W)=>accepted_calls W y f da ta dc tc (hf.to hW) a l cl (h.to hW) (by omega) hI);have HL:=Lib.hid (setL_at l);have HL2:=Lib.hid (show(setL l).length≤40 from Nat.le_trans (setL_len l) hl);clear hf h hI hl;generalize setL l=L at *;go_enter Tryz.func8,Tryz.ntmps8;go_upto_region 1 with fail;obtain⟨W,bx,y0,hW,hbx,-,hWup,Hup,Hbx,HB0⟩:=heads1 x [.int .i64 f.bk,.int .i64 f.rd,.int .i64 f.dv,.slice da f.dk.length dc,.slice ta f.tk.length tc] 24;rw[hW,hbx];clear hW hbx;obtain⟨hb0_0,hb0_1,hb0_2,hb0_3,hb0_4,hf0⟩:=bx5 HB0;clear HB0;have HC1:=Lib.hid (HC.out W hWup y0);clear hWup HC;by_cases h0:fltE f=0
 ·have HC2:=Lib.hid (HC1.out.mono fun o w' (h:AccRes W f L o w')=>show∃(v:Value) (y:Since W),o= .returned (.tuple #[v,.int .i64 0])∧w'=y.w∧y.w.ownsRow W.heap.size 63 9 v (accL f (cus0 f.bk.toNat) L).length (flat Ev.cs (accL f (cus0 f.bk.toNat) L))from by
   obtain⟨v,y,rfl,rfl,⟨hb,_⟩|⟨_,hb⟩⟩:=h
   ·exact absurd h0 hb
   ·exact⟨v,y,by rw[h0],rfl,hb⟩)
  rw[h0]at HP;have H0:=Lib.hid h0;clear HC1 h0;obtain⟨m,hm,hm128⟩:∃m:Nat,f.bk=(m:Int)∧m≤128:=by
   have:=flt_facts H0.out;exact⟨f.bk.toNat,by omega,by omega⟩
  have Hm:=Lib.hid (show f.bk.toNat=m by omega);have HR:=Lib.hid (show ridesL f L=((accL f (cus0 m) L).foldl tellS (sto0 m)).rs from by rw[←Hm.out];rfl);rw[Hm.out]at HC2;have HT:=Lib.hid (tlS_start (f:=f) (n:=m) HL.out (by have:=HL2.out;omega));have HA:=Lib.hid (ridesL_half f L);have HD:=Lib.hid (ridesL_ids (f:=f) HL.out (by have:=HL2.out;omega));have HAl:=Lib.hid (show(accL f (cus0 m) L).length≤40 from Nat.le_trans (accL_sub f L _).length_le HL2.out);rw[HR.out]at HA HD HP;generalize accL f (cus0 m) L=A at *;rw[hm]at hb0_0 HC2;have Hmf:=Lib.hid Hm.out.symm;clear HL HR hm Hm H0;have hmk1:=fun q:World=>make1_run sIntT rfl m (by omega) (by omega) q;have hmk:=fun(w':World)=>makeK_run (enc:=Spt.cs) sSpt Spt.len ⟨0,0,0,false⟩ rfl m (by omega) (by omega) w';have hmm:=@run_makeMap Tryz.prog;go_upto_region 4 with(go_at_call 30;(with_reducible refine HC2.out.mono ?_);rintro _ _ ⟨v1,y1,rfl,rfl,hown⟩;obtain⟨a1,n1,c1,rfl⟩:=own_slice hown;have HO:=Lib.hid hown;clear hown)
  clear HC2;have e0:=fun(w':World) (h:IsSince y1.w w')=>IsSince.cell (W:=W) hb0_0 (IsSince.trans ⟨y1,rfl⟩ h);have e1:=fun(w':World) (h:IsSince y1.w w')=>IsSince.cell (W:=W) hb0_1 (IsSince.trans ⟨y1,rfl⟩ h);have e2:=fun(w':World) (h:IsSince y1.w w')=>IsSince.cell (W:=W) hb0_2 (IsSince.trans ⟨y1,rfl⟩ h);have e3:=fun(w':World) (h:IsSince y1.w w')=>IsSince.cell (W:=W) hb0_3 (IsSince.trans ⟨y1,rfl⟩ h);have e4:=fun(w':World) (h:IsSince y1.w w')=>IsSince.cell (W:=W) hb0_4 (IsSince.trans ⟨y1,rfl⟩ h);have HWb:=Lib.hid (Hup.out y1);clear hb0_0 hb0_1 hb0_2 hb0_3 hb0_4 hf0;generalize y1.w=wB at *;go_cut [8] (fun s8 wr=>∃(p bi gg gs:Nat),s8= .pointer (some ⟨p,0,none⟩)∧IsSince wB wr∧StoM wr wB.heap.size p bi gg gs (.slice none 0 0) (.slice none 0 0) [] {sto0 m with rg:=List.replicate m 0})
  case first=>
   go_region_held3 (fun w'=>IsSince wB w') (first|assumption|exact IsSince.drew' (IsSince.self _)|exact IsSince.alloc (by assumption) _|exact IsSince.drew' (IsSince.alloc (by assumption) _)) (fail);all_goals
    go_wp2_with fail;go_meet;clear hmk1 hmk hmm;first
     |(exact leafS (wB.heap.size+1+1+1) (wB.heap.size) (wB.heap.size+1) (wB.heap.size+1+1) (four_heap _ _ _ _ _).2.2.2 (four_heap _ _ _ _ _).1 (four_heap _ _ _ _ _).2.1 (four_heap _ _ _ _ _).2.2.1 (IsSince.drew' (IsSince.alloc (IsSince.alloc (IsSince.alloc (IsSince.alloc (IsSince.self _) _) _) _) _)) ⟨by simp<;>omega,by simp;omega⟩)
     |(exact leafS (wB.heap.size+1+1+1) (wB.heap.size) (wB.heap.size+1+1) (wB.heap.size+1) (four_heap _ _ _ _ _).2.2.2 (four_heap _ _ _ _ _).1 (four_heap _ _ _ _ _).2.2.1 (four_heap _ _ _ _ _).2.1 (IsSince.drew' (IsSince.alloc (IsSince.alloc (IsSince.alloc (IsSince.alloc (IsSince.self _) _) _) _) _)) ⟨by simp<;>omega,by simp;omega⟩)
     |(exact leafS (wB.heap.size+1+1+1) (wB.heap.size+1) (wB.heap.size) (wB.heap.size+1+1) (four_heap _ _ _ _ _).2.2.2 (four_heap _ _ _ _ _).2.1 (four_heap _ _ _ _ _).1 (four_heap _ _ _ _ _).2.2.1 (IsSince.drew' (IsSince.alloc (IsSince.alloc (IsSince.alloc (IsSince.alloc (IsSince.self _) _) _) _) _)) ⟨by simp<;>omega,by simp;omega⟩)
     |(exact leafS (wB.heap.size+1+1+1) (wB.heap.size+1) (wB.heap.size+1+1) (wB.heap.size) (four_heap _ _ _ _ _).2.2.2 (four_heap _ _ _ _ _).2.1 (four_heap _ _ _ _ _).2.2.1 (four_heap _ _ _ _ _).1 (IsSince.drew' (IsSince.alloc (IsSince.alloc (IsSince.alloc (IsSince.alloc (IsSince.self _) _) _) _) _)) ⟨by simp<;>omega,by simp;omega⟩)
     |(exact leafS (wB.heap.size+1+1+1) (wB.heap.size+1+1) (wB.heap.size) (wB.heap.size+1) (four_heap _ _ _ _ _).2.2.2 (four_heap _ _ _ _ _).2.2.1 (four_heap _ _ _ _ _).1 (four_heap _ _ _ _ _).2.1 (IsSince.drew' (IsSince.alloc (IsSince.alloc (IsSince.alloc (IsSince.alloc (IsSince.self _) _) _) _) _)) ⟨by simp<;>omega,by simp;omega⟩)
     |(exact leafS (wB.heap.size+1+1+1) (wB.heap.size+1+1) (wB.heap.size+1) (wB.heap.size) (four_heap _ _ _ _ _).2.2.2 (four_heap _ _ _ _ _).2.2.1 (four_heap _ _ _ _ _).2.1 (four_heap _ _ _ _ _).1 (IsSince.drew' (IsSince.alloc (IsSince.alloc (IsSince.alloc (IsSince.alloc (IsSince.self _) _) _) _) _)) ⟨by simp<;>omega,by simp;omega⟩)
  case rest=>
   clear hmk1 hmk hmm e0 e1 e2 e3 e4;obtain⟨p,bi,gg,gs,rfl,hst,hM⟩:=hcut;have HM:=Lib.hid hM;obtain⟨y1,rfl⟩:=hst;clear hM;have k2:y1.w.cell? ⟨p,2,none⟩=some (.slice (some ⟨gg,0,none⟩) m m):=by have h:=HM.out.st.c 2 _ rfl;simpa using h
   go_wp2_with fail;clear k2;go_loopw [35] (fun s wr=>∃(k:Nat) (y:Since wB),k≤m∧s= .int .i64 k∧wr=y.w∧StoM y.w wB.heap.size p bi gg gs (.slice none 0 0) (.slice none 0 0) [] {sto0 m with rg:=List.replicate k (-1) ++ List.replicate (m-k) 0}) (fun s _ =>m-(intOf s).toNat)
   case atStart=>exact⟨0,y1,by omega,rfl,rfl,by simpa using HM.out⟩
   case round=>
    clear HM;obtain⟨k,y,hk,rfl,rfl,hM⟩:=hrel;have HM:=Lib.hid hM;clear hM;by_cases hlt:k<m
    ·have hk0:(0:Int)≤(k:Int):=by omega
     have hkl:(k:Int)<(m:Int):=by omega
     have hlen:(List.replicate k (-1:Int) ++ List.replicate (m-k) 0).length=m:=by simp;omega
     have hu:((List.replicate k (-1:Int) ++ List.replicate (m-k) 0).map (Value.int .i64))[k]? =some (.int .i64 0):=by
      rw[List.getElem?_map,List.getElem?_append_right (by simp),List.length_replicate,Nat.sub_self,List.getElem?_replicate,if_pos (by omega)];rfl
     have k2:y.w.cell? ⟨p,2,none⟩=some (.slice (some ⟨gg,0,none⟩) m m):=by have h:=HM.out.st.c 2 _ rfl;rw[show({sto0 m with rg:=List.replicate k (-1) ++ List.replicate (m-k) 0}:Sto).rg.length=m from hlen]at h;exact h
     have q0:y.w.cell? ⟨gg,k,none⟩=some (.int .i64 0):=HM.out.rg.c _ _ hu;have qf:∀o,y.w.frozen? ⟨gg,o,none⟩=false:=fun o=>HM.out.rg.f o;have hP:=(HM.out.setRg (b:=k) (by rw[hlen];exact hlt) (-1)).1;obtain⟨y2,h2⟩:=y.set ⟨gg,k,none⟩ HM.out.ge.2.2.1 (.int .i64 (-1));rw[h2]at hP;have el:({({sto0 m with rg:=List.replicate k (-1) ++ List.replicate (m-k) 0}:Sto)with rg:=(List.replicate k (-1:Int) ++ List.replicate (m-k) 0).set k (-1)}:Sto)={sto0 m with rg:=List.replicate (k+1) (-1) ++ List.replicate (m-(k+1)) 0}:=by
      congr 1;rw[List.set_append_right _ _ (by simp),List.length_replicate,Nat.sub_self,show m-k=(m-(k+1))+1 by omega,List.replicate_succ,List.set_cons_zero,List.replicate_succ'];simp
     have HM2:=Lib.hid (show StoM y2.w wB.heap.size p bi gg gs (.slice none 0 0) (.slice none 0 0) [] {sto0 m with rg:=List.replicate (k+1) (-1) ++ List.replicate (m-(k+1)) 0}from el ▸ hP);have H2:=Lib.hid h2;clear hP h2 el hu hlen;go_wp2_with fail;clear k2 q0 qf;go_roundw
     case rel=>exact⟨k+1,y2,by omega,by go_num,H2.out,HM2.out⟩
     case measure=>simp[intOf];omega
    ·obtain rfl:k=m:=by omega
     replace HM:=Lib.hid (show StoM y.w wB.heap.size p bi gg gs (.slice none 0 0) (.slice none 0 0) [] (sto0 k)from by have h:=HM.out;rw[Nat.sub_self,List.replicate_zero,List.append_nil]at h;exact h);clear hlt;go_wp2_with fail;obtain⟨hn1,a2,c2,he2,_,hels,_,_⟩:=own_els cs_len (by decide) HO.out;obtain⟨rfl,rfl,rfl⟩:a1=a2∧n1=A.length∧c1=c2:=by simpa using he2
     have HEl:=Lib.hid hels;clear hn1 he2 hels hk;go_loopw [47] (fun i wr=>∃(j:Nat) (y:Since wB) (s:Sto) (vr vp:Value) (R:List Ride),j≤A.length∧i= .int .i64 j∧wr=y.w∧StoM y.w wB.heap.size p bi gg gs vr vp R s∧TlS f k s (A.drop j)∧s=(A.take j).foldl tellS (sto0 k)) (fun i _ =>A.length-(intOf i).toNat)
     case atStart=>exact⟨0,y,sto0 k,_,_,_,by omega,rfl,rfl,HM.out,HT.out,rfl⟩
     case round=>
      clear HM HT;obtain⟨j,y1,s,vr,vp,R,hj,rfl,rfl,hM,hT,hs⟩:=hrel;have HM:=Lib.hid hM;have HT:=Lib.hid hT;have Hs:=Lib.hid hs;clear hM hT hs;by_cases hlt:j<A.length
      ·have h40:=HAl.out
       obtain⟨e,he⟩:∃e,A[j]? =some e:=⟨_,List.getElem?_eq_getElem hlt⟩
       have hd:A.drop j=e :: A.drop (j+1):=by
        rw[List.drop_eq_getElem_cons hlt,(List.getElem?_eq_some_iff.1 he).2]
       have hlen:=HT.out.len;rw[hd]at HT;obtain⟨b,N,hN,hF,hT2⟩:=HT.out.next Hmf.out
       have hR100:R.length≤100000:=by
        have h1:s.rs.length=R.length:=by rw[←HM.out.br,List.length_map]
        omega
       have Hs2:=Lib.hid (show tellS s e=(A.take (j+1)).foldl tellS (sto0 k)from by
        rw[List.take_succ_eq_append_getElem hlt,(List.getElem?_eq_some_iff.1 he).2,List.foldl_append,Hs.out];rfl)
       obtain⟨b1,off1,rfl,hb1,hc⟩:=HEl.out j e he;obtain⟨ed,eq,ea,et,ek,eb,ep,er,ei⟩:=e;obtain rfl:eb=(b:Int):=hF.hb;have HF:=Lib.hid hF;have HT2:=Lib.hid hT2;have ka0:∀y:Since wB,y.w.cell? ⟨b1,off1+j*9,none⟩=some (.int .i64 ed):=fun y=>Since.cell (hc 0 _ rfl) hb1 y;have ka1:∀y:Since wB,y.w.cell? ⟨b1,off1+j*9+1,none⟩=some (.int .i64 eq):=fun y=>Since.cell (hc 1 _ rfl) hb1 y;have ka2:∀y:Since wB,y.w.cell? ⟨b1,off1+j*9+2,none⟩=some (.int .i64 ea):=fun y=>Since.cell (hc 2 _ rfl) hb1 y;have ka3:∀y:Since wB,y.w.cell? ⟨b1,off1+j*9+3,none⟩=some (.int .i64 et):=fun y=>Since.cell (hc 3 _ rfl) hb1 y;have ka4:∀y:Since wB,y.w.cell? ⟨b1,off1+j*9+4,none⟩=some (.int .i64 ek):=fun y=>Since.cell (hc 4 _ rfl) hb1 y;have ka5:∀y:Since wB,y.w.cell? ⟨b1,off1+j*9+5,none⟩=some (.int .i64 (b:Int)):=fun y=>Since.cell (hc 5 _ rfl) hb1 y;have ka6:∀y:Since wB,y.w.cell? ⟨b1,off1+j*9+6,none⟩=some (.int .i64 ep):=fun y=>Since.cell (hc 6 _ rfl) hb1 y;have ka7:∀y:Since wB,y.w.cell? ⟨b1,off1+j*9+7,none⟩=some (.int .i64 er):=fun y=>Since.cell (hc 7 _ rfl) hb1 y;have ka8:∀y:Since wB,y.w.cell? ⟨b1,off1+j*9+8,none⟩=some (.int .i64 ei):=fun y=>Since.cell (hc 8 _ rfl) hb1 y;have hj0:(0:Int)≤(j:Int):=by omega
       have hjl:(j:Int)<(A.length:Int):=by omega
       clear hc hb1 he hd hF hT2 HT hlen Hs;go_upto_region 13 with fail;obtain⟨y2,e2,hst0,hsz0,hlt0,HX0⟩:=grow1 y1 [.int .i64 ed,.int .i64 eq,.int .i64 ea,.int .i64 et,.int .i64 ek,.int .i64 (b:Int),.int .i64 ep,.int .i64 er,.int .i64 ei] 63;rw[e2];obtain⟨hx0,hx1,hx2,hx3,hx4,hx5,hx6,hx7,hx8,hxf⟩:=cx9 HX0;replace HM:=Lib.hid (HM.out.to hst0);clear e2 hst0;generalize y1.w.heap.size=g at *;obtain⟨Hhx0,Hhx1,Hhx2,Hhx3,Hhx4,Hhx5,Hhx6,Hhx7,Hhx8,Hhxf⟩:=bx9 HX0;have Hhxg:=Lib.hid (And.intro hsz0 hlt0);clear hlt0 hsz0 HX0;have hcall:=tell_b_calls wB y2.w ⟨y2,rfl⟩ p bi gg gs vr vp R s HM.out k N (by omega) hR100 ed eq ea et ek b ep er ei HF.out;go_wp2_with(go_at_call 31;(with_reducible refine hcall.mono ?_);clear hcall;rintro _ w3 ⟨rfl,vr',vp',R',h1,h2,h3⟩;(have HM2:=Lib.hid h1);(have HY:=Lib.hid (HM.out.since ⟨y2,rfl⟩ h2));clear h1 h2 h3);go_roundw
       case rel=>
        obtain⟨y3,hy3⟩:=HY.out;rw[hy3]at HM2;exact⟨j+1,y3,_,vr',vp',R',by omega,by go_num,hy3,HM2.out,HT2.out,Hs2.out⟩
       case measure=>simp[intOf];omega
      ·obtain rfl:j=A.length:=by omega
       rw[List.take_length]at Hs;have Hids:=Lib.hid (show R.Pairwise fun x y=>x.id≠y.id from by
        have h1:=HD.out;rw[←Hs.out,←HM.out.br,List.pairwise_map]at h1;exact h1)
       have Hlen:=Lib.hid (show R.length≤20 from by
        have h1:=HA.out;rw[←Hs.out,←HM.out.br,List.length_map]at h1;have:=HL2.out;omega)
       have Hbr:=Lib.hid (show(sortI R).map Ride.br=sortI ((A.foldl tellS (sto0 k)).rs)from by rw[sortI_br R Hids.out,HM.out.br,Hs.out]);obtain⟨ar,nr,cr,rfl⟩:=own_slice HM.out.rr;have hcall:=rsort_calls y1.w wB.heap.size _ _ R HM.out.rr Hlen.out Hids.out;have k0:y1.w.cell? ⟨p,0,none⟩=some (.slice ar nr cr):=HM.out.st.c 0 _ rfl;have Hpn:=Lib.hid (show some p≠(Value.slice ar nr cr).ownBlock from fun e=>by
        have h1:=HM.out.ap.b;unfold sblk at h1;simp only[List.nodup_cons,List.mem_cons,List.mem_append,not_or]at h1;exact h1.1.2.2.2.1 (ob_mem.2 e.symm))
       clear hlt;go_wp2_with(go_at_call 32;(with_reducible refine hcall.mono ?_);clear hcall;rintro _ w4 ⟨rfl,h1,h2⟩;(have HG:=Lib.hid h1);(have HO4:=Lib.hid h2);(have HB4:=Lib.hid (HM.out.st.grown h1 Hpn.out));(have k04:=HB4.out.c 0 _ rfl);clear h1 h2);obtain⟨y4,hy4⟩:=y1.grown HG.out (fun b hb=>own_block HM.out.rr b hb);have HKp:=Lib.hid (show KpS (fun b=>b∈ob (Value.slice ar nr cr)) y1.w w4 from⟨HG.out.os,HG.out.tape,HG.out.output,HG.out.size,fun j hj hn=>HG.out.block j hj (fun e=>hn (ob_mem.2 e.symm))⟩);have Hrm:=Lib.hid (show∀r∈sortI R,RideM w4 wB.heap.size r from fun r hr=>by
        obtain⟨i,hi⟩:=List.getElem?_of_mem ((sortI_perm R).mem_iff.1 hr);exact(HM.out.rm r (List.mem_of_getElem? hi)).keepS HKp.out (fun b hb hb2=>(HM.out.ap.r i r hi).2 b hb (by simp[sblk,hb2])))
       obtain⟨z,hz⟩:=HWb.out;have hszB:w.heap.size≤wB.heap.size:=by rw[hz];exact z.b.size
       obtain⟨z4,hz4⟩:=IsSince.trans (a:=w) ⟨z,hz⟩ (show IsSince wB w4 from⟨y4,hy4⟩);rw[hz4]at HO4 Hrm⊢;exact HP.out _ z4 (.inr ⟨by first|rfl|trivial,sortI R,by rw[(sortI_perm R).length_eq];exact own_down HO4.out hszB,fun r hr=>(Hrm.out r hr).down hszB,Hbr.out⟩)
 ·have HC2:=Lib.hid (HC1.out.mono fun o w' (h:AccRes W f L o w')=>show o= .returned (.tuple #[.slice none 0 0,.int .i64 (fltE f)])∧∃y:Since W,w'=y.w from by
   obtain⟨v,y,rfl,rfl,⟨_,rfl⟩|⟨hb,_⟩⟩:=h
   ·exact⟨rfl,y,rfl⟩
   ·exact absurd hb h0)
  have HR:=Lib.hid (fun y=>HP.out (.slice none 0 0) y (.inl ⟨h0,rfl⟩));have hb0:(fltE f != 0)=true:=by simpa using h0
  clear h0 HC1 HP;generalize fltE f=e at *;go_wp2_with(go_at_call 30;(with_reducible refine HC2.out.mono ?_);rintro _ _ ⟨rfl,y1,rfl⟩);obtain⟨z1,hz1⟩:=Hup.out y1;rw[hz1];exact HR.out z1
end Go.Proofs.YtmmlmhnjjfnpnaaGreat
