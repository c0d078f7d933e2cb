/- Texts that belong together. -/
import Derived.Test.YtmmlmhnjjfnpnaaGreatTpQze
import Derived.BigQuiet
set_option linter.all false
namespace Go.Proofs.YtmmlmhnjjfnpnaaGreat
open Go.RowKit Go.ChangeMaps
set_option maxRecDepth 100000 in
set_option maxHeartbeats 16000000 in
theorem Bc1 (wB:World) (w:World) (hX:∃y:A7 wB,w=y.w) (p bi gg gs:Nat) (vr vp:Value) (R:List A9) (s:D7) (h:I8 w wB.heap.size p bi gg gs vr vp R s) (d q a t k:Int) (b:Nat) (pl r i:Int) (hbs:b<s.sp.length) (hbr:b<s.rg.length) (hpz:s.pz.length=R.length) (hnew:s.idx i=none) (hlr:R.length≤100000):
 Calls Tryz.prog 76 #[.pointer (some ⟨p,0,none⟩),.agg #[.int .i64 d,.int .i64 q,.int .i64 a,.int .i64 t,.int .i64 k,.int .i64 (b:Int),.int .i64 pl,.int .i64 r,.int .i64 i],.agg #[.int .i64 a,.int .i64 t]] w (aK w wB.heap.size p bi gg gs vr vp R (Y9 s ⟨d,q,a,t,k,(b:Int),pl,r,i⟩)):=by
 have HP:=A3 (fun(w':World) (vr' vp':Value) (R':List A9) (h1:I8 w' wB.heap.size p bi gg gs vr' vp' R' (Y9 s ⟨d,q,a,t,k,(b:Int),pl,r,i⟩)) (h2:B7 (K9 p bi gg gs vr vp R) w w') (h3:∀b,K9 p bi gg gs vr' vp' R' b→K9 p bi gg gs vr vp R b∨w.heap.size≤b)=>show aK w wB.heap.size p bi gg gs vr vp R (Y9 s ⟨d,q,a,t,k,(b:Int),pl,r,i⟩) (.returned (.tuple #[])) w' from⟨rfl,vr',vp',R',h1,h2,h3⟩);generalize aK w wB.heap.size p bi gg gs vr vp R (Y9 s ⟨d,q,a,t,k,(b:Int),pl,r,i⟩)=PO at *;have Hh:=A3 h;have Hh0:=A3 h;have HX:=A3 hX;have Hbs:=A3 hbs;have Hbr:=A3 hbr;have Hpz:=A3 hpz;have gF:=A3 hnew;have hb0:(0:Int)≤(b:Int):=by omega
 have hbl:(b:Int)<(s.sp.length:Int):=by omega
 have yB:(b:Int)<(s.rg.length:Int):=by omega
 obtain⟨u,hu⟩:∃u,s.sp[b]? =some u:=⟨_,A4 hbs⟩
 have Hu:=A3 hu;obtain⟨ar,nr,cr,hvr⟩:=I4 h.rr;obtain⟨ap,np,cp,hvp⟩:=I4 h.pz;have hnr:nr=R.length:=by
  have h1:=h.rr;rw[hvr]at h1;obtain⟨e,a',c',e2,_⟩:=O9 A9.len (by decide) h1;simp only[Value.slice.injEq]at e2;exact e2.2.1
 have hnp:np=s.pz.length:=by
  have h1:=h.pz;rw[hvp]at h1;obtain⟨_,⟨e2,e3⟩|⟨_,_,_,e2,_⟩⟩:=h1
  ·simp only[Value.slice.injEq]at e2;omega
  ·simp only[Value.slice.injEq]at e2;exact e2.2.1
 subst hnr hnp hvr hvp;obtain⟨x,hx⟩:=A7.refl w;rw[hx];clear hx h hX hbs hbr hpz hnew hu;go_enter Tryz.func76,Tryz.ntmps76;go_upto_region 1 with fail;obtain⟨W,bx,y0,hW,hbx,-,B8,Hup,Hbx,HB0,HB1⟩:=Z7 x ([Value.int .i64 d,.int .i64 q,.int .i64 a,.int .i64 t,.int .i64 k,.int .i64 (b:Int),.int .i64 pl,.int .i64 r,.int .i64 i]) 63 ([Value.int .i64 a,.int .i64 t]) 36;rw[hW,hbx];clear hW hbx;have hB0:=fun y:A7 W=>HB0.since y;have hB1:=fun y:A7 W=>HB1.since y;clear HB0 HB1;replace Hh:=A3 (Hh.out.to B8);have HBe:=A3 hB0;have HBs:=A3 hB1;have g4:∀w',A8 W w'→w'.cell? ⟨p,4,none⟩=some (.slice (some ⟨gs,0,none⟩) s.sp.length s.sp.length):=fun w' h=>(Hh.out.st.to h).c 4 _ rfl;have e5:∀w',A8 W w'→w'.cell? ⟨bx,5,none⟩=some (.int .i64 (b:Int)):=fun w' h=>by obtain⟨y,rfl⟩:=h;exact(HBe.out y).c 5 _ rfl
 have q0:∀w',A8 W w'→w'.cell? ⟨gs,b*4,none⟩=some (.int .i64 u.w):=fun w' h=>(Hh.out.sp.to h).c _ _ (H7 D8.len s.sp b u 0 _ Hu.out rfl);have q1:∀w',A8 W w'→w'.cell? ⟨gs,b*4+1,none⟩=some (.int .i64 u.p):=fun w' h=>(Hh.out.sp.to h).c _ _ (H7 D8.len s.sp b u 1 _ Hu.out rfl);have q2:∀w',A8 W w'→w'.cell? ⟨gs,b*4+2,none⟩=some (.int .i64 u.r):=fun w' h=>(Hh.out.sp.to h).c _ _ (H7 D8.len s.sp b u 2 _ Hu.out rfl);have q3:∀w',A8 W w'→w'.cell? ⟨gs,b*4+3,none⟩=some (.bool u.z):=fun w' h=>(Hh.out.sp.to h).c _ _ (H7 D8.len s.sp b u 3 _ Hu.out rfl);clear hB0 hB1 B8;go_region_held3 (fun w'=>A8 W w') (first|assumption|exact A8.drew _|exact A8.drew' (A8.alloc (A8.of _) _)) (fail);go_upto_region 2 with fail;clear g4 e5 q0 q1 q2 q3;obtain⟨y1,e2,C9,hsz0,hlt0,HX0⟩:=sW y0 [.int .i64 u.w,.int .i64 u.p,.int .i64 u.r,.bool u.z] 180;rw[e2];obtain⟨hx0,hx1,hx2,hx3,hxf⟩:=dU HX0;skip;clear e2 C9;generalize y0.w.heap.size=gf at *;obtain⟨E6,G9,K1,J5,I3⟩:=bO HX0;have I9:=A3 (And.intro hsz0 hlt0);clear hlt0 hsz0 HX0;have jP:=A3 (HBe.out y1);have nQ:=A3 (HBs.out y1);have HBf:=A3 (show C4 y1.w gf u.cs from qE I9.out.2 (E6 (A7.self _)) (G9 (A7.self _)) (K1 (A7.self _)) (J5 (A7.self _)) (fun o=>I3 (A7.self _) o));replace Hh:=A3 (Hh.out.to ⟨y1,rfl⟩);have HK:=A3 (show B7 (K9 p bi gg gs (.slice ar R.length cr) (.slice ap s.pz.length cp) R) w y1.w from by obtain⟨y,e⟩:=Hup.out y1;rw[e];exact B7.of y);have HN1:=A3 (Hh0.out.notS (b:=bx) Hbx.out.1);have HN2:=A3 (Hh0.out.notS (b:=bx+1) (by have:=Hbx.out;omega));have HN3:=A3 (Hh0.out.notS (b:=gf) (by have h1:=Hbx.out;have h2:=I9.out;omega));have HF:=A3 (show w.heap.size≤bx∧bx+1<y1.w.heap.size∧gf<y1.w.heap.size from⟨Hbx.out.1,by have h1:=Hbx.out;have h2:=I9.out;omega,I9.out.2⟩);have HX1:=A3 (Hh0.out.since HX.out HK.out);clear hx0 hx1 hx2 hx3 hxf E6 G9 K1 J5 I3 I9 Hbx Hup HBe HBs;generalize bx+1=bw at *;generalize y1.w=w1 at *;have g0:∀w',A8 w1 w'→w'.cell? ⟨p,0,none⟩=some (.slice ar R.length cr):=fun w' h=>(Hh.out.st.to h).c 0 _ rfl;have g1:∀w',A8 w1 w'→w'.cell? ⟨p,1,none⟩=some (.map (some bi)):=fun w' h=>(Hh.out.st.to h).c 1 _ rfl;have e8:∀w',A8 w1 w'→w'.cell? ⟨bx,8,none⟩=some (.int .i64 i):=fun w' h=>(jP.out.to h).c 8 _ rfl;refine R7 (fun w'=>A8 w1 w') 11 (by kernel_rfl) (A8.drew' (A8.self _)) (fun hS=>?_);iterate 11
  refine J4 0 ?_ rfl rfl (by kernel_rfl) hS (fun _ _ _ h=>h) ?_ ?_
  rotate_left
  ·(intro w h;(try dsimp only at h);go_split_ands;go_simp;try with_reducible rfl)
  (try simp only[Act.put,B9])
 refine I0 11 (by kernel_rfl) rfl fun K hK=>?_;(refine zZ (b:=bi) gB rfl _ _ _ _ rfl Tryz.underlying100 rfl i rfl (.int .i64 (R.length:Int)) rfl Hh.out.ix.drew (Bb9 gF.out) ?_;intro w2 hm2 hg2)
 refine M9 hK (by kernel_rfl) ?_;clear hK K;(try clear hS)
 (try simp only[Act.put,B9])
 clear g0 g1 e8;have hst:A8 w1 w1.drew:=A8.drew' (A8.self _);obtain⟨hM,hK⟩:=(Hh.out.to hst).storeIx hm2 hg2;have hbe:=(jP.out.to hst).keepS hK (fun e=>HN1.out (.inl (by rw[e];simp[D6])));have hbs:=(nQ.out.to hst).keepS hK (fun e=>HN2.out (.inl (by rw[e];simp[D6])));have hbf:=(HBf.out.to hst).keepS hK (fun e=>HN3.out (.inl (by rw[e];simp[D6])));have hk:=HK.out.trans ((B7.to (B7.refl _ w1) hst).step hK) (fun g e=>.inl (.inl (by rw[e];simp[D6])));have HM:=A3 hM;have W5:=A3 hbe;have fJ:=A3 hbs;have As6:=A3 hbf;have HK2:=A3 hk;clear hM hbe hbs hbf hk hK hst hm2 hg2 Hh jP nQ HBf HK;obtain⟨s2,hs2⟩:∃s2:D7,{s with ix:=s.ix ++ [(i,R.length)]}=s2:=⟨_,rfl⟩
 rw[hs2]at HM;have Hs2:=A3 hs2;have hrg2:s2.rg=s.rg:=by rw[←hs2]
 have hsp2:s2.sp=s.sp:=by rw[←hs2]
 have Ay7:s2.pz=s.pz:=by rw[←hs2]
 have Az0:s2.rs=s.rs:=by rw[←hs2]
 have lI:=A3 hrg2;have BB6:=A3 hsp2;have sB:=A3 Ay7;have BB5:=A3 Az0;clear hs2 hrg2 hsp2 Ay7 Az0;go_upto_region 3 with fail;have g0:∀w',A8 w2 w'→w'.cell? ⟨p,0,none⟩=some (.slice ar R.length cr):=fun w' h=>(HM.out.st.to h).c 0 _ rfl;have g2:∀w',A8 w2 w'→w'.cell? ⟨p,2,none⟩=some (.slice (some ⟨gg,0,none⟩) s.rg.length s.rg.length):=fun w' h=>by have h1:=(HM.out.st.to h).c 2 _ rfl;rw[lI.out]at h1;exact h1
 have e5:∀w',A8 w2 w'→w'.cell? ⟨bx,5,none⟩=some (.int .i64 (b:Int)):=fun w' h=>(W5.out.to h).c 5 _ rfl;have Ax2:b<s2.rg.length:=by rw[lI.out];exact Hbr.out
 have d0:w2.cell? ⟨gg,b,none⟩=some (.int .i64 s2.rg[b]):=HM.out.rg.c b _ (by rw[List.getElem?_map,A4 Ax2];rfl);have df:∀o,w2.frozen? ⟨gg,o,none⟩=false:=fun o=>HM.out.rg.f o;refine R7 (fun w'=>A8 w2 w') 12 (by kernel_rfl) (A8.drew' (A8.self _)) (fun hS=>?_);iterate 12
  refine J4 0 ?_ rfl rfl (by kernel_rfl) hS (fun _ _ _ h=>h) ?_ ?_
  rotate_left
  ·(intro w h;(try dsimp only at h);go_split_ands;go_simp;try with_reducible rfl)
  (try simp only[Act.put,B9])
 refine I0 12 (by kernel_rfl) rfl fun K hK=>?_;go_simp;refine M9 hK (by kernel_rfl) ?_;clear hK K;(try clear hS)
 (try simp only[Act.put,B9])
 clear g0 g2 e5 d0 df;have hst:A8 w2 w2.drew:=A8.drew' (A8.self _);obtain⟨hM,hK⟩:=(HM.out.to hst).setRg (b:=b) Ax2 (R.length:Int);have hbe:=(W5.out.to hst).keepS hK (fun e=>HN1.out (.inl (by rw[e];simp[D6])));have hbs:=(fJ.out.to hst).keepS hK (fun e=>HN2.out (.inl (by rw[e];simp[D6])));have hbf:=(As6.out.to hst).keepS hK (fun e=>HN3.out (.inl (by rw[e];simp[D6])));have hk:=HK2.out.trans ((B7.to (B7.refl _ w2) hst).step hK) (fun g e=>.inl (.inl (by rw[e];simp[D6])));have HM3:=A3 hM;have aT:=A3 hbe;have nR:=A3 hbs;have nO:=A3 hbf;have HK3:=A3 hk;clear hM hbe hbs hbf hk hK hst HM W5 fJ As6 HK2;go_upto_region 4 with fail;refine Eq.mp (congrArg (Code.wp _ _ _ _) (show w2.drew.setCell ⟨gg,b,none⟩ (.int .i64 (R.length:Int))= _ from rfl)) ?_;have HX3:=A3 (Hh0.out.since HX.out HK3.out);generalize w2.drew.setCell ⟨gg,b,none⟩ (.int .i64 (R.length:Int))=w3 at *;have Hrb:=A3 (show s2.rg.set b (R.length:Int)=s.rg.set b (R.length:Int) by rw[lI.out]);obtain⟨s3,hs3⟩:∃s3:D7,{s2 with rg:=s2.rg.set b (R.length:Int)}=s3:=⟨_,rfl⟩
 rw[hs3]at HM3;have Hs3:=A3 hs3;clear hs3;have HF3:=A3 (show bx<w3.heap.size∧bw<w3.heap.size∧gf<w3.heap.size from⟨aT.out.lt,nR.out.lt,nO.out.lt⟩);have m0:w3.cell? ⟨p,0,none⟩=some (.slice ar R.length cr):=HM3.out.st.c 0 _ rfl;have m5:w3.cell? ⟨bx,5,none⟩=some (.int .i64 (b:Int)):=aT.out.c 5 _ rfl;have m7:w3.cell? ⟨bx,7,none⟩=some (.int .i64 r):=aT.out.c 7 _ rfl;have m8:w3.cell? ⟨bx,8,none⟩=some (.int .i64 i):=aT.out.c 8 _ rfl;have n0:w3.cell? ⟨bw,0,none⟩=some (.int .i64 a):=nR.out.c 0 _ rfl;have n1:w3.cell? ⟨bw,1,none⟩=some (.int .i64 t):=nR.out.c 1 _ rfl;have o0:w3.cell? ⟨gf,0,none⟩=some (.int .i64 u.w):=nO.out.c 0 _ rfl;have o1:w3.cell? ⟨gf,1,none⟩=some (.int .i64 u.p):=nO.out.c 1 _ rfl;have HSf:=A3 (fun(w':World) (h1:C4 w' p [.slice ar R.length cr,.map (some bi),.slice (some ⟨gg,0,none⟩) s3.rg.length s3.rg.length,.slice ap s.pz.length cp,.slice (some ⟨gs,0,none⟩) s3.sp.length s3.sp.length]) (h2:C4 w' bx [.int .i64 d,.int .i64 q,.int .i64 a,.int .i64 t,.int .i64 k,.int .i64 (b:Int),.int .i64 pl,.int .i64 r,.int .i64 i]) (h3:C4 w' bw [.int .i64 a,.int .i64 t]) (h4:C4 w' gf u.cs)=>
  show w'.cell? ⟨p,0,none⟩=some (.slice ar R.length cr)∧w'.cell? ⟨bx,5,none⟩=some (.int .i64 (b:Int))∧w'.cell? ⟨bx,7,none⟩=some (.int .i64 r)∧w'.cell? ⟨bx,8,none⟩=some (.int .i64 i)∧w'.cell? ⟨bw,0,none⟩=some (.int .i64 a)∧w'.cell? ⟨bw,1,none⟩=some (.int .i64 t)∧w'.cell? ⟨gf,0,none⟩=some (.int .i64 u.w)∧w'.cell? ⟨gf,1,none⟩=some (.int .i64 u.p)from⟨h1.c 0 _ rfl,h2.c 5 _ rfl,h2.c 7 _ rfl,h2.c 8 _ rfl,h3.c 0 _ rfl,h3.c 1 _ rfl,h4.c 0 _ rfl,h4.c 1 _ rfl⟩)
 have dQ:=A3 (fun(w':World) (hw:A8 w3 w')=>HSf.out w' (HM3.out.st.to hw) (aT.out.to hw) (nR.out.to hw) (nO.out.to hw));refine R7 (fun w'=>w'.cell? ⟨p,0,none⟩=some (.slice ar R.length cr)∧w'.cell? ⟨bx,5,none⟩=some (.int .i64 (b:Int))∧w'.cell? ⟨bx,7,none⟩=some (.int .i64 r)∧w'.cell? ⟨bx,8,none⟩=some (.int .i64 i)∧w'.cell? ⟨bw,0,none⟩=some (.int .i64 a)∧w'.cell? ⟨bw,1,none⟩=some (.int .i64 t)∧w'.cell? ⟨gf,0,none⟩=some (.int .i64 u.w)∧w'.cell? ⟨gf,1,none⟩=some (.int .i64 u.p)) 24 (by kernel_rfl) (dQ.out _ (A8.drew' (A8.self _))) (fun hS=>?_);iterate 14
  refine J4 0 ?_ rfl rfl (by kernel_rfl) hS (fun _ _ _ h=>h) ?_ ?_
  rotate_left
  ·(intro w h;(try dsimp only at h);go_split_ands;go_simp;try with_reducible rfl)
  (try simp only[Act.put,B9])
 iterate 4
  refine J4 15 ?_ rfl rfl (by kernel_rfl) hS (fun _ _ _ h=>h) ?_ ?_
  rotate_left
  ·(intro w h;(try dsimp only at h);go_split_ands;go_simp;try with_reducible rfl)
  (try simp only[Act.put,B9])
 refine I0 14 (by kernel_rfl) rfl fun K hK=>?_;go_simp;refine E5 hK (dQ.out _ (A8.drew' (A8.alloc (A8.self _) _))) ?_;clear hK K hS;intro hS;(try simp only[Act.put,B9])
 refine tk 19 ?_ rfl (by kernel_rfl) hS (fun _ _ _ h=>h) ?_ ?_;rotate_left
 ·(intro w h;(try dsimp only at h);go_split_ands;go_simp;try with_reducible rfl)
 (try simp only[Act.put,B9])
 refine I0 20 (by kernel_rfl) rfl fun K hK=>?_;go_simp;refine E5 hK (dQ.out _ (A8.drew' (A8.alloc (A8.alloc (A8.self _) _) _))) ?_;clear hK K hS;intro hS;(try simp only[Act.put,B9])
 have hYs:A8 w3 (((w3.alloc (.cells (⟨(b:Int),a,t,0,0⟩:E0).cs.toArray 152)).alloc (.cells (⟨i,r,a,t,0,0,true,some ⟨w3.heap.size,0,none⟩,[⟨(b:Int),a,t,0,0⟩],1,none,[],0,u.w,u.p,3,0⟩:A9).cs.toArray 40)).drew):=A8.drew' (A8.alloc (A8.alloc (A8.self _) _) _);have hYw:A8 wB (((w3.alloc (.cells (⟨(b:Int),a,t,0,0⟩:E0).cs.toArray 152)).alloc (.cells (⟨i,r,a,t,0,0,true,some ⟨w3.heap.size,0,none⟩,[⟨(b:Int),a,t,0,0⟩],1,none,[],0,u.w,u.p,3,0⟩:A9).cs.toArray 40)).drew):=by obtain⟨y,e⟩:=HX3.out;exact A8.trans ⟨y,e⟩ hYs
 have hY0:(((w3.alloc (.cells (⟨(b:Int),a,t,0,0⟩:E0).cs.toArray 152)).alloc (.cells (⟨i,r,a,t,0,0,true,some ⟨w3.heap.size,0,none⟩,[⟨(b:Int),a,t,0,0⟩],1,none,[],0,u.w,u.p,3,0⟩:A9).cs.toArray 40)).drew).heap[w3.heap.size]? =some (.cells (⟨(b:Int),a,t,0,0⟩:E0).cs.toArray 152):=by
  rw[mV,kT,kT,if_neg (by simp),if_pos rfl]
 have hY1:(((w3.alloc (.cells (⟨(b:Int),a,t,0,0⟩:E0).cs.toArray 152)).alloc (.cells (⟨i,r,a,t,0,0,true,some ⟨w3.heap.size,0,none⟩,[⟨(b:Int),a,t,0,0⟩],1,none,[],0,u.w,u.p,3,0⟩:A9).cs.toArray 40)).drew).heap[w3.heap.size+1]? =some (.cells (⟨i,r,a,t,0,0,true,some ⟨w3.heap.size,0,none⟩,[⟨(b:Int),a,t,0,0⟩],1,none,[],0,u.w,u.p,3,0⟩:A9).cs.toArray 40):=by
  rw[mV,kT,if_pos (by simp)]
 have dR:(((w3.alloc (.cells (⟨(b:Int),a,t,0,0⟩:E0).cs.toArray 152)).alloc (.cells (⟨i,r,a,t,0,0,true,some ⟨w3.heap.size,0,none⟩,[⟨(b:Int),a,t,0,0⟩],1,none,[],0,u.w,u.p,3,0⟩:A9).cs.toArray 40)).drew).heap.size=w3.heap.size+1+1:=by
  show(((w3.alloc _).alloc _)).heap.size= _;simp
 have hcY:∀j v,(⟨i,r,a,t,0,0,true,some ⟨w3.heap.size,0,none⟩,[⟨(b:Int),a,t,0,0⟩],1,none,[],0,u.w,u.p,3,0⟩:A9).cs[j]? =some v→(((w3.alloc (.cells (⟨(b:Int),a,t,0,0⟩:E0).cs.toArray 152)).alloc (.cells (⟨i,r,a,t,0,0,true,some ⟨w3.heap.size,0,none⟩,[⟨(b:Int),a,t,0,0⟩],1,none,[],0,u.w,u.p,3,0⟩:A9).cs.toArray 40)).drew).cell? ((⟨w3.heap.size+1,0,none⟩:Addr).add j)=some v:=fun j v hv=>by
  rw[Addr.add_lit];simp only[World.cell?,hY1,Nat.zero_add];simpa using hv
 have hoY:=J8 HM3.out.rr hYs;have hbY:=hYw.size;have hsb:=HM3.out.ap.b;unfold D6 at hsb;simp only[List.nodup_cons,List.mem_cons,List.mem_append,not_or]at hsb;have hpv:some p≠(Value.slice ar R.length cr).ownBlock:=fun e=>hsb.1.2.2.2.1 (O2.2 e.symm);have hne1:some bx≠(Value.slice ar R.length cr).ownBlock:=fun e=>HN1.out (.inl (by simp[D6,O2.2 e.symm]));have hne2:some bw≠(Value.slice ar R.length cr).ownBlock:=fun e=>HN2.out (.inl (by simp[D6,O2.2 e.symm]));have Ay5:some gf≠(Value.slice ar R.length cr).ownBlock:=fun e=>HN3.out (.inl (by simp[D6,O2.2 e.symm]));have HpY:=HM3.out.st.to hYs;have HeY:=aT.out.to hYs;have HsY:=nR.out.to hYs;have HfY:=nO.out.to hYs;refine I0 21 (by kernel_rfl) rfl fun K hK=>?_;(refine M8 (w0:=wB) (k:=13) hYw rfl _ _ 31 rfl wB.heap.size (Nat.le_refl _) hbY 40 vY 136 Am0 (.slice ar R.length cr) R.length (B4 A9.cs R) rfl hoY ⟨w3.heap.size+1,0,none⟩ 1 1 (⟨i,r,a,t,0,0,true,some ⟨w3.heap.size,0,none⟩,[⟨(b:Int),a,t,0,0⟩],1,none,[],0,u.w,u.p,3,0⟩:A9).cs rfl rfl hcY (qO _) (by decide) (by unfold maxLen;omega) (by omega) ?_;intro v2 q2 hown2 hg2 hl2;obtain⟨a2,n2,c2,rfl⟩:=I4 hown2)
 refine E5 hK (HSf.out _ (HpY.grown hg2 hpv) (HeY.grown hg2 hne1) (HsY.grown hg2 hne2) (HfY.grown hg2 Ay5)) ?_;clear hK K hS;intro hS;(try simp only[Act.put,B9])
 have hfp:q2.w.frozen? ⟨p,0,none⟩=false:=(HpY.grown hg2 hpv).f 0;iterate 2
  refine J4 22 ?_ rfl rfl (by kernel_rfl) hS (fun _ _ _ h=>h) ?_ ?_
  rotate_left
  ·(intro w h;(try dsimp only at h);go_split_ands;go_simp;try with_reducible rfl)
  (try simp only[Act.put,B9])
 refine I0 24 (by kernel_rfl) rfl fun K hK=>?_;go_simp;refine M9 hK (by kernel_rfl) ?_;clear hK K;(try clear hS)
 (try simp only[Act.put,B9])
 clear m0 m5 m7 m8 n0 n1 o0 o1 hfp;have hKg:B7 (fun b=>b∈ob (Value.slice ar R.length cr)∨b=p) w3 (q2.w.setCell ⟨p,0,none⟩ (Value.slice a2 n2 c2)):=((B7.to (B7.refl _ w3) hYs).step ⟨hg2.os,hg2.tape,hg2.output,hg2.size,fun j hj hn=>hg2.block j hj (fun e=>hn (.inl (O2.2 e.symm)))⟩).step (B7.set _ _ _ (.inr rfl));have hst5:C4 (q2.w.setCell ⟨p,0,none⟩ (Value.slice a2 n2 c2)) p [(Value.slice a2 n2 c2),.map (some bi),.slice (some ⟨gg,0,none⟩) s3.rg.length s3.rg.length,.slice ap s.pz.length cp,.slice (some ⟨gs,0,none⟩) s3.sp.length s3.sp.length]:=(HpY.grown hg2 hpv).setj (j:=0) (by simp) (Value.slice a2 n2 c2);have Az8:∀b∈ob (Value.slice ar R.length cr),b<w3.heap.size:=fun b hb=>(bH HM3.out.rr b hb).2;have yI:p<w3.heap.size:=HM3.out.st.lt;have hv2:∀b,(Value.slice a2 n2 c2).ownBlock=some b→b≠p:=fun x hx=>by
  rcases hl2 x hx with h'|h'
  ·exact fun e=>hpv (by rw[h',e])
  ·have h'':x=w3.heap.size+1+1:=h'.trans dR
   omega
 have Ay9:(q2.w.setCell ⟨p,0,none⟩ (Value.slice a2 n2 c2)).ownsRow wB.heap.size 40 13 (Value.slice a2 n2 c2) (R ++ [(⟨i,r,a,t,0,0,true,some ⟨w3.heap.size,0,none⟩,[⟨(b:Int),a,t,0,0⟩],1,none,[],0,u.w,u.p,3,0⟩:A9)]).length (B4 A9.cs (R ++ [(⟨i,r,a,t,0,0,true,some ⟨w3.heap.size,0,none⟩,[⟨(b:Int),a,t,0,0⟩],1,none,[],0,u.w,u.p,3,0⟩:A9)])):=by
  have h1:=cO hown2 ⟨p,0,none⟩ (Value.slice a2 n2 c2) hv2;rw[←Y1 A9.cs (⟨i,r,a,t,0,0,true,some ⟨w3.heap.size,0,none⟩,[⟨(b:Int),a,t,0,0⟩],1,none,[],0,u.w,u.p,3,0⟩:A9),←U6]at h1;rw[List.length_append];exact h1
 have hrk:K3 (⟨i,r,a,t,0,0,true,some ⟨w3.heap.size,0,none⟩,[⟨(b:Int),a,t,0,0⟩],1,none,[],0,u.w,u.p,3,0⟩:A9)=[w3.heap.size]:=by unfold K3 A9.lv A9.pv;simp only[V3];rfl
 have hl5:∀z∈ob (Value.slice a2 n2 c2),z∈ob (Value.slice ar R.length cr)∨(w3.heap.size≤z∧z∉K3 (⟨i,r,a,t,0,0,true,some ⟨w3.heap.size,0,none⟩,[⟨(b:Int),a,t,0,0⟩],1,none,[],0,u.w,u.p,3,0⟩:A9)):=fun x hx=>by
  rcases hl2 x (O2.1 hx)with h'|h'
  ·exact .inl (O2.2 h')
  ·have h'':x=w3.heap.size+1+1:=h'.trans dR
   rw[hrk];exact .inr ⟨by omega,by simp;omega⟩
 have Az9:wB.heap.size≤w3.heap.size:=by obtain⟨y,e⟩:=HX3.out;rw[e];exact y.b.size
 have hm5:P5 (q2.w.setCell ⟨p,0,none⟩ (Value.slice a2 n2 c2)) wB.heap.size (⟨i,r,a,t,0,0,true,some ⟨w3.heap.size,0,none⟩,[⟨(b:Int),a,t,0,0⟩],1,none,[],0,u.w,u.p,3,0⟩:A9):=by
  refine⟨Bb8 (cs:=(⟨(b:Int),a,t,0,0⟩:E0).cs) ?_ Az9 rfl (by show 1≤maxLen;decide),⟨rfl,.inl ⟨rfl,rfl⟩⟩⟩;rw[Below.heap_setCell q2.w ⟨p,0,none⟩ (Value.slice a2 n2 c2) w3.heap.size (by show w3.heap.size≠p;omega),hg2.block w3.heap.size (Nat.lt_of_lt_of_le (show w3.heap.size<w3.heap.size+1+1 by omega) (Nat.le_of_eq dR.symm)) (fun e=>by have:=Az8 w3.heap.size (O2.2 e.symm);omega)];exact hY0
 have hM5:=HM3.out.pushR (s':={s3 with rs:=s3.rs ++ [(⟨i,r,a,t,0,0,true,some ⟨w3.heap.size,0,none⟩,[⟨(b:Int),a,t,0,0⟩],1,none,[],0,u.w,u.p,3,0⟩:A9).br]}) hKg hst5 Ay9 hl5 hm5 (fun x hx=>by rw[hrk]at hx;simp at hx;omega) (by rw[hrk];simp) rfl rfl rfl rfl rfl;have hX5:∃y:A7 wB,q2.w.setCell ⟨p,0,none⟩ (Value.slice a2 n2 c2)=y.w:=q2.set ⟨p,0,none⟩ HM3.out.ge.1 (Value.slice a2 n2 c2);have hk5:=HK3.out.trans hKg (fun x hx=>.inl (by
  rcases hx with hx|rfl
  ·exact .inl (by simp[D6,hx])
  ·exact .inl (by simp[D6])))
 have hw3:w.heap.size≤w3.heap.size:=HK3.out.size;have hF5:∀x,K9 p bi gg gs (Value.slice a2 n2 c2) (.slice ap s.pz.length cp) (R ++ [(⟨i,r,a,t,0,0,true,some ⟨w3.heap.size,0,none⟩,[⟨(b:Int),a,t,0,0⟩],1,none,[],0,u.w,u.p,3,0⟩:A9)]) x→K9 p bi gg gs (Value.slice ar R.length cr) (.slice ap s.pz.length cp) R x∨w.heap.size≤x:=fun x hx=>by
  rcases hx with hx|⟨y,hy,hx⟩
  ·unfold D6 at hx
   simp only[List.mem_cons,List.mem_append]at hx;rcases hx with hx|hx|hx|hx|hx|hx
   ·exact .inl (.inl (by simp[D6,hx]))
   ·exact .inl (.inl (by simp[D6,hx]))
   ·exact .inl (.inl (by simp[D6,hx]))
   ·exact .inl (.inl (by simp[D6,hx]))
   ·rcases hl5 x hx with h'|h'
    ·exact .inl (.inl (by simp[D6,h']))
    ·exact .inr (by omega)
   ·exact .inl (.inl (by simp[D6,hx]))
  ·rcases List.mem_append.1 hy with hy|hy
   ·exact .inl (.inr ⟨y,hy,hx⟩)
   ·rw[List.mem_singleton]at hy;subst hy
    rw[hrk]at hx;simp at hx;exact .inr (by omega)
 have HE:=A3 (show Y9 s ⟨d,q,a,t,k,(b:Int),pl,r,i⟩={s3 with rs:=s3.rs ++ [(⟨i,r,a,t,0,0,true,some ⟨w3.heap.size,0,none⟩,[⟨(b:Int),a,t,0,0⟩],1,none,[],0,u.w,u.p,3,0⟩:A9).br],pz:=s3.pz ++ [false]}from by
  have e1:s.rs.length=R.length:=by rw[←Hh0.out.br,List.length_map]
  have e2:s.sp.getD b default=u:=by rw[A6,Hu.out];rfl
  rw[←Hs3.out,←Hs2.out];unfold Y9;dsimp only;rw[Int.toNat_natCast,e2,e1];rfl)
 have HM5:=A3 hM5;have HX5:=A3 hX5;have HK5:=A3 hk5;have HF5:=A3 hF5;have Aw2:=A3 (show s3.pz=s.pz from by rw[←Hs3.out];exact sB.out);clear hM5 hX5 hk5 hF5 hKg hst5 Az8 yI hv2 Ay9 hrk hl5 Az9 hm5 hw3 hg2 hl2 hown2 HpY HeY HsY HfY hne1 hne2 Ay5 hpv hsb hbY hoY hcY dR hY1 hY0 hYw hYs HSf dQ;go_upto_region 5 with fail;generalize q2.w.setCell ⟨p,0,none⟩ (Value.slice a2 n2 c2)=w5 at *;generalize(⟨i,r,a,t,0,0,true,some ⟨w3.heap.size,0,none⟩,[⟨(b:Int),a,t,0,0⟩],1,none,[],0,u.w,u.p,3,0⟩:A9)=rn at *;have p3:w5.cell? ⟨p,3,none⟩=some (.slice ap s.pz.length cp):=HM5.out.st.c 3 _ rfl;have hpb:s.pz.length≤100000:=by rw[Hpz.out];exact hlr
 obtain⟨x5,hx5⟩:=HX5.out;have Hx5:=A3 hx5;clear hx5;go_wp2_with(at_builtin;(refine gL (w0:=wB) (k:=1) ?hw rfl _ _ 102 rfl wB.heap.size (Nat.le_refl _) ?hb 4 (.bool false) 1 Bc0 (.slice ap s.pz.length cp) s.pz.length (s.pz.map .bool) rfl ?hown ⟨w5.heap.size,0,none⟩ 1 1 [.bool false] rfl ?hn ?hc ?h1 (by decide) ?h63 ?hbytes ?_;rotate_right 1;intro v6 q6 hown6 hg6 hl6;refine Hid.out ?_))
 case hw=>exact A8.alloc ⟨x5,Hx5.out⟩ _
 case hb=>have h1:=x5.b.size;have h2:w5.heap.size=x5.w.heap.size:=congrArg (·.heap.size) Hx5.out;simp;omega
 case hown=>
  have h1:w5.ownsRow wB.heap.size 4 1 (.slice ap s.pz.length cp) s3.pz.length (s3.pz.map .bool):=HM5.out.pz;rw[Aw2.out]at h1;exact J8 h1 (A8.alloc (A8.self _) _)
 case hn=>rfl
 case hc=>exact sZ [.bool false] _ rfl
 case h1=>intro v hv;rw[List.mem_singleton]at hv;subst hv;rfl
 case h63=>unfold maxLen;omega
 case hbytes=>omega
 obtain⟨a6,n6,c6,rfl⟩:=I4 hown6;have hY:A8 w5 (w5.alloc (.cells #[.bool false] 4)):=A8.alloc (A8.self _) _;have dR:(w5.alloc (.cells #[.bool false] 4)).heap.size=w5.heap.size+1:=by simp
 generalize w5.alloc (.cells #[.bool false] 4)=Y at *;have hsb:=HM5.out.ap.b;unfold D6 at hsb;simp only[List.nodup_cons,List.mem_cons,List.mem_append,not_or]at hsb;have hpv:some p≠(Value.slice ap s.pz.length cp).ownBlock:=fun e=>hsb.1.2.2.2.2 (O2.2 e.symm);have hb6:=(HM5.out.st.to hY).grown hg6 hpv;have k3:q6.w.cell? ⟨p,3,none⟩=some (.slice ap s.pz.length cp):=hb6.c 3 _ rfl;have kf:∀o,q6.w.frozen? ⟨p,o,none⟩=false:=fun o=>hb6.f o;have yI:p<w5.heap.size:=HM5.out.st.lt;have Ay6:∀x,(Value.slice a6 n6 c6).ownBlock=some x→x≠p:=fun x hx=>by
  rcases hl6 x hx with h'|h'
  ·exact fun e=>hpv (by rw[h',e])
  ·omega
 have hKg:B7 (fun b=>b∈ob (Value.slice ap s.pz.length cp)∨b=p) w5 (q6.w.setCell ⟨p,3,none⟩ (.slice a6 n6 c6)):=((B7.to (B7.refl _ w5) hY).step ⟨hg6.os,hg6.tape,hg6.output,hg6.size,fun j hj hn=>hg6.block j hj (fun e=>hn (.inl (O2.2 e.symm)))⟩).step (B7.set _ _ _ (.inr rfl));have hl7:∀b∈ob (Value.slice a6 n6 c6),b∈ob (Value.slice ap s.pz.length cp)∨w5.heap.size≤b:=fun x hx=>by
  rcases hl6 x (O2.1 hx)with h'|h'
  ·exact .inl (O2.2 h')
  ·exact .inr (by omega)
 have hM7:=HM5.out.pushP (z:=false) hKg (hb6.setj (j:=3) (by simp) (.slice a6 n6 c6)) (by
  have h1:=cO hown6 ⟨p,3,none⟩ (.slice a6 n6 c6) Ay6;show World.ownsRow _ _ _ 1 _ (s3.pz.length+1) (s3.pz.map .bool ++ [.bool false]);rw[Aw2.out];exact h1) hl7
 have HR:=A3 (HP.out _ _ _ _ (by rw[HE.out];exact hM7) (HK5.out.trans hKg (fun x hx=>by
  rcases hx with hx|rfl
  ·exact .inl (.inl (by simp[D6,hx]))
  ·exact .inl (.inl (by simp[D6])))) (fun x hx=>by
  have hw5:w.heap.size≤w5.heap.size:=HK5.out.size;rcases hx with hx|⟨y,hy,hx⟩
  ·unfold D6 at hx
   simp only[List.mem_cons,List.mem_append]at hx;rcases hx with hx|hx|hx|hx|hx|hx
   ·exact .inl (.inl (by simp[D6,hx]))
   ·exact .inl (.inl (by simp[D6,hx]))
   ·exact .inl (.inl (by simp[D6,hx]))
   ·exact .inl (.inl (by simp[D6,hx]))
   ·exact HF5.out x (.inl (by simp[D6,hx]))
   ·rcases hl7 x hx with h'|h'
    ·exact .inl (.inl (by simp[D6,h']))
    ·exact .inr (by omega)
  ·exact HF5.out x (.inr ⟨y,hy,hx⟩)))
 clear hM7 hl7 hKg Ay6 yI hb6 hpv hsb dR hY hg6 hl6 hown6;refine A3 ?_;go_wp2_with fail;refine M7 (v:=.tuple #[]) (by simp[results,Tryz.results76,go_sem]) rfl ?_;exact HR.out
end Go.Proofs.YtmmlmhnjjfnpnaaGreat
