/- Texts that belong together. -/
import Derived.Test.YtmmlmhnjjfnpnaaGreatTpNza
import Derived.BigQuiet
set_option linter.all false
namespace Go.Proofs.YtmmlmhnjjfnpnaaGreat
open Go.RowKit Go.ChangeMaps
set_option maxRecDepth 100000 in
set_option maxHeartbeats 16000000 in
theorem Bd4 (wB:World) (w:World) (hX:∃y:A6 wB,w=y.w) (p bi gg gs:Nat) (vr vp:Value) (R:List A8) (s:C7) (h:G7 w wB.heap.size p bi gg gs vr vp R s) (d q a t k:Int) (b:Nat) (pl r i:Int) (hbs:b<s.sp.length) (hbr:b<s.rg.length) (hpz:s.pz.length=R.length) (hnew:s.idx i=none) (hlr:R.length≤100000):
 Calls Tryz.prog 76 #[.pointer (some ⟨p,0,none⟩),.agg #[.int .i64 d,.int .i64 q,.int .i64 a,.int .i64 t,.int .i64 k,.int .i64 (b:Int),.int .i64 pl,.int .i64 r,.int .i64 i],.agg #[.int .i64 a,.int .i64 t]] w (u0 w wB.heap.size p bi gg gs vr vp R (Y4 s ⟨d,q,a,t,k,(b:Int),pl,r,i⟩)):=by
 have HP:=A2 (fun(w':World) (vr' vp':Value) (R':List A8) (h1:G7 w' wB.heap.size p bi gg gs vr' vp' R' (Y4 s ⟨d,q,a,t,k,(b:Int),pl,r,i⟩)) (h2:B7 (J7 p bi gg gs vr vp R) w w') (h3:∀b,J7 p bi gg gs vr' vp' R' b→J7 p bi gg gs vr vp R b∨w.heap.size≤b)=>show u0 w wB.heap.size p bi gg gs vr vp R (Y4 s ⟨d,q,a,t,k,(b:Int),pl,r,i⟩) (.returned (.tuple #[])) w' from⟨rfl,vr',vp',R',h1,h2,h3⟩);generalize u0 w wB.heap.size p bi gg gs vr vp R (Y4 s ⟨d,q,a,t,k,(b:Int),pl,r,i⟩)=PO at *;have Hh:=A2 h;have Hh0:=A2 h;have HX:=A2 hX;have Hbs:=A2 hbs;have Hbr:=A2 hbr;have Hpz:=A2 hpz;have fS:=A2 hnew;have hb0:(0:Int)≤(b:Int):=by omega
 have hbl:(b:Int)<(s.sp.length:Int):=by omega
 have zB:(b:Int)<(s.rg.length:Int):=by omega
 obtain⟨u,hu⟩:∃u,s.sp[b]? =some u:=⟨_,A3 hbs⟩
 have Hu:=A2 hu;obtain⟨ar,nr,cr,hvr⟩:=G5 h.rr;obtain⟨ap,np,cp,hvp⟩:=G5 h.pz;have hnr:nr=R.length:=by
  have h1:=h.rr;rw[hvr]at h1;obtain⟨e,a',c',e2,_⟩:=P2 A8.len (by decide) h1;simp only[Value.slice.injEq]at e2;exact e2.2.1
 have hnp:np=s.pz.length:=by
  have h1:=h.pz;rw[hvp]at h1;obtain⟨_,⟨e2,e3⟩|⟨_,_,_,e2,_⟩⟩:=h1
  ·simp only[Value.slice.injEq]at e2;omega
  ·simp only[Value.slice.injEq]at e2;exact e2.2.1
 subst hnr hnp hvr hvp;obtain⟨x,hx⟩:=A6.refl w;rw[hx];clear hx h hX hbs hbr hpz hnew hu;go_enter Tryz.func76,Tryz.ntmps76;go_upto_region 1 with fail;obtain⟨W,bx,y0,hW,hbx,-,B8,Hup,Hbx,HB0,HB1⟩:=W5 x ([Value.int .i64 d,.int .i64 q,.int .i64 a,.int .i64 t,.int .i64 k,.int .i64 (b:Int),.int .i64 pl,.int .i64 r,.int .i64 i]) 63 ([Value.int .i64 a,.int .i64 t]) 36;rw[hW,hbx];clear hW hbx;have hB0:=fun y:A6 W=>HB0.since y;have hB1:=fun y:A6 W=>HB1.since y;clear HB0 HB1;replace Hh:=A2 (Hh.out.to B8);have HBe:=A2 hB0;have HBs:=A2 hB1;have g4:∀w',A7 W w'→w'.cell? ⟨p,4,none⟩=some (.slice (some ⟨gs,0,none⟩) s.sp.length s.sp.length):=fun w' h=>(Hh.out.st.to h).c 4 _ rfl;have e5:∀w',A7 W w'→w'.cell? ⟨bx,5,none⟩=some (.int .i64 (b:Int)):=fun w' h=>by obtain⟨y,rfl⟩:=h;exact(HBe.out y).c 5 _ rfl
 have q0:∀w',A7 W w'→w'.cell? ⟨gs,b*4,none⟩=some (.int .i64 u.w):=fun w' h=>(Hh.out.sp.to h).c _ _ (G0 D3.len s.sp b u 0 _ Hu.out rfl);have q1:∀w',A7 W w'→w'.cell? ⟨gs,b*4+1,none⟩=some (.int .i64 u.p):=fun w' h=>(Hh.out.sp.to h).c _ _ (G0 D3.len s.sp b u 1 _ Hu.out rfl);have q2:∀w',A7 W w'→w'.cell? ⟨gs,b*4+2,none⟩=some (.int .i64 u.r):=fun w' h=>(Hh.out.sp.to h).c _ _ (G0 D3.len s.sp b u 2 _ Hu.out rfl);have q3:∀w',A7 W w'→w'.cell? ⟨gs,b*4+3,none⟩=some (.bool u.z):=fun w' h=>(Hh.out.sp.to h).c _ _ (G0 D3.len s.sp b u 3 _ Hu.out rfl);clear hB0 hB1 B8;go_region_held3 (fun w'=>A7 W w') (first|assumption|exact A7.drew _|exact A7.drew' (A7.alloc (A7.of _) _)) (fail);go_upto_region 2 with fail;clear g4 e5 q0 q1 q2 q3;obtain⟨y1,e2,C5,hsz0,hlt0,HX0⟩:=iL y0 [.int .i64 u.w,.int .i64 u.p,.int .i64 u.r,.bool u.z] 180;rw[e2];obtain⟨hx0,hx1,hx2,hx3,hxf⟩:=fA HX0;skip;clear e2 C5;generalize y0.w.heap.size=gf at *;obtain⟨E9,G1,J4,I9,G8⟩:=bF HX0;have I5:=A2 (And.intro hsz0 hlt0);clear hlt0 hsz0 HX0;have jS:=A2 (HBe.out y1);have oH:=A2 (HBs.out y1);have HBf:=A2 (show C3 y1.w gf u.cs from qW I5.out.2 (E9 (A6.self _)) (G1 (A6.self _)) (J4 (A6.self _)) (I9 (A6.self _)) (fun o=>G8 (A6.self _) o));replace Hh:=A2 (Hh.out.to ⟨y1,rfl⟩);have HK:=A2 (show B7 (J7 p bi gg gs (.slice ar R.length cr) (.slice ap s.pz.length cp) R) w y1.w from by obtain⟨y,e⟩:=Hup.out y1;rw[e];exact B7.of y);have HN1:=A2 (Hh0.out.notS (b:=bx) Hbx.out.1);have HN2:=A2 (Hh0.out.notS (b:=bx+1) (by have:=Hbx.out;omega));have HN3:=A2 (Hh0.out.notS (b:=gf) (by have h1:=Hbx.out;have h2:=I5.out;omega));have HF:=A2 (show w.heap.size≤bx∧bx+1<y1.w.heap.size∧gf<y1.w.heap.size from⟨Hbx.out.1,by have h1:=Hbx.out;have h2:=I5.out;omega,I5.out.2⟩);have HX1:=A2 (Hh0.out.since HX.out HK.out);clear hx0 hx1 hx2 hx3 hxf E9 G1 J4 I9 G8 I5 Hbx Hup HBe HBs;generalize bx+1=bw at *;generalize y1.w=w1 at *;have g0:∀w',A7 w1 w'→w'.cell? ⟨p,0,none⟩=some (.slice ar R.length cr):=fun w' h=>(Hh.out.st.to h).c 0 _ rfl;have g1:∀w',A7 w1 w'→w'.cell? ⟨p,1,none⟩=some (.map (some bi)):=fun w' h=>(Hh.out.st.to h).c 1 _ rfl;have e8:∀w',A7 w1 w'→w'.cell? ⟨bx,8,none⟩=some (.int .i64 i):=fun w' h=>(jS.out.to h).c 8 _ rfl;refine R0 (fun w'=>A7 w1 w') 11 (by kernel_rfl) (A7.drew' (A7.self _)) (fun hS=>?_);refine tk 0 ?_ rfl (by kernel_rfl) hS (fun _ _ _ h=>h) ?_ ?_;rotate_left
 ·(intro w h;(try dsimp only at h);go_split_ands;go_simp;try with_reducible rfl)
 (try simp only[Act.put,B0])
 refine tk 1 ?_ rfl (by kernel_rfl) hS (fun _ _ _ h=>h) ?_ ?_;rotate_left
 ·(intro w h;(try dsimp only at h);go_split_ands;go_simp;try with_reducible rfl)
 (try simp only[Act.put,B0])
 refine tk 2 ?_ rfl (by kernel_rfl) hS (fun _ _ _ h=>h) ?_ ?_;rotate_left
 ·(intro w h;(try dsimp only at h);go_split_ands;go_simp;try with_reducible rfl)
 (try simp only[Act.put,B0])
 refine tk 3 ?_ rfl (by kernel_rfl) hS (fun _ _ _ h=>h) ?_ ?_;rotate_left
 ·(intro w h;(try dsimp only at h);go_split_ands;go_simp;try with_reducible rfl)
 (try simp only[Act.put,B0])
 refine tk 4 ?_ rfl (by kernel_rfl) hS (fun _ _ _ h=>h) ?_ ?_;rotate_left
 ·(intro w h;(try dsimp only at h);go_split_ands;go_simp;try with_reducible rfl)
 (try simp only[Act.put,B0])
 refine tk 5 ?_ rfl (by kernel_rfl) hS (fun _ _ _ h=>h) ?_ ?_;rotate_left
 ·(intro w h;(try dsimp only at h);go_split_ands;go_simp;try with_reducible rfl)
 (try simp only[Act.put,B0])
 refine tk 6 ?_ rfl (by kernel_rfl) hS (fun _ _ _ h=>h) ?_ ?_;rotate_left
 ·(intro w h;(try dsimp only at h);go_split_ands;go_simp;try with_reducible rfl)
 (try simp only[Act.put,B0])
 refine tk 7 ?_ rfl (by kernel_rfl) hS (fun _ _ _ h=>h) ?_ ?_;rotate_left
 ·(intro w h;(try dsimp only at h);go_split_ands;go_simp;try with_reducible rfl)
 (try simp only[Act.put,B0])
 refine tk 8 ?_ rfl (by kernel_rfl) hS (fun _ _ _ h=>h) ?_ ?_;rotate_left
 ·(intro w h;(try dsimp only at h);go_split_ands;go_simp;try with_reducible rfl)
 (try simp only[Act.put,B0])
 refine tk 9 ?_ rfl (by kernel_rfl) hS (fun _ _ _ h=>h) ?_ ?_;rotate_left
 ·(intro w h;(try dsimp only at h);go_split_ands;go_simp;try with_reducible rfl)
 (try simp only[Act.put,B0])
 refine tk 10 ?_ rfl (by kernel_rfl) hS (fun _ _ _ h=>h) ?_ ?_;rotate_left
 ·(intro w h;(try dsimp only at h);go_split_ands;go_simp;try with_reducible rfl)
 (try simp only[Act.put,B0])
 refine G6 11 (by kernel_rfl) rfl fun K hK=>?_;(refine Ad1 (b:=bi) fL rfl _ _ _ _ rfl Tryz.underlying100 rfl i rfl (.int .i64 (R.length:Int)) rfl Hh.out.ix.drew (Bd2 fS.out) ?_;intro w2 hm2 hg2)
 refine M0 hK (by kernel_rfl) ?_;clear hK K;(try clear hS)
 (try simp only[Act.put,B0])
 clear g0 g1 e8;have hst:A7 w1 w1.drew:=A7.drew' (A7.self _);obtain⟨hM,hK⟩:=(Hh.out.to hst).storeIx hm2 hg2;have hbe:=(jS.out.to hst).keepS hK (fun e=>HN1.out (.inl (by rw[e];simp[D2])));have hbs:=(oH.out.to hst).keepS hK (fun e=>HN2.out (.inl (by rw[e];simp[D2])));have hbf:=(HBf.out.to hst).keepS hK (fun e=>HN3.out (.inl (by rw[e];simp[D2])));have hk:=HK.out.trans ((B7.to (B7.refl _ w1) hst).step hK) (fun g e=>.inl (.inl (by rw[e];simp[D2])));have HM:=A2 hM;have U7:=A2 hbe;have eT:=A2 hbs;have Ay0:=A2 hbf;have HK2:=A2 hk;clear hM hbe hbs hbf hk hK hst hm2 hg2 Hh jS oH HBf HK;obtain⟨s2,hs2⟩:∃s2:C7,{s with ix:=s.ix ++ [(i,R.length)]}=s2:=⟨_,rfl⟩
 rw[hs2]at HM;have Hs2:=A2 hs2;have hrg2:s2.rg=s.rg:=by rw[←hs2]
 have hsp2:s2.sp=s.sp:=by rw[←hs2]
 have AD6:s2.pz=s.pz:=by rw[←hs2]
 have AD8:s2.rs=s.rs:=by rw[←hs2]
 have lQ:=A2 hrg2;have BI3:=A2 hsp2;have sZ:=A2 AD6;have BI2:=A2 AD8;clear hs2 hrg2 hsp2 AD6 AD8;go_upto_region 3 with fail;have g0:∀w',A7 w2 w'→w'.cell? ⟨p,0,none⟩=some (.slice ar R.length cr):=fun w' h=>(HM.out.st.to h).c 0 _ rfl;have g2:∀w',A7 w2 w'→w'.cell? ⟨p,2,none⟩=some (.slice (some ⟨gg,0,none⟩) s.rg.length s.rg.length):=fun w' h=>by have h1:=(HM.out.st.to h).c 2 _ rfl;rw[lQ.out]at h1;exact h1
 have e5:∀w',A7 w2 w'→w'.cell? ⟨bx,5,none⟩=some (.int .i64 (b:Int)):=fun w' h=>(U7.out.to h).c 5 _ rfl;have AB7:b<s2.rg.length:=by rw[lQ.out];exact Hbr.out
 have d0:w2.cell? ⟨gg,b,none⟩=some (.int .i64 s2.rg[b]):=HM.out.rg.c b _ (by rw[List.getElem?_map,A3 AB7];rfl);have df:∀o,w2.frozen? ⟨gg,o,none⟩=false:=fun o=>HM.out.rg.f o;refine R0 (fun w'=>A7 w2 w') 12 (by kernel_rfl) (A7.drew' (A7.self _)) (fun hS=>?_);refine tk 0 ?_ rfl (by kernel_rfl) hS (fun _ _ _ h=>h) ?_ ?_;rotate_left
 ·(intro w h;(try dsimp only at h);go_split_ands;go_simp;try with_reducible rfl)
 (try simp only[Act.put,B0])
 refine tk 1 ?_ rfl (by kernel_rfl) hS (fun _ _ _ h=>h) ?_ ?_;rotate_left
 ·(intro w h;(try dsimp only at h);go_split_ands;go_simp;try with_reducible rfl)
 (try simp only[Act.put,B0])
 refine tk 2 ?_ rfl (by kernel_rfl) hS (fun _ _ _ h=>h) ?_ ?_;rotate_left
 ·(intro w h;(try dsimp only at h);go_split_ands;go_simp;try with_reducible rfl)
 (try simp only[Act.put,B0])
 refine tk 3 ?_ rfl (by kernel_rfl) hS (fun _ _ _ h=>h) ?_ ?_;rotate_left
 ·(intro w h;(try dsimp only at h);go_split_ands;go_simp;try with_reducible rfl)
 (try simp only[Act.put,B0])
 refine tk 4 ?_ rfl (by kernel_rfl) hS (fun _ _ _ h=>h) ?_ ?_;rotate_left
 ·(intro w h;(try dsimp only at h);go_split_ands;go_simp;try with_reducible rfl)
 (try simp only[Act.put,B0])
 refine tk 5 ?_ rfl (by kernel_rfl) hS (fun _ _ _ h=>h) ?_ ?_;rotate_left
 ·(intro w h;(try dsimp only at h);go_split_ands;go_simp;try with_reducible rfl)
 (try simp only[Act.put,B0])
 refine tk 6 ?_ rfl (by kernel_rfl) hS (fun _ _ _ h=>h) ?_ ?_;rotate_left
 ·(intro w h;(try dsimp only at h);go_split_ands;go_simp;try with_reducible rfl)
 (try simp only[Act.put,B0])
 refine tk 7 ?_ rfl (by kernel_rfl) hS (fun _ _ _ h=>h) ?_ ?_;rotate_left
 ·(intro w h;(try dsimp only at h);go_split_ands;go_simp;try with_reducible rfl)
 (try simp only[Act.put,B0])
 refine tk 8 ?_ rfl (by kernel_rfl) hS (fun _ _ _ h=>h) ?_ ?_;rotate_left
 ·(intro w h;(try dsimp only at h);go_split_ands;go_simp;try with_reducible rfl)
 (try simp only[Act.put,B0])
 refine tk 9 ?_ rfl (by kernel_rfl) hS (fun _ _ _ h=>h) ?_ ?_;rotate_left
 ·(intro w h;(try dsimp only at h);go_split_ands;go_simp;try with_reducible rfl)
 (try simp only[Act.put,B0])
 refine tk 10 ?_ rfl (by kernel_rfl) hS (fun _ _ _ h=>h) ?_ ?_;rotate_left
 ·(intro w h;(try dsimp only at h);go_split_ands;go_simp;try with_reducible rfl)
 (try simp only[Act.put,B0])
 refine tk 11 ?_ rfl (by kernel_rfl) hS (fun _ _ _ h=>h) ?_ ?_;rotate_left
 ·(intro w h;(try dsimp only at h);go_split_ands;go_simp;try with_reducible rfl)
 (try simp only[Act.put,B0])
 refine G6 12 (by kernel_rfl) rfl fun K hK=>?_;go_simp;refine M0 hK (by kernel_rfl) ?_;clear hK K;(try clear hS)
 (try simp only[Act.put,B0])
 clear g0 g2 e5 d0 df;have hst:A7 w2 w2.drew:=A7.drew' (A7.self _);obtain⟨hM,hK⟩:=(HM.out.to hst).setRg (b:=b) AB7 (R.length:Int);have hbe:=(U7.out.to hst).keepS hK (fun e=>HN1.out (.inl (by rw[e];simp[D2])));have hbs:=(eT.out.to hst).keepS hK (fun e=>HN2.out (.inl (by rw[e];simp[D2])));have hbf:=(Ay0.out.to hst).keepS hK (fun e=>HN3.out (.inl (by rw[e];simp[D2])));have hk:=HK2.out.trans ((B7.to (B7.refl _ w2) hst).step hK) (fun g e=>.inl (.inl (by rw[e];simp[D2])));have HM3:=A2 hM;have x9:=A2 hbe;have oI:=A2 hbs;have oF:=A2 hbf;have HK3:=A2 hk;clear hM hbe hbs hbf hk hK hst HM U7 eT Ay0 HK2;go_upto_region 4 with fail;refine Eq.mp (congrArg (Code.wp _ _ _ _) (show w2.drew.setCell ⟨gg,b,none⟩ (.int .i64 (R.length:Int))= _ from rfl)) ?_;have HX3:=A2 (Hh0.out.since HX.out HK3.out);generalize w2.drew.setCell ⟨gg,b,none⟩ (.int .i64 (R.length:Int))=w3 at *;have Hrb:=A2 (show s2.rg.set b (R.length:Int)=s.rg.set b (R.length:Int) by rw[lQ.out]);obtain⟨s3,hs3⟩:∃s3:C7,{s2 with rg:=s2.rg.set b (R.length:Int)}=s3:=⟨_,rfl⟩
 rw[hs3]at HM3;have Hs3:=A2 hs3;clear hs3;have HF3:=A2 (show bx<w3.heap.size∧bw<w3.heap.size∧gf<w3.heap.size from⟨x9.out.lt,oI.out.lt,oF.out.lt⟩);have m0:w3.cell? ⟨p,0,none⟩=some (.slice ar R.length cr):=HM3.out.st.c 0 _ rfl;have m5:w3.cell? ⟨bx,5,none⟩=some (.int .i64 (b:Int)):=x9.out.c 5 _ rfl;have m7:w3.cell? ⟨bx,7,none⟩=some (.int .i64 r):=x9.out.c 7 _ rfl;have m8:w3.cell? ⟨bx,8,none⟩=some (.int .i64 i):=x9.out.c 8 _ rfl;have n0:w3.cell? ⟨bw,0,none⟩=some (.int .i64 a):=oI.out.c 0 _ rfl;have n1:w3.cell? ⟨bw,1,none⟩=some (.int .i64 t):=oI.out.c 1 _ rfl;have o0:w3.cell? ⟨gf,0,none⟩=some (.int .i64 u.w):=oF.out.c 0 _ rfl;have o1:w3.cell? ⟨gf,1,none⟩=some (.int .i64 u.p):=oF.out.c 1 _ rfl;have HSf:=A2 (fun(w':World) (h1:C3 w' p [.slice ar R.length cr,.map (some bi),.slice (some ⟨gg,0,none⟩) s3.rg.length s3.rg.length,.slice ap s.pz.length cp,.slice (some ⟨gs,0,none⟩) s3.sp.length s3.sp.length]) (h2:C3 w' bx [.int .i64 d,.int .i64 q,.int .i64 a,.int .i64 t,.int .i64 k,.int .i64 (b:Int),.int .i64 pl,.int .i64 r,.int .i64 i]) (h3:C3 w' bw [.int .i64 a,.int .i64 t]) (h4:C3 w' gf u.cs)=>
  show w'.cell? ⟨p,0,none⟩=some (.slice ar R.length cr)∧w'.cell? ⟨bx,5,none⟩=some (.int .i64 (b:Int))∧w'.cell? ⟨bx,7,none⟩=some (.int .i64 r)∧w'.cell? ⟨bx,8,none⟩=some (.int .i64 i)∧w'.cell? ⟨bw,0,none⟩=some (.int .i64 a)∧w'.cell? ⟨bw,1,none⟩=some (.int .i64 t)∧w'.cell? ⟨gf,0,none⟩=some (.int .i64 u.w)∧w'.cell? ⟨gf,1,none⟩=some (.int .i64 u.p)from⟨h1.c 0 _ rfl,h2.c 5 _ rfl,h2.c 7 _ rfl,h2.c 8 _ rfl,h3.c 0 _ rfl,h3.c 1 _ rfl,h4.c 0 _ rfl,h4.c 1 _ rfl⟩)
 have dD:=A2 (fun(w':World) (hw:A7 w3 w')=>HSf.out w' (HM3.out.st.to hw) (x9.out.to hw) (oI.out.to hw) (oF.out.to hw));refine R0 (fun w'=>w'.cell? ⟨p,0,none⟩=some (.slice ar R.length cr)∧w'.cell? ⟨bx,5,none⟩=some (.int .i64 (b:Int))∧w'.cell? ⟨bx,7,none⟩=some (.int .i64 r)∧w'.cell? ⟨bx,8,none⟩=some (.int .i64 i)∧w'.cell? ⟨bw,0,none⟩=some (.int .i64 a)∧w'.cell? ⟨bw,1,none⟩=some (.int .i64 t)∧w'.cell? ⟨gf,0,none⟩=some (.int .i64 u.w)∧w'.cell? ⟨gf,1,none⟩=some (.int .i64 u.p)) 24 (by kernel_rfl) (dD.out _ (A7.drew' (A7.self _))) (fun hS=>?_);refine tk 0 ?_ rfl (by kernel_rfl) hS (fun _ _ _ h=>h) ?_ ?_;rotate_left
 ·(intro w h;(try dsimp only at h);go_split_ands;go_simp;try with_reducible rfl)
 (try simp only[Act.put,B0])
 refine tk 1 ?_ rfl (by kernel_rfl) hS (fun _ _ _ h=>h) ?_ ?_;rotate_left
 ·(intro w h;(try dsimp only at h);go_split_ands;go_simp;try with_reducible rfl)
 (try simp only[Act.put,B0])
 refine tk 2 ?_ rfl (by kernel_rfl) hS (fun _ _ _ h=>h) ?_ ?_;rotate_left
 ·(intro w h;(try dsimp only at h);go_split_ands;go_simp;try with_reducible rfl)
 (try simp only[Act.put,B0])
 refine tk 3 ?_ rfl (by kernel_rfl) hS (fun _ _ _ h=>h) ?_ ?_;rotate_left
 ·(intro w h;(try dsimp only at h);go_split_ands;go_simp;try with_reducible rfl)
 (try simp only[Act.put,B0])
 refine tk 4 ?_ rfl (by kernel_rfl) hS (fun _ _ _ h=>h) ?_ ?_;rotate_left
 ·(intro w h;(try dsimp only at h);go_split_ands;go_simp;try with_reducible rfl)
 (try simp only[Act.put,B0])
 refine tk 5 ?_ rfl (by kernel_rfl) hS (fun _ _ _ h=>h) ?_ ?_;rotate_left
 ·(intro w h;(try dsimp only at h);go_split_ands;go_simp;try with_reducible rfl)
 (try simp only[Act.put,B0])
 refine tk 6 ?_ rfl (by kernel_rfl) hS (fun _ _ _ h=>h) ?_ ?_;rotate_left
 ·(intro w h;(try dsimp only at h);go_split_ands;go_simp;try with_reducible rfl)
 (try simp only[Act.put,B0])
 refine tk 7 ?_ rfl (by kernel_rfl) hS (fun _ _ _ h=>h) ?_ ?_;rotate_left
 ·(intro w h;(try dsimp only at h);go_split_ands;go_simp;try with_reducible rfl)
 (try simp only[Act.put,B0])
 refine tk 8 ?_ rfl (by kernel_rfl) hS (fun _ _ _ h=>h) ?_ ?_;rotate_left
 ·(intro w h;(try dsimp only at h);go_split_ands;go_simp;try with_reducible rfl)
 (try simp only[Act.put,B0])
 refine tk 9 ?_ rfl (by kernel_rfl) hS (fun _ _ _ h=>h) ?_ ?_;rotate_left
 ·(intro w h;(try dsimp only at h);go_split_ands;go_simp;try with_reducible rfl)
 (try simp only[Act.put,B0])
 refine tk 10 ?_ rfl (by kernel_rfl) hS (fun _ _ _ h=>h) ?_ ?_;rotate_left
 ·(intro w h;(try dsimp only at h);go_split_ands;go_simp;try with_reducible rfl)
 (try simp only[Act.put,B0])
 refine tk 11 ?_ rfl (by kernel_rfl) hS (fun _ _ _ h=>h) ?_ ?_;rotate_left
 ·(intro w h;(try dsimp only at h);go_split_ands;go_simp;try with_reducible rfl)
 (try simp only[Act.put,B0])
 refine tk 12 ?_ rfl (by kernel_rfl) hS (fun _ _ _ h=>h) ?_ ?_;rotate_left
 ·(intro w h;(try dsimp only at h);go_split_ands;go_simp;try with_reducible rfl)
 (try simp only[Act.put,B0])
 refine tk 13 ?_ rfl (by kernel_rfl) hS (fun _ _ _ h=>h) ?_ ?_;rotate_left
 ·(intro w h;(try dsimp only at h);go_split_ands;go_simp;try with_reducible rfl)
 (try simp only[Act.put,B0])
 refine tk 15 ?_ rfl (by kernel_rfl) hS (fun _ _ _ h=>h) ?_ ?_;rotate_left
 ·(intro w h;(try dsimp only at h);go_split_ands;go_simp;try with_reducible rfl)
 (try simp only[Act.put,B0])
 refine tk 16 ?_ rfl (by kernel_rfl) hS (fun _ _ _ h=>h) ?_ ?_;rotate_left
 ·(intro w h;(try dsimp only at h);go_split_ands;go_simp;try with_reducible rfl)
 (try simp only[Act.put,B0])
 refine tk 17 ?_ rfl (by kernel_rfl) hS (fun _ _ _ h=>h) ?_ ?_;rotate_left
 ·(intro w h;(try dsimp only at h);go_split_ands;go_simp;try with_reducible rfl)
 (try simp only[Act.put,B0])
 refine tk 18 ?_ rfl (by kernel_rfl) hS (fun _ _ _ h=>h) ?_ ?_;rotate_left
 ·(intro w h;(try dsimp only at h);go_split_ands;go_simp;try with_reducible rfl)
 (try simp only[Act.put,B0])
 refine G6 14 (by kernel_rfl) rfl fun K hK=>?_;go_simp;refine E6 hK (dD.out _ (A7.drew' (A7.alloc (A7.self _) _))) ?_;clear hK K hS;intro hS;(try simp only[Act.put,B0])
 refine tk 19 ?_ rfl (by kernel_rfl) hS (fun _ _ _ h=>h) ?_ ?_;rotate_left
 ·(intro w h;(try dsimp only at h);go_split_ands;go_simp;try with_reducible rfl)
 (try simp only[Act.put,B0])
 refine G6 20 (by kernel_rfl) rfl fun K hK=>?_;go_simp;refine E6 hK (dD.out _ (A7.drew' (A7.alloc (A7.alloc (A7.self _) _) _))) ?_;clear hK K hS;intro hS;(try simp only[Act.put,B0])
 have hYs:A7 w3 (((w3.alloc (.cells (⟨(b:Int),a,t,0,0⟩:F0).cs.toArray 152)).alloc (.cells (⟨i,r,a,t,0,0,true,some ⟨w3.heap.size,0,none⟩,[⟨(b:Int),a,t,0,0⟩],1,none,[],0,u.w,u.p,3,0⟩:A8).cs.toArray 40)).drew):=A7.drew' (A7.alloc (A7.alloc (A7.self _) _) _);have hYw:A7 wB (((w3.alloc (.cells (⟨(b:Int),a,t,0,0⟩:F0).cs.toArray 152)).alloc (.cells (⟨i,r,a,t,0,0,true,some ⟨w3.heap.size,0,none⟩,[⟨(b:Int),a,t,0,0⟩],1,none,[],0,u.w,u.p,3,0⟩:A8).cs.toArray 40)).drew):=by obtain⟨y,e⟩:=HX3.out;exact A7.trans ⟨y,e⟩ hYs
 have hY0:(((w3.alloc (.cells (⟨(b:Int),a,t,0,0⟩:F0).cs.toArray 152)).alloc (.cells (⟨i,r,a,t,0,0,true,some ⟨w3.heap.size,0,none⟩,[⟨(b:Int),a,t,0,0⟩],1,none,[],0,u.w,u.p,3,0⟩:A8).cs.toArray 40)).drew).heap[w3.heap.size]? =some (.cells (⟨(b:Int),a,t,0,0⟩:F0).cs.toArray 152):=by
  rw[nF,kW,kW,if_neg (by simp),if_pos rfl]
 have hY1:(((w3.alloc (.cells (⟨(b:Int),a,t,0,0⟩:F0).cs.toArray 152)).alloc (.cells (⟨i,r,a,t,0,0,true,some ⟨w3.heap.size,0,none⟩,[⟨(b:Int),a,t,0,0⟩],1,none,[],0,u.w,u.p,3,0⟩:A8).cs.toArray 40)).drew).heap[w3.heap.size+1]? =some (.cells (⟨i,r,a,t,0,0,true,some ⟨w3.heap.size,0,none⟩,[⟨(b:Int),a,t,0,0⟩],1,none,[],0,u.w,u.p,3,0⟩:A8).cs.toArray 40):=by
  rw[nF,kW,if_pos (by simp)]
 have dE:(((w3.alloc (.cells (⟨(b:Int),a,t,0,0⟩:F0).cs.toArray 152)).alloc (.cells (⟨i,r,a,t,0,0,true,some ⟨w3.heap.size,0,none⟩,[⟨(b:Int),a,t,0,0⟩],1,none,[],0,u.w,u.p,3,0⟩:A8).cs.toArray 40)).drew).heap.size=w3.heap.size+1+1:=by
  show(((w3.alloc _).alloc _)).heap.size= _;simp
 have hcY:∀j v,(⟨i,r,a,t,0,0,true,some ⟨w3.heap.size,0,none⟩,[⟨(b:Int),a,t,0,0⟩],1,none,[],0,u.w,u.p,3,0⟩:A8).cs[j]? =some v→(((w3.alloc (.cells (⟨(b:Int),a,t,0,0⟩:F0).cs.toArray 152)).alloc (.cells (⟨i,r,a,t,0,0,true,some ⟨w3.heap.size,0,none⟩,[⟨(b:Int),a,t,0,0⟩],1,none,[],0,u.w,u.p,3,0⟩:A8).cs.toArray 40)).drew).cell? ((⟨w3.heap.size+1,0,none⟩:Addr).add j)=some v:=fun j v hv=>by
  rw[Addr.add_lit];simp only[World.cell?,hY1,Nat.zero_add];simpa using hv
 have hoY:=I6 HM3.out.rr hYs;have hbY:=hYw.size;have hsb:=HM3.out.ap.b;unfold D2 at hsb;simp only[List.nodup_cons,List.mem_cons,List.mem_append,not_or]at hsb;have hpv:some p≠(Value.slice ar R.length cr).ownBlock:=fun e=>hsb.1.2.2.2.1 (N3.2 e.symm);have hne1:some bx≠(Value.slice ar R.length cr).ownBlock:=fun e=>HN1.out (.inl (by simp[D2,N3.2 e.symm]));have hne2:some bw≠(Value.slice ar R.length cr).ownBlock:=fun e=>HN2.out (.inl (by simp[D2,N3.2 e.symm]));have AD2:some gf≠(Value.slice ar R.length cr).ownBlock:=fun e=>HN3.out (.inl (by simp[D2,N3.2 e.symm]));have HpY:=HM3.out.st.to hYs;have HeY:=x9.out.to hYs;have HsY:=oI.out.to hYs;have HfY:=oF.out.to hYs;refine G6 21 (by kernel_rfl) rfl fun K hK=>?_;(refine L6 (w0:=wB) (k:=13) hYw rfl _ _ 31 rfl wB.heap.size (Nat.le_refl _) hbY 40 rI 136 wZ (.slice ar R.length cr) R.length (B6 A8.cs R) rfl hoY ⟨w3.heap.size+1,0,none⟩ 1 1 (⟨i,r,a,t,0,0,true,some ⟨w3.heap.size,0,none⟩,[⟨(b:Int),a,t,0,0⟩],1,none,[],0,u.w,u.p,3,0⟩:A8).cs rfl rfl hcY (nN _) (by decide) (by unfold maxLen;omega) (by omega) ?_;intro v2 q2 hown2 hg2 hl2;obtain⟨a2,n2,c2,rfl⟩:=G5 hown2)
 refine E6 hK (HSf.out _ (HpY.grown hg2 hpv) (HeY.grown hg2 hne1) (HsY.grown hg2 hne2) (HfY.grown hg2 AD2)) ?_;clear hK K hS;intro hS;(try simp only[Act.put,B0])
 have hfp:q2.w.frozen? ⟨p,0,none⟩=false:=(HpY.grown hg2 hpv).f 0;refine tk 22 ?_ rfl (by kernel_rfl) hS (fun _ _ _ h=>h) ?_ ?_;rotate_left
 ·(intro w h;(try dsimp only at h);go_split_ands;go_simp;try with_reducible rfl)
 (try simp only[Act.put,B0])
 refine tk 23 ?_ rfl (by kernel_rfl) hS (fun _ _ _ h=>h) ?_ ?_;rotate_left
 ·(intro w h;(try dsimp only at h);go_split_ands;go_simp;try with_reducible rfl)
 (try simp only[Act.put,B0])
 refine G6 24 (by kernel_rfl) rfl fun K hK=>?_;go_simp;refine M0 hK (by kernel_rfl) ?_;clear hK K;(try clear hS)
 (try simp only[Act.put,B0])
 clear m0 m5 m7 m8 n0 n1 o0 o1 hfp;have hKg:B7 (fun b=>b∈ob (Value.slice ar R.length cr)∨b=p) w3 (q2.w.setCell ⟨p,0,none⟩ (Value.slice a2 n2 c2)):=((B7.to (B7.refl _ w3) hYs).step ⟨hg2.os,hg2.tape,hg2.output,hg2.size,fun j hj hn=>hg2.block j hj (fun e=>hn (.inl (N3.2 e.symm)))⟩).step (B7.set _ _ _ (.inr rfl));have hst5:C3 (q2.w.setCell ⟨p,0,none⟩ (Value.slice a2 n2 c2)) p [(Value.slice a2 n2 c2),.map (some bi),.slice (some ⟨gg,0,none⟩) s3.rg.length s3.rg.length,.slice ap s.pz.length cp,.slice (some ⟨gs,0,none⟩) s3.sp.length s3.sp.length]:=(HpY.grown hg2 hpv).setj (j:=0) (by simp) (Value.slice a2 n2 c2);have AE5:∀b∈ob (Value.slice ar R.length cr),b<w3.heap.size:=fun b hb=>(aV HM3.out.rr b hb).2;have zJ:p<w3.heap.size:=HM3.out.st.lt;have hv2:∀b,(Value.slice a2 n2 c2).ownBlock=some b→b≠p:=fun x hx=>by
  rcases hl2 x hx with h'|h'
  ·exact fun e=>hpv (by rw[h',e])
  ·have h'':x=w3.heap.size+1+1:=h'.trans dE
   omega
 have AD7:(q2.w.setCell ⟨p,0,none⟩ (Value.slice a2 n2 c2)).ownsRow wB.heap.size 40 13 (Value.slice a2 n2 c2) (R ++ [(⟨i,r,a,t,0,0,true,some ⟨w3.heap.size,0,none⟩,[⟨(b:Int),a,t,0,0⟩],1,none,[],0,u.w,u.p,3,0⟩:A8)]).length (B6 A8.cs (R ++ [(⟨i,r,a,t,0,0,true,some ⟨w3.heap.size,0,none⟩,[⟨(b:Int),a,t,0,0⟩],1,none,[],0,u.w,u.p,3,0⟩:A8)])):=by
  have h1:=dL hown2 ⟨p,0,none⟩ (Value.slice a2 n2 c2) hv2;rw[←X8 A8.cs (⟨i,r,a,t,0,0,true,some ⟨w3.heap.size,0,none⟩,[⟨(b:Int),a,t,0,0⟩],1,none,[],0,u.w,u.p,3,0⟩:A8),←X7]at h1;rw[List.length_append];exact h1
 have hrk:J2 (⟨i,r,a,t,0,0,true,some ⟨w3.heap.size,0,none⟩,[⟨(b:Int),a,t,0,0⟩],1,none,[],0,u.w,u.p,3,0⟩:A8)=[w3.heap.size]:=by unfold J2 A8.lv A8.pv;simp only[T7];rfl
 have hl5:∀z∈ob (Value.slice a2 n2 c2),z∈ob (Value.slice ar R.length cr)∨(w3.heap.size≤z∧z∉J2 (⟨i,r,a,t,0,0,true,some ⟨w3.heap.size,0,none⟩,[⟨(b:Int),a,t,0,0⟩],1,none,[],0,u.w,u.p,3,0⟩:A8)):=fun x hx=>by
  rcases hl2 x (N3.1 hx)with h'|h'
  ·exact .inl (N3.2 h')
  ·have h'':x=w3.heap.size+1+1:=h'.trans dE
   rw[hrk];exact .inr ⟨by omega,by simp;omega⟩
 have AE6:wB.heap.size≤w3.heap.size:=by obtain⟨y,e⟩:=HX3.out;rw[e];exact y.b.size
 have hm5:L4 (q2.w.setCell ⟨p,0,none⟩ (Value.slice a2 n2 c2)) wB.heap.size (⟨i,r,a,t,0,0,true,some ⟨w3.heap.size,0,none⟩,[⟨(b:Int),a,t,0,0⟩],1,none,[],0,u.w,u.p,3,0⟩:A8):=by
  refine⟨Bd1 (cs:=(⟨(b:Int),a,t,0,0⟩:F0).cs) ?_ AE6 rfl (by show 1≤maxLen;decide),⟨rfl,.inl ⟨rfl,rfl⟩⟩⟩;rw[Below.heap_setCell q2.w ⟨p,0,none⟩ (Value.slice a2 n2 c2) w3.heap.size (by show w3.heap.size≠p;omega),hg2.block w3.heap.size (Nat.lt_of_lt_of_le (show w3.heap.size<w3.heap.size+1+1 by omega) (Nat.le_of_eq dE.symm)) (fun e=>by have:=AE5 w3.heap.size (N3.2 e.symm);omega)];exact hY0
 have hM5:=HM3.out.pushR (s':={s3 with rs:=s3.rs ++ [(⟨i,r,a,t,0,0,true,some ⟨w3.heap.size,0,none⟩,[⟨(b:Int),a,t,0,0⟩],1,none,[],0,u.w,u.p,3,0⟩:A8).br]}) hKg hst5 AD7 hl5 hm5 (fun x hx=>by rw[hrk]at hx;simp at hx;omega) (by rw[hrk];simp) rfl rfl rfl rfl rfl;have hX5:∃y:A6 wB,q2.w.setCell ⟨p,0,none⟩ (Value.slice a2 n2 c2)=y.w:=q2.set ⟨p,0,none⟩ HM3.out.ge.1 (Value.slice a2 n2 c2);have hk5:=HK3.out.trans hKg (fun x hx=>.inl (by
  rcases hx with hx|rfl
  ·exact .inl (by simp[D2,hx])
  ·exact .inl (by simp[D2])))
 have hw3:w.heap.size≤w3.heap.size:=HK3.out.size;have hF5:∀x,J7 p bi gg gs (Value.slice a2 n2 c2) (.slice ap s.pz.length cp) (R ++ [(⟨i,r,a,t,0,0,true,some ⟨w3.heap.size,0,none⟩,[⟨(b:Int),a,t,0,0⟩],1,none,[],0,u.w,u.p,3,0⟩:A8)]) x→J7 p bi gg gs (Value.slice ar R.length cr) (.slice ap s.pz.length cp) R x∨w.heap.size≤x:=fun x hx=>by
  rcases hx with hx|⟨y,hy,hx⟩
  ·unfold D2 at hx
   simp only[List.mem_cons,List.mem_append]at hx;rcases hx with hx|hx|hx|hx|hx|hx
   ·exact .inl (.inl (by simp[D2,hx]))
   ·exact .inl (.inl (by simp[D2,hx]))
   ·exact .inl (.inl (by simp[D2,hx]))
   ·exact .inl (.inl (by simp[D2,hx]))
   ·rcases hl5 x hx with h'|h'
    ·exact .inl (.inl (by simp[D2,h']))
    ·exact .inr (by omega)
   ·exact .inl (.inl (by simp[D2,hx]))
  ·rcases List.mem_append.1 hy with hy|hy
   ·exact .inl (.inr ⟨y,hy,hx⟩)
   ·rw[List.mem_singleton]at hy;subst hy
    rw[hrk]at hx;simp at hx;exact .inr (by omega)
 have HE:=A2 (show Y4 s ⟨d,q,a,t,k,(b:Int),pl,r,i⟩={s3 with rs:=s3.rs ++ [(⟨i,r,a,t,0,0,true,some ⟨w3.heap.size,0,none⟩,[⟨(b:Int),a,t,0,0⟩],1,none,[],0,u.w,u.p,3,0⟩:A8).br],pz:=s3.pz ++ [false]}from by
  have e1:s.rs.length=R.length:=by rw[←Hh0.out.br,List.length_map]
  have e2:s.sp.getD b default=u:=by rw[A5,Hu.out];rfl
  rw[←Hs3.out,←Hs2.out];unfold Y4;dsimp only;rw[Int.toNat_natCast,e2,e1];rfl)
 have HM5:=A2 hM5;have HX5:=A2 hX5;have HK5:=A2 hk5;have HF5:=A2 hF5;have AA9:=A2 (show s3.pz=s.pz from by rw[←Hs3.out];exact sZ.out);clear hM5 hX5 hk5 hF5 hKg hst5 AE5 zJ hv2 AD7 hrk hl5 AE6 hm5 hw3 hg2 hl2 hown2 HpY HeY HsY HfY hne1 hne2 AD2 hpv hsb hbY hoY hcY dE hY1 hY0 hYw hYs HSf dD;go_upto_region 5 with fail;generalize q2.w.setCell ⟨p,0,none⟩ (Value.slice a2 n2 c2)=w5 at *;generalize(⟨i,r,a,t,0,0,true,some ⟨w3.heap.size,0,none⟩,[⟨(b:Int),a,t,0,0⟩],1,none,[],0,u.w,u.p,3,0⟩:A8)=rn at *;have p3:w5.cell? ⟨p,3,none⟩=some (.slice ap s.pz.length cp):=HM5.out.st.c 3 _ rfl;have hpb:s.pz.length≤100000:=by rw[Hpz.out];exact hlr
 obtain⟨x5,hx5⟩:=HX5.out;have Hx5:=A2 hx5;clear hx5;go_wp2_with(at_builtin;(refine fU (w0:=wB) (k:=1) ?hw rfl _ _ 102 rfl wB.heap.size (Nat.le_refl _) ?hb 4 (.bool false) 1 Bd3 (.slice ap s.pz.length cp) s.pz.length (s.pz.map .bool) rfl ?hown ⟨w5.heap.size,0,none⟩ 1 1 [.bool false] rfl ?hn ?hc ?h1 (by decide) ?h63 ?hbytes ?_;rotate_right 1;intro v6 q6 hown6 hg6 hl6;refine Hid.out ?_))
 case hw=>exact A7.alloc ⟨x5,Hx5.out⟩ _
 case hb=>have h1:=x5.b.size;have h2:w5.heap.size=x5.w.heap.size:=congrArg (·.heap.size) Hx5.out;simp;omega
 case hown=>
  have h1:w5.ownsRow wB.heap.size 4 1 (.slice ap s.pz.length cp) s3.pz.length (s3.pz.map .bool):=HM5.out.pz;rw[AA9.out]at h1;exact I6 h1 (A7.alloc (A7.self _) _)
 case hn=>rfl
 case hc=>exact tZ [.bool false] _ rfl
 case h1=>intro v hv;rw[List.mem_singleton]at hv;subst hv;rfl
 case h63=>unfold maxLen;omega
 case hbytes=>omega
 obtain⟨a6,n6,c6,rfl⟩:=G5 hown6;have hY:A7 w5 (w5.alloc (.cells #[.bool false] 4)):=A7.alloc (A7.self _) _;have dE:(w5.alloc (.cells #[.bool false] 4)).heap.size=w5.heap.size+1:=by simp
 generalize w5.alloc (.cells #[.bool false] 4)=Y at *;have hsb:=HM5.out.ap.b;unfold D2 at hsb;simp only[List.nodup_cons,List.mem_cons,List.mem_append,not_or]at hsb;have hpv:some p≠(Value.slice ap s.pz.length cp).ownBlock:=fun e=>hsb.1.2.2.2.2 (N3.2 e.symm);have hb6:=(HM5.out.st.to hY).grown hg6 hpv;have k3:q6.w.cell? ⟨p,3,none⟩=some (.slice ap s.pz.length cp):=hb6.c 3 _ rfl;have kf:∀o,q6.w.frozen? ⟨p,o,none⟩=false:=fun o=>hb6.f o;have zJ:p<w5.heap.size:=HM5.out.st.lt;have AD3:∀x,(Value.slice a6 n6 c6).ownBlock=some x→x≠p:=fun x hx=>by
  rcases hl6 x hx with h'|h'
  ·exact fun e=>hpv (by rw[h',e])
  ·omega
 have hKg:B7 (fun b=>b∈ob (Value.slice ap s.pz.length cp)∨b=p) w5 (q6.w.setCell ⟨p,3,none⟩ (.slice a6 n6 c6)):=((B7.to (B7.refl _ w5) hY).step ⟨hg6.os,hg6.tape,hg6.output,hg6.size,fun j hj hn=>hg6.block j hj (fun e=>hn (.inl (N3.2 e.symm)))⟩).step (B7.set _ _ _ (.inr rfl));have hl7:∀b∈ob (Value.slice a6 n6 c6),b∈ob (Value.slice ap s.pz.length cp)∨w5.heap.size≤b:=fun x hx=>by
  rcases hl6 x (N3.1 hx)with h'|h'
  ·exact .inl (N3.2 h')
  ·exact .inr (by omega)
 have hM7:=HM5.out.pushP (z:=false) hKg (hb6.setj (j:=3) (by simp) (.slice a6 n6 c6)) (by
  have h1:=dL hown6 ⟨p,3,none⟩ (.slice a6 n6 c6) AD3;show World.ownsRow _ _ _ 1 _ (s3.pz.length+1) (s3.pz.map .bool ++ [.bool false]);rw[AA9.out];exact h1) hl7
 have HR:=A2 (HP.out _ _ _ _ (by rw[HE.out];exact hM7) (HK5.out.trans hKg (fun x hx=>by
  rcases hx with hx|rfl
  ·exact .inl (.inl (by simp[D2,hx]))
  ·exact .inl (.inl (by simp[D2])))) (fun x hx=>by
  have hw5:w.heap.size≤w5.heap.size:=HK5.out.size;rcases hx with hx|⟨y,hy,hx⟩
  ·unfold D2 at hx
   simp only[List.mem_cons,List.mem_append]at hx;rcases hx with hx|hx|hx|hx|hx|hx
   ·exact .inl (.inl (by simp[D2,hx]))
   ·exact .inl (.inl (by simp[D2,hx]))
   ·exact .inl (.inl (by simp[D2,hx]))
   ·exact .inl (.inl (by simp[D2,hx]))
   ·exact HF5.out x (.inl (by simp[D2,hx]))
   ·rcases hl7 x hx with h'|h'
    ·exact .inl (.inl (by simp[D2,h']))
    ·exact .inr (by omega)
  ·exact HF5.out x (.inr ⟨y,hy,hx⟩)))
 clear hM7 hl7 hKg AD3 zJ hb6 hpv hsb dE hY hg6 hl6 hown6;refine A2 ?_;go_wp2_with fail;refine M9 (v:=.tuple #[]) (by simp[results,Tryz.results76,go_sem]) rfl ?_;exact HR.out
end Go.Proofs.YtmmlmhnjjfnpnaaGreat
