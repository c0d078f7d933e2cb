/- Texts that belong together. -/
import Derived.Test.YtmmlmhnjjfnpnaaGreatTpMza
import Derived.BigQuiet
set_option linter.all false
namespace Go.Proofs.YtmmlmhnjjfnpnaaGreat
open Go.RowKit Go.ChangeMaps
set_option maxRecDepth 100000 in
set_option maxHeartbeats 16000000 in
theorem sbegin_calls (wB:World) (w:World) (hX:∃y:Since wB,w=y.w) (p bi gg gs:Nat) (vr vp:Value) (R:List Ride) (s:Sto) (h:StoM w wB.heap.size p bi gg gs vr vp R s) (d q a t k:Int) (b:Nat) (pl r i:Int) (hbs:b<s.sp.length) (hbr:b<s.rg.length) (hpz:s.pz.length=R.length) (hnew:s.idx i=none) (hlr:R.length≤100000):
 Calls Tryz.prog 76 #[.pointer (some ⟨p,0,none⟩),.agg #[.int .i64 d,.int .i64 q,.int .i64 a,.int .i64 t,.int .i64 k,.int .i64 (b:Int),.int .i64 pl,.int .i64 r,.int .i64 i],.agg #[.int .i64 a,.int .i64 t]] w (StoPost w wB.heap.size p bi gg gs vr vp R (beginS s ⟨d,q,a,t,k,(b:Int),pl,r,i⟩)):=by
 have HP:=Lib.hid (fun(w':World) (vr' vp':Value) (R':List Ride) (h1:StoM w' wB.heap.size p bi gg gs vr' vp' R' (beginS s ⟨d,q,a,t,k,(b:Int),pl,r,i⟩)) (h2:KpS (StoS p bi gg gs vr vp R) w w') (h3:∀b,StoS p bi gg gs vr' vp' R' b→StoS p bi gg gs vr vp R b∨w.heap.size≤b)=>show StoPost w wB.heap.size p bi gg gs vr vp R (beginS s ⟨d,q,a,t,k,(b:Int),pl,r,i⟩) (.returned (.tuple #[])) w' from⟨rfl,vr',vp',R',h1,h2,h3⟩);generalize StoPost w wB.heap.size p bi gg gs vr vp R (beginS s ⟨d,q,a,t,k,(b:Int),pl,r,i⟩)=PO at *;have Hh:=Lib.hid h;have Hh0:=Lib.hid h;have HX:=Lib.hid hX;have Hbs:=Lib.hid hbs;have Hbr:=Lib.hid hbr;have Hpz:=Lib.hid hpz;have Hnew:=Lib.hid hnew;have hb0:(0:Int)≤(b:Int):=by omega
 have hbl:(b:Int)<(s.sp.length:Int):=by omega
 have hbl2:(b:Int)<(s.rg.length:Int):=by omega
 obtain⟨u,hu⟩:∃u,s.sp[b]? =some u:=⟨_,List.getElem?_eq_getElem hbs⟩
 have Hu:=Lib.hid hu;obtain⟨ar,nr,cr,hvr⟩:=own_slice h.rr;obtain⟨ap,np,cp,hvp⟩:=own_slice h.pz;have hnr:nr=R.length:=by
  have h1:=h.rr;rw[hvr]at h1;obtain⟨e,a',c',e2,_⟩:=own_els Ride.len (by decide) h1;simp only[Value.slice.injEq]at e2;exact e2.2.1
 have hnp:np=s.pz.length:=by
  have h1:=h.pz;rw[hvp]at h1;obtain⟨_,⟨e2,e3⟩|⟨_,_,_,e2,_⟩⟩:=h1
  ·simp only[Value.slice.injEq]at e2;omega
  ·simp only[Value.slice.injEq]at e2;exact e2.2.1
 subst hnr hnp hvr hvp;obtain⟨x,hx⟩:=Since.refl w;rw[hx];clear hx h hX hbs hbr hpz hnew hu;go_enter Tryz.func76,Tryz.ntmps76;go_upto_region 1 with fail;obtain⟨W,bx,y0,hW,hbx,-,hWup,Hup,Hbx,HB0,HB1⟩:=heads2 x ([Value.int .i64 d,.int .i64 q,.int .i64 a,.int .i64 t,.int .i64 k,.int .i64 (b:Int),.int .i64 pl,.int .i64 r,.int .i64 i]) 63 ([Value.int .i64 a,.int .i64 t]) 36;rw[hW,hbx];clear hW hbx;have hB0:=fun y:Since W=>HB0.since y;have hB1:=fun y:Since W=>HB1.since y;clear HB0 HB1;replace Hh:=Lib.hid (Hh.out.to hWup);have HBe:=Lib.hid hB0;have HBs:=Lib.hid hB1;have g4:∀w',IsSince W w'→w'.cell? ⟨p,4,none⟩=some (.slice (some ⟨gs,0,none⟩) s.sp.length s.sp.length):=fun w' h=>(Hh.out.st.to h).c 4 _ rfl;have e5:∀w',IsSince W w'→w'.cell? ⟨bx,5,none⟩=some (.int .i64 (b:Int)):=fun w' h=>by obtain⟨y,rfl⟩:=h;exact(HBe.out y).c 5 _ rfl
 have q0:∀w',IsSince W w'→w'.cell? ⟨gs,b*4,none⟩=some (.int .i64 u.w):=fun w' h=>(Hh.out.sp.to h).c _ _ (flat_at Spt.len s.sp b u 0 _ Hu.out rfl);have q1:∀w',IsSince W w'→w'.cell? ⟨gs,b*4+1,none⟩=some (.int .i64 u.p):=fun w' h=>(Hh.out.sp.to h).c _ _ (flat_at Spt.len s.sp b u 1 _ Hu.out rfl);have q2:∀w',IsSince W w'→w'.cell? ⟨gs,b*4+2,none⟩=some (.int .i64 u.r):=fun w' h=>(Hh.out.sp.to h).c _ _ (flat_at Spt.len s.sp b u 2 _ Hu.out rfl);have q3:∀w',IsSince W w'→w'.cell? ⟨gs,b*4+3,none⟩=some (.bool u.z):=fun w' h=>(Hh.out.sp.to h).c _ _ (flat_at Spt.len s.sp b u 3 _ Hu.out rfl);clear hB0 hB1 hWup;go_region_held3 (fun w'=>IsSince W w') (first|assumption|exact IsSince.drew _|exact IsSince.drew' (IsSince.alloc (IsSince.of _) _)) (fail);go_upto_region 2 with fail;clear g4 e5 q0 q1 q2 q3;obtain⟨y1,e2,hst0,hsz0,hlt0,HX0⟩:=grow1d y0 [.int .i64 u.w,.int .i64 u.p,.int .i64 u.r,.bool u.z] 180;rw[e2];obtain⟨hx0,hx1,hx2,hx3,hxf⟩:=cx4 HX0;skip;clear e2 hst0;generalize y0.w.heap.size=gf at *;obtain⟨Hhx0,Hhx1,Hhx2,Hhx3,Hhxf⟩:=bx4 HX0;have Hhxg:=Lib.hid (And.intro hsz0 hlt0);clear hlt0 hsz0 HX0;have HBe1:=Lib.hid (HBe.out y1);have HBs1:=Lib.hid (HBs.out y1);have HBf:=Lib.hid (show BoxIs y1.w gf u.cs from box4 Hhxg.out.2 (Hhx0 (Since.self _)) (Hhx1 (Since.self _)) (Hhx2 (Since.self _)) (Hhx3 (Since.self _)) (fun o=>Hhxf (Since.self _) o));replace Hh:=Lib.hid (Hh.out.to ⟨y1,rfl⟩);have HK:=Lib.hid (show KpS (StoS p bi gg gs (.slice ar R.length cr) (.slice ap s.pz.length cp) R) w y1.w from by obtain⟨y,e⟩:=Hup.out y1;rw[e];exact KpS.of y);have HN1:=Lib.hid (Hh0.out.notS (b:=bx) Hbx.out.1);have HN2:=Lib.hid (Hh0.out.notS (b:=bx+1) (by have:=Hbx.out;omega));have HN3:=Lib.hid (Hh0.out.notS (b:=gf) (by have h1:=Hbx.out;have h2:=Hhxg.out;omega));have HF:=Lib.hid (show w.heap.size≤bx∧bx+1<y1.w.heap.size∧gf<y1.w.heap.size from⟨Hbx.out.1,by have h1:=Hbx.out;have h2:=Hhxg.out;omega,Hhxg.out.2⟩);have HX1:=Lib.hid (Hh0.out.since HX.out HK.out);clear hx0 hx1 hx2 hx3 hxf Hhx0 Hhx1 Hhx2 Hhx3 Hhxf Hhxg Hbx Hup HBe HBs;generalize bx+1=bw at *;generalize y1.w=w1 at *;have g0:∀w',IsSince w1 w'→w'.cell? ⟨p,0,none⟩=some (.slice ar R.length cr):=fun w' h=>(Hh.out.st.to h).c 0 _ rfl;have g1:∀w',IsSince w1 w'→w'.cell? ⟨p,1,none⟩=some (.map (some bi)):=fun w' h=>(Hh.out.st.to h).c 1 _ rfl;have e8:∀w',IsSince w1 w'→w'.cell? ⟨bx,8,none⟩=some (.int .i64 i):=fun w' h=>(HBe1.out.to h).c 8 _ rfl;refine wp_region_M (fun w'=>IsSince w1 w') 11 (by kernel_rfl) (IsSince.drew' (IsSince.self _)) (fun hS=>?_);refine tk 0 ?_ rfl (by kernel_rfl) hS (fun _ _ _ h=>h) ?_ ?_;rotate_left
 ·(intro w h;(try dsimp only at h);go_split_ands;go_simp;try with_reducible rfl)
 (try simp only[Act.put,actS])
 refine tk 1 ?_ rfl (by kernel_rfl) hS (fun _ _ _ h=>h) ?_ ?_;rotate_left
 ·(intro w h;(try dsimp only at h);go_split_ands;go_simp;try with_reducible rfl)
 (try simp only[Act.put,actS])
 refine tk 2 ?_ rfl (by kernel_rfl) hS (fun _ _ _ h=>h) ?_ ?_;rotate_left
 ·(intro w h;(try dsimp only at h);go_split_ands;go_simp;try with_reducible rfl)
 (try simp only[Act.put,actS])
 refine tk 3 ?_ rfl (by kernel_rfl) hS (fun _ _ _ h=>h) ?_ ?_;rotate_left
 ·(intro w h;(try dsimp only at h);go_split_ands;go_simp;try with_reducible rfl)
 (try simp only[Act.put,actS])
 refine tk 4 ?_ rfl (by kernel_rfl) hS (fun _ _ _ h=>h) ?_ ?_;rotate_left
 ·(intro w h;(try dsimp only at h);go_split_ands;go_simp;try with_reducible rfl)
 (try simp only[Act.put,actS])
 refine tk 5 ?_ rfl (by kernel_rfl) hS (fun _ _ _ h=>h) ?_ ?_;rotate_left
 ·(intro w h;(try dsimp only at h);go_split_ands;go_simp;try with_reducible rfl)
 (try simp only[Act.put,actS])
 refine tk 6 ?_ rfl (by kernel_rfl) hS (fun _ _ _ h=>h) ?_ ?_;rotate_left
 ·(intro w h;(try dsimp only at h);go_split_ands;go_simp;try with_reducible rfl)
 (try simp only[Act.put,actS])
 refine tk 7 ?_ rfl (by kernel_rfl) hS (fun _ _ _ h=>h) ?_ ?_;rotate_left
 ·(intro w h;(try dsimp only at h);go_split_ands;go_simp;try with_reducible rfl)
 (try simp only[Act.put,actS])
 refine tk 8 ?_ rfl (by kernel_rfl) hS (fun _ _ _ h=>h) ?_ ?_;rotate_left
 ·(intro w h;(try dsimp only at h);go_split_ands;go_simp;try with_reducible rfl)
 (try simp only[Act.put,actS])
 refine tk 9 ?_ rfl (by kernel_rfl) hS (fun _ _ _ h=>h) ?_ ?_;rotate_left
 ·(intro w h;(try dsimp only at h);go_split_ands;go_simp;try with_reducible rfl)
 (try simp only[Act.put,actS])
 refine tk 10 ?_ rfl (by kernel_rfl) hS (fun _ _ _ h=>h) ?_ ?_;rotate_left
 ·(intro w h;(try dsimp only at h);go_split_ands;go_simp;try with_reducible rfl)
 (try simp only[Act.put,actS])
 refine tk1 11 (by kernel_rfl) rfl fun K hK=>?_;(refine step_storeM (b:=bi) keyI rfl _ _ _ _ rfl Tryz.underlying100 rfl i rfl (.int .i64 (R.length:Int)) rfl Hh.out.ix.drew (idx_none Hnew.out) ?_;intro w2 hm2 hg2)
 refine tkL hK (by kernel_rfl) ?_;clear hK K hS;(try simp only[Act.put,actS])
 clear g0 g1 e8;have hst:IsSince w1 w1.drew:=IsSince.drew' (IsSince.self _);obtain⟨hM,hK⟩:=(Hh.out.to hst).storeIx hm2 hg2;have hbe:=(HBe1.out.to hst).keepS hK (fun e=>HN1.out (.inl (by rw[e];simp[sblk])));have hbs:=(HBs1.out.to hst).keepS hK (fun e=>HN2.out (.inl (by rw[e];simp[sblk])));have hbf:=(HBf.out.to hst).keepS hK (fun e=>HN3.out (.inl (by rw[e];simp[sblk])));have hk:=HK.out.trans ((KpS.to (KpS.refl _ w1) hst).step hK) (fun g e=>.inl (.inl (by rw[e];simp[sblk])));have HM:=Lib.hid hM;have HBe2:=Lib.hid hbe;have HBs2:=Lib.hid hbs;have HBf2:=Lib.hid hbf;have HK2:=Lib.hid hk;clear hM hbe hbs hbf hk hK hst hm2 hg2 Hh HBe1 HBs1 HBf HK;obtain⟨s2,hs2⟩:∃s2:Sto,{s with ix:=s.ix ++ [(i,R.length)]}=s2:=⟨_,rfl⟩
 rw[hs2]at HM;have Hs2:=Lib.hid hs2;have hrg2:s2.rg=s.rg:=by rw[←hs2]
 have hsp2:s2.sp=s.sp:=by rw[←hs2]
 have hpz2:s2.pz=s.pz:=by rw[←hs2]
 have hrs2:s2.rs=s.rs:=by rw[←hs2]
 have Hrg2:=Lib.hid hrg2;have Hsp2:=Lib.hid hsp2;have Hpz2:=Lib.hid hpz2;have Hrs2:=Lib.hid hrs2;clear hs2 hrg2 hsp2 hpz2 hrs2;go_upto_region 3 with fail;have g0:∀w',IsSince w2 w'→w'.cell? ⟨p,0,none⟩=some (.slice ar R.length cr):=fun w' h=>(HM.out.st.to h).c 0 _ rfl;have g2:∀w',IsSince w2 w'→w'.cell? ⟨p,2,none⟩=some (.slice (some ⟨gg,0,none⟩) s.rg.length s.rg.length):=fun w' h=>by have h1:=(HM.out.st.to h).c 2 _ rfl;rw[Hrg2.out]at h1;exact h1
 have e5:∀w',IsSince w2 w'→w'.cell? ⟨bx,5,none⟩=some (.int .i64 (b:Int)):=fun w' h=>(HBe2.out.to h).c 5 _ rfl;have hbr2:b<s2.rg.length:=by rw[Hrg2.out];exact Hbr.out
 have d0:w2.cell? ⟨gg,b,none⟩=some (.int .i64 s2.rg[b]):=HM.out.rg.c b _ (by rw[List.getElem?_map,List.getElem?_eq_getElem hbr2];rfl);have df:∀o,w2.frozen? ⟨gg,o,none⟩=false:=fun o=>HM.out.rg.f o;refine wp_region_M (fun w'=>IsSince w2 w') 12 (by kernel_rfl) (IsSince.drew' (IsSince.self _)) (fun hS=>?_);refine tk 0 ?_ rfl (by kernel_rfl) hS (fun _ _ _ h=>h) ?_ ?_;rotate_left
 ·(intro w h;(try dsimp only at h);go_split_ands;go_simp;try with_reducible rfl)
 (try simp only[Act.put,actS])
 refine tk 1 ?_ rfl (by kernel_rfl) hS (fun _ _ _ h=>h) ?_ ?_;rotate_left
 ·(intro w h;(try dsimp only at h);go_split_ands;go_simp;try with_reducible rfl)
 (try simp only[Act.put,actS])
 refine tk 2 ?_ rfl (by kernel_rfl) hS (fun _ _ _ h=>h) ?_ ?_;rotate_left
 ·(intro w h;(try dsimp only at h);go_split_ands;go_simp;try with_reducible rfl)
 (try simp only[Act.put,actS])
 refine tk 3 ?_ rfl (by kernel_rfl) hS (fun _ _ _ h=>h) ?_ ?_;rotate_left
 ·(intro w h;(try dsimp only at h);go_split_ands;go_simp;try with_reducible rfl)
 (try simp only[Act.put,actS])
 refine tk 4 ?_ rfl (by kernel_rfl) hS (fun _ _ _ h=>h) ?_ ?_;rotate_left
 ·(intro w h;(try dsimp only at h);go_split_ands;go_simp;try with_reducible rfl)
 (try simp only[Act.put,actS])
 refine tk 5 ?_ rfl (by kernel_rfl) hS (fun _ _ _ h=>h) ?_ ?_;rotate_left
 ·(intro w h;(try dsimp only at h);go_split_ands;go_simp;try with_reducible rfl)
 (try simp only[Act.put,actS])
 refine tk 6 ?_ rfl (by kernel_rfl) hS (fun _ _ _ h=>h) ?_ ?_;rotate_left
 ·(intro w h;(try dsimp only at h);go_split_ands;go_simp;try with_reducible rfl)
 (try simp only[Act.put,actS])
 refine tk 7 ?_ rfl (by kernel_rfl) hS (fun _ _ _ h=>h) ?_ ?_;rotate_left
 ·(intro w h;(try dsimp only at h);go_split_ands;go_simp;try with_reducible rfl)
 (try simp only[Act.put,actS])
 refine tk 8 ?_ rfl (by kernel_rfl) hS (fun _ _ _ h=>h) ?_ ?_;rotate_left
 ·(intro w h;(try dsimp only at h);go_split_ands;go_simp;try with_reducible rfl)
 (try simp only[Act.put,actS])
 refine tk 9 ?_ rfl (by kernel_rfl) hS (fun _ _ _ h=>h) ?_ ?_;rotate_left
 ·(intro w h;(try dsimp only at h);go_split_ands;go_simp;try with_reducible rfl)
 (try simp only[Act.put,actS])
 refine tk 10 ?_ rfl (by kernel_rfl) hS (fun _ _ _ h=>h) ?_ ?_;rotate_left
 ·(intro w h;(try dsimp only at h);go_split_ands;go_simp;try with_reducible rfl)
 (try simp only[Act.put,actS])
 refine tk 11 ?_ rfl (by kernel_rfl) hS (fun _ _ _ h=>h) ?_ ?_;rotate_left
 ·(intro w h;(try dsimp only at h);go_split_ands;go_simp;try with_reducible rfl)
 (try simp only[Act.put,actS])
 refine tk1 12 (by kernel_rfl) rfl fun K hK=>?_;go_simp;refine tkL hK (by kernel_rfl) ?_;clear hK K hS;(try simp only[Act.put,actS])
 clear g0 g2 e5 d0 df;have hst:IsSince w2 w2.drew:=IsSince.drew' (IsSince.self _);obtain⟨hM,hK⟩:=(HM.out.to hst).setRg (b:=b) hbr2 (R.length:Int);have hbe:=(HBe2.out.to hst).keepS hK (fun e=>HN1.out (.inl (by rw[e];simp[sblk])));have hbs:=(HBs2.out.to hst).keepS hK (fun e=>HN2.out (.inl (by rw[e];simp[sblk])));have hbf:=(HBf2.out.to hst).keepS hK (fun e=>HN3.out (.inl (by rw[e];simp[sblk])));have hk:=HK2.out.trans ((KpS.to (KpS.refl _ w2) hst).step hK) (fun g e=>.inl (.inl (by rw[e];simp[sblk])));have HM3:=Lib.hid hM;have HBe3:=Lib.hid hbe;have HBs3:=Lib.hid hbs;have HBf3:=Lib.hid hbf;have HK3:=Lib.hid hk;clear hM hbe hbs hbf hk hK hst HM HBe2 HBs2 HBf2 HK2;go_upto_region 4 with fail;refine Eq.mp (congrArg (Code.wp _ _ _ _) (show w2.drew.setCell ⟨gg,b,none⟩ (.int .i64 (R.length:Int))= _ from rfl)) ?_;have HX3:=Lib.hid (Hh0.out.since HX.out HK3.out);generalize w2.drew.setCell ⟨gg,b,none⟩ (.int .i64 (R.length:Int))=w3 at *;have Hrb:=Lib.hid (show s2.rg.set b (R.length:Int)=s.rg.set b (R.length:Int) by rw[Hrg2.out]);obtain⟨s3,hs3⟩:∃s3:Sto,{s2 with rg:=s2.rg.set b (R.length:Int)}=s3:=⟨_,rfl⟩
 rw[hs3]at HM3;have Hs3:=Lib.hid hs3;clear hs3;have HF3:=Lib.hid (show bx<w3.heap.size∧bw<w3.heap.size∧gf<w3.heap.size from⟨HBe3.out.lt,HBs3.out.lt,HBf3.out.lt⟩);have m0:w3.cell? ⟨p,0,none⟩=some (.slice ar R.length cr):=HM3.out.st.c 0 _ rfl;have m5:w3.cell? ⟨bx,5,none⟩=some (.int .i64 (b:Int)):=HBe3.out.c 5 _ rfl;have m7:w3.cell? ⟨bx,7,none⟩=some (.int .i64 r):=HBe3.out.c 7 _ rfl;have m8:w3.cell? ⟨bx,8,none⟩=some (.int .i64 i):=HBe3.out.c 8 _ rfl;have n0:w3.cell? ⟨bw,0,none⟩=some (.int .i64 a):=HBs3.out.c 0 _ rfl;have n1:w3.cell? ⟨bw,1,none⟩=some (.int .i64 t):=HBs3.out.c 1 _ rfl;have o0:w3.cell? ⟨gf,0,none⟩=some (.int .i64 u.w):=HBf3.out.c 0 _ rfl;have o1:w3.cell? ⟨gf,1,none⟩=some (.int .i64 u.p):=HBf3.out.c 1 _ rfl;have HSf:=Lib.hid (fun(w':World) (h1:BoxIs w' p [.slice ar R.length cr,.map (some bi),.slice (some ⟨gg,0,none⟩) s3.rg.length s3.rg.length,.slice ap s.pz.length cp,.slice (some ⟨gs,0,none⟩) s3.sp.length s3.sp.length]) (h2:BoxIs w' bx [.int .i64 d,.int .i64 q,.int .i64 a,.int .i64 t,.int .i64 k,.int .i64 (b:Int),.int .i64 pl,.int .i64 r,.int .i64 i]) (h3:BoxIs w' bw [.int .i64 a,.int .i64 t]) (h4:BoxIs w' gf u.cs)=>
  show w'.cell? ⟨p,0,none⟩=some (.slice ar R.length cr)∧w'.cell? ⟨bx,5,none⟩=some (.int .i64 (b:Int))∧w'.cell? ⟨bx,7,none⟩=some (.int .i64 r)∧w'.cell? ⟨bx,8,none⟩=some (.int .i64 i)∧w'.cell? ⟨bw,0,none⟩=some (.int .i64 a)∧w'.cell? ⟨bw,1,none⟩=some (.int .i64 t)∧w'.cell? ⟨gf,0,none⟩=some (.int .i64 u.w)∧w'.cell? ⟨gf,1,none⟩=some (.int .i64 u.p)from⟨h1.c 0 _ rfl,h2.c 5 _ rfl,h2.c 7 _ rfl,h2.c 8 _ rfl,h3.c 0 _ rfl,h3.c 1 _ rfl,h4.c 0 _ rfl,h4.c 1 _ rfl⟩)
 have HSto:=Lib.hid (fun(w':World) (hw:IsSince w3 w')=>HSf.out w' (HM3.out.st.to hw) (HBe3.out.to hw) (HBs3.out.to hw) (HBf3.out.to hw));refine wp_region_M (fun w'=>w'.cell? ⟨p,0,none⟩=some (.slice ar R.length cr)∧w'.cell? ⟨bx,5,none⟩=some (.int .i64 (b:Int))∧w'.cell? ⟨bx,7,none⟩=some (.int .i64 r)∧w'.cell? ⟨bx,8,none⟩=some (.int .i64 i)∧w'.cell? ⟨bw,0,none⟩=some (.int .i64 a)∧w'.cell? ⟨bw,1,none⟩=some (.int .i64 t)∧w'.cell? ⟨gf,0,none⟩=some (.int .i64 u.w)∧w'.cell? ⟨gf,1,none⟩=some (.int .i64 u.p)) 24 (by kernel_rfl) (HSto.out _ (IsSince.drew' (IsSince.self _))) (fun hS=>?_);refine tk 0 ?_ rfl (by kernel_rfl) hS (fun _ _ _ h=>h) ?_ ?_;rotate_left
 ·(intro w h;(try dsimp only at h);go_split_ands;go_simp;try with_reducible rfl)
 (try simp only[Act.put,actS])
 refine tk 1 ?_ rfl (by kernel_rfl) hS (fun _ _ _ h=>h) ?_ ?_;rotate_left
 ·(intro w h;(try dsimp only at h);go_split_ands;go_simp;try with_reducible rfl)
 (try simp only[Act.put,actS])
 refine tk 2 ?_ rfl (by kernel_rfl) hS (fun _ _ _ h=>h) ?_ ?_;rotate_left
 ·(intro w h;(try dsimp only at h);go_split_ands;go_simp;try with_reducible rfl)
 (try simp only[Act.put,actS])
 refine tk 3 ?_ rfl (by kernel_rfl) hS (fun _ _ _ h=>h) ?_ ?_;rotate_left
 ·(intro w h;(try dsimp only at h);go_split_ands;go_simp;try with_reducible rfl)
 (try simp only[Act.put,actS])
 refine tk 4 ?_ rfl (by kernel_rfl) hS (fun _ _ _ h=>h) ?_ ?_;rotate_left
 ·(intro w h;(try dsimp only at h);go_split_ands;go_simp;try with_reducible rfl)
 (try simp only[Act.put,actS])
 refine tk 5 ?_ rfl (by kernel_rfl) hS (fun _ _ _ h=>h) ?_ ?_;rotate_left
 ·(intro w h;(try dsimp only at h);go_split_ands;go_simp;try with_reducible rfl)
 (try simp only[Act.put,actS])
 refine tk 6 ?_ rfl (by kernel_rfl) hS (fun _ _ _ h=>h) ?_ ?_;rotate_left
 ·(intro w h;(try dsimp only at h);go_split_ands;go_simp;try with_reducible rfl)
 (try simp only[Act.put,actS])
 refine tk 7 ?_ rfl (by kernel_rfl) hS (fun _ _ _ h=>h) ?_ ?_;rotate_left
 ·(intro w h;(try dsimp only at h);go_split_ands;go_simp;try with_reducible rfl)
 (try simp only[Act.put,actS])
 refine tk 8 ?_ rfl (by kernel_rfl) hS (fun _ _ _ h=>h) ?_ ?_;rotate_left
 ·(intro w h;(try dsimp only at h);go_split_ands;go_simp;try with_reducible rfl)
 (try simp only[Act.put,actS])
 refine tk 9 ?_ rfl (by kernel_rfl) hS (fun _ _ _ h=>h) ?_ ?_;rotate_left
 ·(intro w h;(try dsimp only at h);go_split_ands;go_simp;try with_reducible rfl)
 (try simp only[Act.put,actS])
 refine tk 10 ?_ rfl (by kernel_rfl) hS (fun _ _ _ h=>h) ?_ ?_;rotate_left
 ·(intro w h;(try dsimp only at h);go_split_ands;go_simp;try with_reducible rfl)
 (try simp only[Act.put,actS])
 refine tk 11 ?_ rfl (by kernel_rfl) hS (fun _ _ _ h=>h) ?_ ?_;rotate_left
 ·(intro w h;(try dsimp only at h);go_split_ands;go_simp;try with_reducible rfl)
 (try simp only[Act.put,actS])
 refine tk 12 ?_ rfl (by kernel_rfl) hS (fun _ _ _ h=>h) ?_ ?_;rotate_left
 ·(intro w h;(try dsimp only at h);go_split_ands;go_simp;try with_reducible rfl)
 (try simp only[Act.put,actS])
 refine tk 13 ?_ rfl (by kernel_rfl) hS (fun _ _ _ h=>h) ?_ ?_;rotate_left
 ·(intro w h;(try dsimp only at h);go_split_ands;go_simp;try with_reducible rfl)
 (try simp only[Act.put,actS])
 refine tk 15 ?_ rfl (by kernel_rfl) hS (fun _ _ _ h=>h) ?_ ?_;rotate_left
 ·(intro w h;(try dsimp only at h);go_split_ands;go_simp;try with_reducible rfl)
 (try simp only[Act.put,actS])
 refine tk 16 ?_ rfl (by kernel_rfl) hS (fun _ _ _ h=>h) ?_ ?_;rotate_left
 ·(intro w h;(try dsimp only at h);go_split_ands;go_simp;try with_reducible rfl)
 (try simp only[Act.put,actS])
 refine tk 17 ?_ rfl (by kernel_rfl) hS (fun _ _ _ h=>h) ?_ ?_;rotate_left
 ·(intro w h;(try dsimp only at h);go_split_ands;go_simp;try with_reducible rfl)
 (try simp only[Act.put,actS])
 refine tk 18 ?_ rfl (by kernel_rfl) hS (fun _ _ _ h=>h) ?_ ?_;rotate_left
 ·(intro w h;(try dsimp only at h);go_split_ands;go_simp;try with_reducible rfl)
 (try simp only[Act.put,actS])
 refine tk1 14 (by kernel_rfl) rfl fun K hK=>?_;go_simp;refine tkK hK (HSto.out _ (IsSince.drew' (IsSince.alloc (IsSince.self _) _))) ?_;clear hK K hS;intro hS;(try simp only[Act.put,actS])
 refine tk 19 ?_ rfl (by kernel_rfl) hS (fun _ _ _ h=>h) ?_ ?_;rotate_left
 ·(intro w h;(try dsimp only at h);go_split_ands;go_simp;try with_reducible rfl)
 (try simp only[Act.put,actS])
 refine tk1 20 (by kernel_rfl) rfl fun K hK=>?_;go_simp;refine tkK hK (HSto.out _ (IsSince.drew' (IsSince.alloc (IsSince.alloc (IsSince.self _) _) _))) ?_;clear hK K hS;intro hS;(try simp only[Act.put,actS])
 have hYs:IsSince w3 (((w3.alloc (.cells (⟨(b:Int),a,t,0,0⟩:Leg).cs.toArray 152)).alloc (.cells (⟨i,r,a,t,0,0,true,some ⟨w3.heap.size,0,none⟩,[⟨(b:Int),a,t,0,0⟩],1,none,[],0,u.w,u.p,3,0⟩:Ride).cs.toArray 40)).drew):=IsSince.drew' (IsSince.alloc (IsSince.alloc (IsSince.self _) _) _);have hYw:IsSince wB (((w3.alloc (.cells (⟨(b:Int),a,t,0,0⟩:Leg).cs.toArray 152)).alloc (.cells (⟨i,r,a,t,0,0,true,some ⟨w3.heap.size,0,none⟩,[⟨(b:Int),a,t,0,0⟩],1,none,[],0,u.w,u.p,3,0⟩:Ride).cs.toArray 40)).drew):=by obtain⟨y,e⟩:=HX3.out;exact IsSince.trans ⟨y,e⟩ hYs
 have hY0:(((w3.alloc (.cells (⟨(b:Int),a,t,0,0⟩:Leg).cs.toArray 152)).alloc (.cells (⟨i,r,a,t,0,0,true,some ⟨w3.heap.size,0,none⟩,[⟨(b:Int),a,t,0,0⟩],1,none,[],0,u.w,u.p,3,0⟩:Ride).cs.toArray 40)).drew).heap[w3.heap.size]? =some (.cells (⟨(b:Int),a,t,0,0⟩:Leg).cs.toArray 152):=by
  rw[heap_drew,heap_al,heap_al,if_neg (by simp),if_pos rfl]
 have hY1:(((w3.alloc (.cells (⟨(b:Int),a,t,0,0⟩:Leg).cs.toArray 152)).alloc (.cells (⟨i,r,a,t,0,0,true,some ⟨w3.heap.size,0,none⟩,[⟨(b:Int),a,t,0,0⟩],1,none,[],0,u.w,u.p,3,0⟩:Ride).cs.toArray 40)).drew).heap[w3.heap.size+1]? =some (.cells (⟨i,r,a,t,0,0,true,some ⟨w3.heap.size,0,none⟩,[⟨(b:Int),a,t,0,0⟩],1,none,[],0,u.w,u.p,3,0⟩:Ride).cs.toArray 40):=by
  rw[heap_drew,heap_al,if_pos (by simp)]
 have hYsz:(((w3.alloc (.cells (⟨(b:Int),a,t,0,0⟩:Leg).cs.toArray 152)).alloc (.cells (⟨i,r,a,t,0,0,true,some ⟨w3.heap.size,0,none⟩,[⟨(b:Int),a,t,0,0⟩],1,none,[],0,u.w,u.p,3,0⟩:Ride).cs.toArray 40)).drew).heap.size=w3.heap.size+1+1:=by
  show(((w3.alloc _).alloc _)).heap.size= _;simp
 have hcY:∀j v,(⟨i,r,a,t,0,0,true,some ⟨w3.heap.size,0,none⟩,[⟨(b:Int),a,t,0,0⟩],1,none,[],0,u.w,u.p,3,0⟩:Ride).cs[j]? =some v→(((w3.alloc (.cells (⟨(b:Int),a,t,0,0⟩:Leg).cs.toArray 152)).alloc (.cells (⟨i,r,a,t,0,0,true,some ⟨w3.heap.size,0,none⟩,[⟨(b:Int),a,t,0,0⟩],1,none,[],0,u.w,u.p,3,0⟩:Ride).cs.toArray 40)).drew).cell? ((⟨w3.heap.size+1,0,none⟩:Addr).add j)=some v:=fun j v hv=>by
  rw[Addr.add_lit];simp only[World.cell?,hY1,Nat.zero_add];simpa using hv
 have hoY:=own_to HM3.out.rr hYs;have hbY:=hYw.size;have hsb:=HM3.out.ap.b;unfold sblk at hsb;simp only[List.nodup_cons,List.mem_cons,List.mem_append,not_or]at hsb;have hpv:some p≠(Value.slice ar R.length cr).ownBlock:=fun e=>hsb.1.2.2.2.1 (ob_mem.2 e.symm);have hne1:some bx≠(Value.slice ar R.length cr).ownBlock:=fun e=>HN1.out (.inl (by simp[sblk,ob_mem.2 e.symm]));have hne2:some bw≠(Value.slice ar R.length cr).ownBlock:=fun e=>HN2.out (.inl (by simp[sblk,ob_mem.2 e.symm]));have hne3:some gf≠(Value.slice ar R.length cr).ownBlock:=fun e=>HN3.out (.inl (by simp[sblk,ob_mem.2 e.symm]));have HpY:=HM3.out.st.to hYs;have HeY:=HBe3.out.to hYs;have HsY:=HBs3.out.to hYs;have HfY:=HBf3.out.to hYs;refine tk1 21 (by kernel_rfl) rfl fun K hK=>?_;(refine step_appL (w0:=wB) (k:=13) hYw rfl _ _ 31 rfl wB.heap.size (Nat.le_refl _) hbY 40 zeroRideT 136 sRideT (.slice ar R.length cr) R.length (flat Ride.cs R) rfl hoY ⟨w3.heap.size+1,0,none⟩ 1 1 (⟨i,r,a,t,0,0,true,some ⟨w3.heap.size,0,none⟩,[⟨(b:Int),a,t,0,0⟩],1,none,[],0,u.w,u.p,3,0⟩:Ride).cs rfl rfl hcY (ride_oneT _) (by decide) (by unfold maxLen;omega) (by omega) ?_;intro v2 q2 hown2 hg2 hl2;obtain⟨a2,n2,c2,rfl⟩:=own_slice hown2)
 refine tkK hK (HSf.out _ (HpY.grown hg2 hpv) (HeY.grown hg2 hne1) (HsY.grown hg2 hne2) (HfY.grown hg2 hne3)) ?_;clear hK K hS;intro hS;(try simp only[Act.put,actS])
 have hfp:q2.w.frozen? ⟨p,0,none⟩=false:=(HpY.grown hg2 hpv).f 0;refine tk 22 ?_ rfl (by kernel_rfl) hS (fun _ _ _ h=>h) ?_ ?_;rotate_left
 ·(intro w h;(try dsimp only at h);go_split_ands;go_simp;try with_reducible rfl)
 (try simp only[Act.put,actS])
 refine tk 23 ?_ rfl (by kernel_rfl) hS (fun _ _ _ h=>h) ?_ ?_;rotate_left
 ·(intro w h;(try dsimp only at h);go_split_ands;go_simp;try with_reducible rfl)
 (try simp only[Act.put,actS])
 refine tk1 24 (by kernel_rfl) rfl fun K hK=>?_;go_simp;refine tkL hK (by kernel_rfl) ?_;clear hK K hS;(try simp only[Act.put,actS])
 clear m0 m5 m7 m8 n0 n1 o0 o1 hfp;have hKg:KpS (fun b=>b∈ob (Value.slice ar R.length cr)∨b=p) w3 (q2.w.setCell ⟨p,0,none⟩ (Value.slice a2 n2 c2)):=((KpS.to (KpS.refl _ w3) hYs).step ⟨hg2.os,hg2.tape,hg2.output,hg2.size,fun j hj hn=>hg2.block j hj (fun e=>hn (.inl (ob_mem.2 e.symm)))⟩).step (KpS.set _ _ _ (.inr rfl));have hst5:BoxIs (q2.w.setCell ⟨p,0,none⟩ (Value.slice a2 n2 c2)) p [(Value.slice a2 n2 c2),.map (some bi),.slice (some ⟨gg,0,none⟩) s3.rg.length s3.rg.length,.slice ap s.pz.length cp,.slice (some ⟨gs,0,none⟩) s3.sp.length s3.sp.length]:=(HpY.grown hg2 hpv).setj (j:=0) (by simp) (Value.slice a2 n2 c2);have hvlt:∀b∈ob (Value.slice ar R.length cr),b<w3.heap.size:=fun b hb=>(own_ge HM3.out.rr b hb).2;have hplt:p<w3.heap.size:=HM3.out.st.lt;have hv2:∀b,(Value.slice a2 n2 c2).ownBlock=some b→b≠p:=fun x hx=>by
  rcases hl2 x hx with h'|h'
  ·exact fun e=>hpv (by rw[h',e])
  ·have h'':x=w3.heap.size+1+1:=h'.trans hYsz
   omega
 have hrow5:(q2.w.setCell ⟨p,0,none⟩ (Value.slice a2 n2 c2)).ownsRow wB.heap.size 40 13 (Value.slice a2 n2 c2) (R ++ [(⟨i,r,a,t,0,0,true,some ⟨w3.heap.size,0,none⟩,[⟨(b:Int),a,t,0,0⟩],1,none,[],0,u.w,u.p,3,0⟩:Ride)]).length (flat Ride.cs (R ++ [(⟨i,r,a,t,0,0,true,some ⟨w3.heap.size,0,none⟩,[⟨(b:Int),a,t,0,0⟩],1,none,[],0,u.w,u.p,3,0⟩:Ride)])):=by
  have h1:=own_setB hown2 ⟨p,0,none⟩ (Value.slice a2 n2 c2) hv2;rw[←flat_one Ride.cs (⟨i,r,a,t,0,0,true,some ⟨w3.heap.size,0,none⟩,[⟨(b:Int),a,t,0,0⟩],1,none,[],0,u.w,u.p,3,0⟩:Ride),←flat_append]at h1;rw[List.length_append];exact h1
 have hrk:rblk (⟨i,r,a,t,0,0,true,some ⟨w3.heap.size,0,none⟩,[⟨(b:Int),a,t,0,0⟩],1,none,[],0,u.w,u.p,3,0⟩:Ride)=[w3.heap.size]:=by unfold rblk Ride.lv Ride.pv;simp only[ob_slice];rfl
 have hl5:∀z∈ob (Value.slice a2 n2 c2),z∈ob (Value.slice ar R.length cr)∨(w3.heap.size≤z∧z∉rblk (⟨i,r,a,t,0,0,true,some ⟨w3.heap.size,0,none⟩,[⟨(b:Int),a,t,0,0⟩],1,none,[],0,u.w,u.p,3,0⟩:Ride)):=fun x hx=>by
  rcases hl2 x (ob_mem.1 hx)with h'|h'
  ·exact .inl (ob_mem.2 h')
  ·have h'':x=w3.heap.size+1+1:=h'.trans hYsz
   rw[hrk];exact .inr ⟨by omega,by simp;omega⟩
 have hwB3:wB.heap.size≤w3.heap.size:=by obtain⟨y,e⟩:=HX3.out;rw[e];exact y.b.size
 have hm5:RideM (q2.w.setCell ⟨p,0,none⟩ (Value.slice a2 n2 c2)) wB.heap.size (⟨i,r,a,t,0,0,true,some ⟨w3.heap.size,0,none⟩,[⟨(b:Int),a,t,0,0⟩],1,none,[],0,u.w,u.p,3,0⟩:Ride):=by
  refine⟨own_newK (cs:=(⟨(b:Int),a,t,0,0⟩:Leg).cs) ?_ hwB3 rfl (by show 1≤maxLen;decide),⟨rfl,.inl ⟨rfl,rfl⟩⟩⟩;rw[Below.heap_setCell q2.w ⟨p,0,none⟩ (Value.slice a2 n2 c2) w3.heap.size (by show w3.heap.size≠p;omega),hg2.block w3.heap.size (Nat.lt_of_lt_of_le (show w3.heap.size<w3.heap.size+1+1 by omega) (Nat.le_of_eq hYsz.symm)) (fun e=>by have:=hvlt w3.heap.size (ob_mem.2 e.symm);omega)];exact hY0
 have hM5:=HM3.out.pushR (s':={s3 with rs:=s3.rs ++ [(⟨i,r,a,t,0,0,true,some ⟨w3.heap.size,0,none⟩,[⟨(b:Int),a,t,0,0⟩],1,none,[],0,u.w,u.p,3,0⟩:Ride).br]}) hKg hst5 hrow5 hl5 hm5 (fun x hx=>by rw[hrk]at hx;simp at hx;omega) (by rw[hrk];simp) rfl rfl rfl rfl rfl;have hX5:∃y:Since wB,q2.w.setCell ⟨p,0,none⟩ (Value.slice a2 n2 c2)=y.w:=q2.set ⟨p,0,none⟩ HM3.out.ge.1 (Value.slice a2 n2 c2);have hk5:=HK3.out.trans hKg (fun x hx=>.inl (by
  rcases hx with hx|rfl
  ·exact .inl (by simp[sblk,hx])
  ·exact .inl (by simp[sblk])))
 have hw3:w.heap.size≤w3.heap.size:=HK3.out.size;have hF5:∀x,StoS p bi gg gs (Value.slice a2 n2 c2) (.slice ap s.pz.length cp) (R ++ [(⟨i,r,a,t,0,0,true,some ⟨w3.heap.size,0,none⟩,[⟨(b:Int),a,t,0,0⟩],1,none,[],0,u.w,u.p,3,0⟩:Ride)]) x→StoS p bi gg gs (Value.slice ar R.length cr) (.slice ap s.pz.length cp) R x∨w.heap.size≤x:=fun x hx=>by
  rcases hx with hx|⟨y,hy,hx⟩
  ·unfold sblk at hx
   simp only[List.mem_cons,List.mem_append]at hx;rcases hx with hx|hx|hx|hx|hx|hx
   ·exact .inl (.inl (by simp[sblk,hx]))
   ·exact .inl (.inl (by simp[sblk,hx]))
   ·exact .inl (.inl (by simp[sblk,hx]))
   ·exact .inl (.inl (by simp[sblk,hx]))
   ·rcases hl5 x hx with h'|h'
    ·exact .inl (.inl (by simp[sblk,h']))
    ·exact .inr (by omega)
   ·exact .inl (.inl (by simp[sblk,hx]))
  ·rcases List.mem_append.1 hy with hy|hy
   ·exact .inl (.inr ⟨y,hy,hx⟩)
   ·rw[List.mem_singleton]at hy;subst hy
    rw[hrk]at hx;simp at hx;exact .inr (by omega)
 have HE:=Lib.hid (show beginS s ⟨d,q,a,t,k,(b:Int),pl,r,i⟩={s3 with rs:=s3.rs ++ [(⟨i,r,a,t,0,0,true,some ⟨w3.heap.size,0,none⟩,[⟨(b:Int),a,t,0,0⟩],1,none,[],0,u.w,u.p,3,0⟩:Ride).br],pz:=s3.pz ++ [false]}from by
  have e1:s.rs.length=R.length:=by rw[←Hh0.out.br,List.length_map]
  have e2:s.sp.getD b default=u:=by rw[List.getD_eq_getElem?_getD,Hu.out];rfl
  rw[←Hs3.out,←Hs2.out];unfold beginS;dsimp only;rw[Int.toNat_natCast,e2,e1];rfl)
 have HM5:=Lib.hid hM5;have HX5:=Lib.hid hX5;have HK5:=Lib.hid hk5;have HF5:=Lib.hid hF5;have Hpz3:=Lib.hid (show s3.pz=s.pz from by rw[←Hs3.out];exact Hpz2.out);clear hM5 hX5 hk5 hF5 hKg hst5 hvlt hplt hv2 hrow5 hrk hl5 hwB3 hm5 hw3 hg2 hl2 hown2 HpY HeY HsY HfY hne1 hne2 hne3 hpv hsb hbY hoY hcY hYsz hY1 hY0 hYw hYs HSf HSto;go_upto_region 5 with fail;generalize q2.w.setCell ⟨p,0,none⟩ (Value.slice a2 n2 c2)=w5 at *;generalize(⟨i,r,a,t,0,0,true,some ⟨w3.heap.size,0,none⟩,[⟨(b:Int),a,t,0,0⟩],1,none,[],0,u.w,u.p,3,0⟩:Ride)=rn at *;have p3:w5.cell? ⟨p,3,none⟩=some (.slice ap s.pz.length cp):=HM5.out.st.c 3 _ rfl;have hpb:s.pz.length≤100000:=by rw[Hpz.out];exact hlr
 obtain⟨x5,hx5⟩:=HX5.out;have Hx5:=Lib.hid hx5;clear hx5;go_wp2_with(at_builtin;(refine wpList_appendL (w0:=wB) (k:=1) ?hw rfl _ _ 102 rfl wB.heap.size (Nat.le_refl _) ?hb 4 (.bool false) 1 sBoolT (.slice ap s.pz.length cp) s.pz.length (s.pz.map .bool) rfl ?hown ⟨w5.heap.size,0,none⟩ 1 1 [.bool false] rfl ?hn ?hc ?h1 (by decide) ?h63 ?hbytes ?_;rotate_right 1;intro v6 q6 hown6 hg6 hl6;refine Hid.out ?_))
 case hw=>exact IsSince.alloc ⟨x5,Hx5.out⟩ _
 case hb=>have h1:=x5.b.size;have h2:w5.heap.size=x5.w.heap.size:=congrArg (·.heap.size) Hx5.out;simp;omega
 case hown=>
  have h1:w5.ownsRow wB.heap.size 4 1 (.slice ap s.pz.length cp) s3.pz.length (s3.pz.map .bool):=HM5.out.pz;rw[Hpz3.out]at h1;exact own_to h1 (IsSince.alloc (IsSince.self _) _)
 case hn=>rfl
 case hc=>exact blk_cells [.bool false] _ rfl
 case h1=>intro v hv;rw[List.mem_singleton]at hv;subst hv;rfl
 case h63=>unfold maxLen;omega
 case hbytes=>omega
 obtain⟨a6,n6,c6,rfl⟩:=own_slice hown6;have hY:IsSince w5 (w5.alloc (.cells #[.bool false] 4)):=IsSince.alloc (IsSince.self _) _;have hYsz:(w5.alloc (.cells #[.bool false] 4)).heap.size=w5.heap.size+1:=by simp
 generalize w5.alloc (.cells #[.bool false] 4)=Y at *;have hsb:=HM5.out.ap.b;unfold sblk at hsb;simp only[List.nodup_cons,List.mem_cons,List.mem_append,not_or]at hsb;have hpv:some p≠(Value.slice ap s.pz.length cp).ownBlock:=fun e=>hsb.1.2.2.2.2 (ob_mem.2 e.symm);have hb6:=(HM5.out.st.to hY).grown hg6 hpv;have k3:q6.w.cell? ⟨p,3,none⟩=some (.slice ap s.pz.length cp):=hb6.c 3 _ rfl;have kf:∀o,q6.w.frozen? ⟨p,o,none⟩=false:=fun o=>hb6.f o;have hplt:p<w5.heap.size:=HM5.out.st.lt;have hne6:∀x,(Value.slice a6 n6 c6).ownBlock=some x→x≠p:=fun x hx=>by
  rcases hl6 x hx with h'|h'
  ·exact fun e=>hpv (by rw[h',e])
  ·omega
 have hKg:KpS (fun b=>b∈ob (Value.slice ap s.pz.length cp)∨b=p) w5 (q6.w.setCell ⟨p,3,none⟩ (.slice a6 n6 c6)):=((KpS.to (KpS.refl _ w5) hY).step ⟨hg6.os,hg6.tape,hg6.output,hg6.size,fun j hj hn=>hg6.block j hj (fun e=>hn (.inl (ob_mem.2 e.symm)))⟩).step (KpS.set _ _ _ (.inr rfl));have hl7:∀b∈ob (Value.slice a6 n6 c6),b∈ob (Value.slice ap s.pz.length cp)∨w5.heap.size≤b:=fun x hx=>by
  rcases hl6 x (ob_mem.1 hx)with h'|h'
  ·exact .inl (ob_mem.2 h')
  ·exact .inr (by omega)
 have hM7:=HM5.out.pushP (z:=false) hKg (hb6.setj (j:=3) (by simp) (.slice a6 n6 c6)) (by
  have h1:=own_setB hown6 ⟨p,3,none⟩ (.slice a6 n6 c6) hne6;show World.ownsRow _ _ _ 1 _ (s3.pz.length+1) (s3.pz.map .bool ++ [.bool false]);rw[Hpz3.out];exact h1) hl7
 have HR:=Lib.hid (HP.out _ _ _ _ (by rw[HE.out];exact hM7) (HK5.out.trans hKg (fun x hx=>by
  rcases hx with hx|rfl
  ·exact .inl (.inl (by simp[sblk,hx]))
  ·exact .inl (.inl (by simp[sblk])))) (fun x hx=>by
  have hw5:w.heap.size≤w5.heap.size:=HK5.out.size;rcases hx with hx|⟨y,hy,hx⟩
  ·unfold sblk at hx
   simp only[List.mem_cons,List.mem_append]at hx;rcases hx with hx|hx|hx|hx|hx|hx
   ·exact .inl (.inl (by simp[sblk,hx]))
   ·exact .inl (.inl (by simp[sblk,hx]))
   ·exact .inl (.inl (by simp[sblk,hx]))
   ·exact .inl (.inl (by simp[sblk,hx]))
   ·exact HF5.out x (.inl (by simp[sblk,hx]))
   ·rcases hl7 x hx with h'|h'
    ·exact .inl (.inl (by simp[sblk,h']))
    ·exact .inr (by omega)
  ·exact HF5.out x (.inr ⟨y,hy,hx⟩)))
 clear hM7 hl7 hKg hne6 hplt hb6 hpv hsb hYsz hY hg6 hl6 hown6;refine Lib.hid ?_;go_wp2_with fail;refine body_end (v:=.tuple #[]) (by simp[results,Tryz.results76,go_sem]) rfl ?_;exact HR.out
end Go.Proofs.YtmmlmhnjjfnpnaaGreat
