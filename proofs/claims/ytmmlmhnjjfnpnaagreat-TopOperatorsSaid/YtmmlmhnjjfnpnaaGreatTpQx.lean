/- Texts that belong together. -/
import Derived.Test.YtmmlmhnjjfnpnaaGreatTpQw
import Derived.Carry
import Derived.BigQuiet
set_option linter.all false
namespace Go.Proofs.YtmmlmhnjjfnpnaaGreat
set_option maxRecDepth 200000
set_option maxHeartbeats 64000000
section
open Go.RowKit Go.ChangeMaps
def qF (w:World) (fc:List Value) (p gs bo bu:Nat) (T:List F0) (c:C5) (o:Ending) (w':World):Prop:=
 o= .returned (.tuple #[])∧B7 (N8 gs bo bu T) w w'∧∃(n':Nat) (T':List F0),K0 w' fc p gs bo bu n' T' c∧∀g∈T'.map (·.g),g∈T.map (·.g)∨w.heap.size≤g
theorem K0.fresh {w:World} {fc:List Value} {p gs bo bu n:Nat} {T:List F0} {c:C5} (h:K0 w fc p gs bo bu n T c):w.heap.size∉p :: gs :: bo :: bu :: T.map (·.g):=by
 obtain⟨h1,h2,h3,h4,h5⟩:=h.lts;intro hm;simp only[List.mem_cons]at hm;rcases hm with e|e|e|e|hm
 ·omega
 ·omega
 ·omega
 ·omega
 ·have:=h5 _ hm;omega
theorem qG {gs bo bu g:Nat} {T:List F0} {x:F0} (h:N8 gs bo bu (T ++ [x]) g):N8 gs bo bu T g∨g=x.g:=by
 unfold N8 at h⊢;simp only[List.mem_cons,List.map_append,List.mem_append,List.map_cons,List.map_nil,List.not_mem_nil,or_false]at h⊢;rcases h with h|h|h|h|h
 ·exact .inl (.inl h)
 ·exact .inl (.inr (.inl h))
 ·exact .inl (.inr (.inr (.inl h)))
 ·exact .inl (.inr (.inr (.inr h)))
 ·exact .inr h
theorem AW6 (w:World) (f:G4) (da ta:Option Addr) (dc tc p gs bo bu n:Nat) (T:List F0) (c:C5) (h:K0 w [.int .i64 f.bk,.int .i64 f.rd,.int .i64 f.dv,.slice da f.dk.length dc,.slice ta f.tk.length tc] p gs bo bu n T c) (hI:CI c.sp.length c)
 (d q a t k:Int) (b:Nat) (pl r i:Int) (hb:b<c.sp.length) (hk:1≤k∧k≤9)
 (h3:k=3→i∉c.us) (h4:k=4→∃t,c.trip i=some t) (h5:k=5∨k=6→(c.sp.getD b default).w=3):
 Calls Tryz.prog 125 #[.pointer (some ⟨p,0,none⟩),.agg #[.int .i64 d,.int .i64 q,.int .i64 a,.int .i64 t,.int .i64 k,.int .i64 (b:Int),.int .i64 pl,.int .i64 r,.int .i64 i]] w (qF w [.int .i64 f.bk,.int .i64 f.rd,.int .i64 f.dv,.slice da f.dk.length dc,.slice ta f.tk.length tc] p gs bo bu T (S6 c ⟨d,q,a,t,k,(b:Int),pl,r,i⟩)):=by
 obtain⟨u,hu⟩:∃u,c.sp[b]? =some u:=⟨_,A4 hb⟩
 have hgd:c.sp.getD b default=u:=by rw[A6,hu];rfl
 have HU:=A3 (show c.spt (b:Int)=u from by unfold C5.spt;rw[Int.toNat_natCast];exact hgd);rw[hgd]at h5;have HP:=A3 (fun(w':World) (n':Nat) (T':List F0) (k1:B7 (N8 gs bo bu T) w w') (k2:K0 w' [.int .i64 f.bk,.int .i64 f.rd,.int .i64 f.dv,.slice da f.dk.length dc,.slice ta f.tk.length tc] p gs bo bu n' T' (S6 c ⟨d,q,a,t,k,(b:Int),pl,r,i⟩)) (k3:∀g∈T'.map (·.g),g∈T.map (·.g)∨w.heap.size≤g)=>show qF w [.int .i64 f.bk,.int .i64 f.rd,.int .i64 f.dv,.slice da f.dk.length dc,.slice ta f.tk.length tc] p gs bo bu T (S6 c ⟨d,q,a,t,k,(b:Int),pl,r,i⟩) (.returned (.tuple #[])) w' from⟨rfl,k1,n',T',k2,k3⟩);generalize qF w [.int .i64 f.bk,.int .i64 f.rd,.int .i64 f.dv,.slice da f.dk.length dc,.slice ta f.tk.length tc] p gs bo bu T (S6 c ⟨d,q,a,t,k,(b:Int),pl,r,i⟩)=PO at *;have aW:=A3 hI.keys;have HI:=A3 hI;have Hh0:=A3 h;have HB:=A3 hb;have Hu:=A3 hu;have H3:=A3 h3;have H4:=A3 h4;have H5:=A3 h5;have hb0:(0:Int)≤(b:Int):=by omega
 have hbl:(b:Int)<(c.sp.length:Int):=by omega
 obtain⟨x,hx⟩:=A7.refl w;rw[hx];clear hx h hI hb h3 h4 h5 hu hgd;go_enter Tryz.func125,Tryz.ntmps125;go_upto_region 1 with fail;obtain⟨W,bx,y0,hW,hbx,-,B8,Hup,Hbx,HB0⟩:=K7 x ([.int .i64 d,.int .i64 q,.int .i64 a,.int .i64 t,.int .i64 k,.int .i64 (b:Int),.int .i64 pl,.int .i64 r,.int .i64 i]) 63;rw[hW,hbx];clear hW hbx;have hB0:=fun y:A7 W=>HB0.since y;clear HB0;have Hh:=A3 (Hh0.out.to B8);have c8:=fun y:A7 W=>(hB0 y).c 8 _ rfl;clear B8;go_upto_region 2 with fail;clear c8;obtain⟨y1,e2,C9,hsz0,hlt0,HX0⟩:=L8 y0 [.int .i64 3,.int .i64 0,.int .i64 i,.bool false] 180;rw[e2];obtain⟨hx0,hx1,hx2,hx3,hxf⟩:=dU HX0;skip;clear e2 C9;generalize y0.w.heap.size=g at *;obtain⟨E6,G9,K1,J5,I3⟩:=bO HX0;have I9:=A3 (And.intro hsz0 hlt0);clear hlt0 hsz0 HX0;clear hx0 hx1 hx2 hx3 hxf;have HBe:=A3 (show C4 y1.w bx [.int .i64 d,.int .i64 q,.int .i64 a,.int .i64 t,.int .i64 k,.int .i64 (b:Int),.int .i64 pl,.int .i64 r,.int .i64 i]from hB0 y1);have HBr:=A3 (show C4 y1.w g [.int .i64 3,.int .i64 0,.int .i64 i,.bool false]from qE I9.out.2 (E6 (A7.self _)) (G9 (A7.self _)) (K1 (A7.self _)) (J5 (A7.self _)) (fun o=>I3 (A7.self _) o));replace Hh:=A3 (Hh.out.to ⟨y1,rfl⟩);have HK:=A3 (show B7 (N8 gs bo bu T) w y1.w from by obtain⟨y,e⟩:=Hup.out y1;rw[e];exact B7.of y);have HNe:=A3 (Hh0.out.notS (g:=bx) Hbx.out.1);have HNr:=A3 (Hh0.out.notS (g:=g) (by have h1:=Hbx.out;have h2:=I9.out;omega));have c4:y1.w.cell? ⟨bx,4,none⟩=some (.int .i64 k):=HBe.out.c 4 _ rfl;have c5:y1.w.cell? ⟨bx,5,none⟩=some (.int .i64 (b:Int)):=HBe.out.c 5 _ rfl;have c6:y1.w.cell? ⟨bx,6,none⟩=some (.int .i64 pl):=HBe.out.c 6 _ rfl;clear E6 G9 K1 J5 I3 hB0;have HW:=A3 (show w.heap.size≤y1.w.heap.size from HK.out.size);have gF:=A3 (show bx<y1.w.heap.size∧g<y1.w.heap.size from⟨HBe.out.lt,HBr.out.lt⟩);clear Hbx I9 Hup;generalize y1.w=w1 at *;have hkk:k=1∨k=2∨k=3∨k=4∨k=5∨k=6∨k=7∨k=8∨k=9:=by omega
 clear hk;rcases hkk with rfl|rfl|rfl|rfl|rfl|rfl|rfl|rfl|rfl
 ·have hL:=mU w1 f da ta dc tc p gs bo bu n T c Hh.out aW.out b HB.out ⟨1,pl,0,false⟩
  have HE:=A3 (show S6 c ⟨d,q,a,t,1,(b:Int),pl,r,i⟩=c.leave (b:Int) ⟨1,pl,0,false⟩from rfl);go_wp2_with(go_at_call 187;with_reducible refine hL.mono ?_);clear hL;rintro _ w2 ⟨rfl,hk2,T2,hm2,hs2⟩;have HR:=A3 (HP.out w2 n T2 (HK.out.step hk2) (by rw[HE.out];exact hm2) (fun g hg=>.inl (hs2 g hg)));clear hk2 hm2 hs2;go_wp2_with fail;refine M7 (v:=.tuple #[]) (by simp[results,Tryz.results125,go_sem]) rfl ?_;exact HR.out
 ·have hL:=mU w1 f da ta dc tc p gs bo bu n T c Hh.out aW.out b HB.out ⟨2,pl,0,false⟩
  have HE:=A3 (show S6 c ⟨d,q,a,t,2,(b:Int),pl,r,i⟩=c.leave (b:Int) ⟨2,pl,0,false⟩from rfl);go_wp2_with(go_at_call 187;with_reducible refine hL.mono ?_);clear hL;rintro _ w2 ⟨rfl,hk2,T2,hm2,hs2⟩;have HR:=A3 (HP.out w2 n T2 (HK.out.step hk2) (by rw[HE.out];exact hm2) (fun g hg=>.inl (hs2 g hg)));clear hk2 hm2 hs2;go_wp2_with fail;refine M7 (v:=.tuple #[]) (by simp[results,Tryz.results125,go_sem]) rfl ?_;exact HR.out
 ·have hni:c.trip i=none:=by
   cases ht:c.trip i with
   |none=>rfl
   |some t=>exact absurd (HI.out.us _ (pY ht)) (H3.out rfl)
  have hlk:=qD Hh.out aW.out i;have hlf:E8 i (P1 (T.map F0.ent)) 0=none:=by
   rcases hlk with⟨x,_,_,h1,_⟩|⟨_,h1,_⟩
   ·rw[hni]at h1;cases h1
   ·exact h1
  have Hlf:=A3 hlf;clear hni hlk hlf;have g6:∀w',A8 w1 w'→w'.cell? ⟨p,6,none⟩=some (.map (some bo)):=fun w' h=>(Hh.out.st.to h).c 6 _ rfl;have g8:∀w',A8 w1 w'→w'.cell? ⟨bx,8,none⟩=some (.int .i64 i):=fun w' h=>(HBe.out.to h).c 8 _ rfl;have g7:∀w',A8 w1 w'→w'.cell? ⟨bx,7,none⟩=some (.int .i64 r):=fun w' h=>(HBe.out.to h).c 7 _ rfl;have g5:∀w',A8 w1 w'→w'.cell? ⟨bx,5,none⟩=some (.int .i64 (b:Int)):=fun w' h=>(HBe.out.to h).c 5 _ rfl;go_upto_region 8 with fail;clear c4 c5 c6;refine R7 (fun w'=>A8 w1 w') 12 (by kernel_rfl) (A8.drew' (A8.self _)) (fun hS=>?_);iterate 11
   refine J4 0 ?_ rfl rfl (by kernel_rfl) hS (fun _ _ _ h=>h) ?_ ?_
   rotate_left
   ·(intro w h;(try dsimp only at h);go_split_ands;go_simp;try with_reducible rfl)
   (try simp only[Act.put,B9])
  refine I0 11 (by kernel_rfl) rfl fun K hK=>?_;go_simp;refine E5 hK (A8.alloc (A8.drew' (A8.self _)) _) ?_;clear hK K hS;intro hS;(try simp only[Act.put,B9])
  refine I0 12 (by kernel_rfl) rfl fun K hK=>?_;(refine AE7 (n:=n) gB rfl _ _ _ _ rfl Tryz.underlying278 rfl i rfl (.pointer (some ⟨w1.heap.size,0,none⟩)) rfl (Hh.out.mo.to (A8.drew' (A8.alloc (A8.self _) _))) Hlf.out ?_;intro w2 hm2 hg2)
  refine M9 hK (by kernel_rfl) ?_;clear hK K;(try clear hS)
  (try simp only[Act.put,B9])
  clear g5 g6 g7 g8;have hst:A8 w1 (w1.alloc (.cells #[.int .i64 r,.int .i64 (b:Int),.bool false] 290)).drew:=A8.drew' (A8.alloc (A8.self _) _);have hbx:C4 (w1.alloc (.cells #[.int .i64 r,.int .i64 (b:Int),.bool false] 290)).drew w1.heap.size (⟨r,(b:Int),false⟩:N7).cs:=(C4.new w1 (⟨r,(b:Int),false⟩:N7).cs _).drew;obtain⟨hM,hK⟩:=(Hh.out.to hst).opened Hh.out.bn hbx Hh.out.fresh hm2 hg2;have hbe:=(HBe.out.to hst).keepS hK HNe.out;have hbr:=(HBr.out.to hst).keepS hK HNr.out;have hk:=HK.out.step ((B7.to (B7.refl (N8 gs bo bu T) w1) hst).step hK);clear hst hbx hK hm2 hg2;have HM:=A3 hM;have W5:=A3 hbe;have nP:=A3 hbr;have HK2:=A3 hk;have HT:=A3 (show∀g∈(T ++ [(⟨n,i,w1.heap.size,⟨r,(b:Int),false⟩⟩:F0)]).map (·.g),g∈T.map (·.g)∨w.heap.size≤g from fun g hg=>by
   rw[List.map_append]at hg;rcases List.mem_append.1 hg with hg|hg
   ·exact .inl hg
   ·simp at hg;subst hg;exact .inr HW.out)
  clear hM hbe hbr hk HBe HBr HK;have Hgn:=A3 (show w1.heap.size≤w1.heap.size from Nat.le_refl _);rw[show w1.heap.size=w1.heap.size from rfl]at Hgn;obtain⟨N1,hN1⟩:∃N,w1.heap.size=N:=⟨_,rfl⟩
  replace HW:=A3 (show w.heap.size≤N1 from hN1 ▸ HW.out);replace gF:=A3 (show bx<N1∧g<N1 from hN1 ▸ gF.out);rw[hN1]at HM HT;replace Hgn:=A3 (show N1≤N1 from Nat.le_refl _);clear hN1;have hnu:=H3.out rfl;have Hnu:=A3 ((Aj8 c.us i).2 hnu);clear hnu;have g7:∀w',A8 w2 w'→w'.cell? ⟨p,7,none⟩=some (.map (some bu)):=fun w' h=>(HM.out.st.to h).c 7 _ rfl;have g8:∀w',A8 w2 w'→w'.cell? ⟨bx,8,none⟩=some (.int .i64 i):=fun w' h=>(W5.out.to h).c 8 _ rfl;go_upto_region 9 with fail;refine R7 (fun w'=>A8 w2 w') 6 (by kernel_rfl) (A8.drew' (A8.self _)) (fun hS=>?_);iterate 6
   refine J4 0 ?_ rfl rfl (by kernel_rfl) hS (fun _ _ _ h=>h) ?_ ?_
   rotate_left
   ·(intro w h;(try dsimp only at h);go_split_ands;go_simp;try with_reducible rfl)
   (try simp only[Act.put,B9])
  refine I0 6 (by kernel_rfl) rfl fun K hK=>?_;(refine zZ (b:=bu) gB rfl _ _ _ _ rfl Tryz.underlying199 rfl i rfl (.bool true) rfl HM.out.mu.drew Hnu.out ?_;intro w3 hm3 hg3)
  refine M9 hK (by kernel_rfl) ?_;clear hK K;(try clear hS)
  (try simp only[Act.put,B9])
  clear g7 g8;have hst:A8 w2 w2.drew:=A8.drew' (A8.self _);obtain⟨hM,hK⟩:=(HM.out.to hst).usedI hm3 hg3;have hbe:=(W5.out.to hst).keepS hK (fun h=>(qG h).elim HNe.out (fun e=>by have h1:=gF.out;have e2:bx=N1:=e;omega));have hbr:=(nP.out.to hst).keepS hK (fun h=>(qG h).elim HNr.out (fun e=>by have h1:=gF.out;have e2:g=N1:=e;omega));have hk:=HK2.out.trans ((B7.to (B7.refl _ w2) hst).step hK) (fun g hg=>(qG hg).elim .inl (fun e=>.inr (by have h1:=HW.out;have e2:_ =N1:=e;omega)));clear hst hK hm3 hg3;have HM3:=A3 hM;have aT:=A3 hbe;have fI:=A3 hbr;have HK3:=A3 hk;clear hM hbe hbr hk HM W5 nP HK2;obtain⟨u3,hu3⟩:∃u,c.sp[b]? =some u:=⟨_,A4 HB.out⟩
  have hq:=fun(j:Nat) (v:Value) (hj:u3.cs[j]? =some v)=>show w3.cell? ⟨gs,b*4+j,none⟩=some v from HM3.out.sp.c _ _ (H7 D8.len c.sp b u3 j v hu3 hj);have q0:=hq 0 _ rfl;have q1:=hq 1 _ rfl;have q2:=hq 2 _ rfl;have q3:=hq 3 _ rfl;have qf:∀o,w3.frozen? ⟨gs,o,none⟩=false:=fun o=>HM3.out.sp.f o;simp only[Nat.add_zero]at q0;clear hq hu3;have g5:∀w',A8 w3 w'→w'.cell? ⟨p,5,none⟩=some (.slice (some ⟨gs,0,none⟩) c.sp.length c.sp.length):=fun w' h=>(HM3.out.st.to h).c 5 _ rfl;have e5:∀w',A8 w3 w'→w'.cell? ⟨bx,5,none⟩=some (.int .i64 (b:Int)):=fun w' h=>(aT.out.to h).c 5 _ rfl;have r0:∀w',A8 w3 w'→w'.cell? ⟨g,0,none⟩=some (.int .i64 3):=fun w' h=>(fI.out.to h).c 0 _ rfl;have r1:∀w',A8 w3 w'→w'.cell? ⟨g,1,none⟩=some (.int .i64 0):=fun w' h=>(fI.out.to h).c 1 _ rfl;have r2:∀w',A8 w3 w'→w'.cell? ⟨g,2,none⟩=some (.int .i64 i):=fun w' h=>(fI.out.to h).c 2 _ rfl;have r3:∀w',A8 w3 w'→w'.cell? ⟨g,3,none⟩=some (.bool false):=fun w' h=>(fI.out.to h).c 3 _ rfl;go_upto_region 10 with fail;refine R7 (fun w'=>A8 w3 w') 8 (by kernel_rfl) (A8.drew' (A8.self _)) (fun hS=>?_);iterate 8
   refine J4 0 ?_ rfl rfl (by kernel_rfl) hS (fun _ _ _ h=>h) ?_ ?_
   rotate_left
   ·(intro w h;(try dsimp only at h);go_split_ands;go_simp;try with_reducible rfl)
   (try simp only[Act.put,B9])
  refine I0 8 (by kernel_rfl) rfl fun K hK=>?_;go_simp;refine M9 hK (by kernel_rfl) ?_;clear hK K;(try clear hS)
  (try simp only[Act.put,B9])
  clear g5 e5 r0 r1 r2 r3 q0 q1 q2 q3 qf;have hst:A8 w3 w3.drew:=A8.drew' (A8.self _);obtain⟨hM,hK⟩:=(HM3.out.to hst).put (b:=b) HB.out ⟨3,0,i,false⟩;have hk:=HK3.out.trans ((B7.to (B7.refl _ w3) hst).step hK) (fun g hg=>(qG hg).elim .inl (fun e=>.inr (by have h1:=HW.out;have e2:_ =N1:=e;omega)));go_wp2_with fail;refine M7 (v:=.tuple #[]) (by simp[results,Tryz.results125,go_sem]) rfl ?_;exact HP.out _ (n+1) _ hk hM HT.out
 ·obtain⟨tt,htt⟩:=H4.out rfl
  obtain⟨xt,hxt,hxi,AA5,hlv⟩:∃x∈T,x.i=i∧x.t=tt∧Q4 i (P1 (T.map F0.ent)) (.pointer none)= .pointer (some ⟨x.g,0,none⟩):=by
   rcases qD Hh.out aW.out i with⟨x,h1,h2,h3,h4⟩|⟨h1,_⟩
   ·rw[htt]at h3;exact⟨x,h1,h2,(Option.some.inj h3).symm,h4⟩
   ·rw[htt]at h1;cases h1
  obtain⟨b2,hb2,Ax1,_,_⟩:=HI.out.trip _ (pY htt);have HE:=A3 (show S6 c ⟨d,q,a,t,4,(b:Int),pl,r,i⟩=((c.put tt.bk (c.spt (b:Int))).put (b:Int) ⟨3,0,i,false⟩).setT i fun t=>{t with bk:=(b:Int)}from by show(match c.trip i with|none=>c|some t=>_)= _;rw[htt]);rw[HU.out]at HE;have hlk:∀z:A7 w1,(Instr.lookup 278 (.map (some bo)) (.int .i64 i) false).run Tryz.prog z.w= .ok (.pointer (some ⟨xt.g,0,none⟩)) z.w:=fun z=>by have h1:=sS gB (Hh.out.mo.since z) Tryz.underlying278 (Ak0 _) i false;rw[if_neg (by decide),hlv]at h1;exact h1
  have g6:∀z:A7 w1,z.w.cell? ⟨p,6,none⟩=some (.map (some bo)):=fun z=>(Hh.out.st.since z).c 6 _ rfl;have g8:∀z:A7 w1,z.w.cell? ⟨bx,8,none⟩=some (.int .i64 i):=fun z=>(HBe.out.since z).c 8 _ rfl;have hbk0:xt.t.bk=(b2:Int):=by rw[AA5];exact hb2
  have Hb2:=A3 hb2;have At7:=A3 Ax1;have Hxt:=A3 hxt;have Hxi:=A3 hxi;have Hbk:=A3 hbk0;have BC0:(0:Int)≤(b2:Int):=by omega
  have BC1:(b2:Int)<(c.sp.length:Int):=by omega
  clear htt hxt hxi AA5 hlv hb2 Ax1 hbk0;go_upto_region 12 with fail;clear c4 c5 c6;obtain⟨z0,hz0⟩:=A7.refl w1;rw[hz0];clear hz0;refine L5 (by kernel_rfl) (by kernel_rfl) ?_;repeat(go_big_quiet_step(fail))
  refine wpQuiet_nil ?_;rintro _ ⟨z,rfl⟩;clear hlk g6 g8;have hM:=Hh.out.to ⟨z,rfl⟩;have hbe:=HBe.out.to ⟨z,rfl⟩;have hbr:=HBr.out.to ⟨z,rfl⟩;have hk:=HK.out.step (B7.of (S:=N8 gs bo bu T) z);have HM:=A3 hM;have W5:=A3 hbe;have nP:=A3 hbr;have HK2:=A3 hk;clear hM hbe hbr hk HBe HBr HK Hh;generalize z.w=w2 at *;obtain⟨v2,hv2⟩:∃v,c.sp[b2]? =some v:=⟨_,A4 At7.out⟩
  have g5:∀w',A8 w2 w'→w'.cell? ⟨p,5,none⟩=some (.slice (some ⟨gs,0,none⟩) c.sp.length c.sp.length):=fun w' h=>(HM.out.st.to h).c 5 _ rfl;have e5:∀w',A8 w2 w'→w'.cell? ⟨bx,5,none⟩=some (.int .i64 (b:Int)):=fun w' h=>(W5.out.to h).c 5 _ rfl;have tb:∀w',A8 w2 w'→w'.cell? ⟨xt.g,1,none⟩=some (.int .i64 (b2:Int)):=fun w' h=>by have h1:=((HM.out.tr xt Hxt.out).to h).c 1 _ rfl;rw[Hbk.out]at h1;exact h1
  have s0:∀w',A8 w2 w'→w'.cell? ⟨gs,b*4,none⟩=some (.int .i64 u.w):=fun w' h=>(HM.out.sp.to h).c _ _ (H7 D8.len c.sp b u 0 _ Hu.out rfl);have s1:∀w',A8 w2 w'→w'.cell? ⟨gs,b*4+1,none⟩=some (.int .i64 u.p):=fun w' h=>(HM.out.sp.to h).c _ _ (H7 D8.len c.sp b u 1 _ Hu.out rfl);have s2:∀w',A8 w2 w'→w'.cell? ⟨gs,b*4+2,none⟩=some (.int .i64 u.r):=fun w' h=>(HM.out.sp.to h).c _ _ (H7 D8.len c.sp b u 2 _ Hu.out rfl);have s3:∀w',A8 w2 w'→w'.cell? ⟨gs,b*4+3,none⟩=some (.bool u.z):=fun w' h=>(HM.out.sp.to h).c _ _ (H7 D8.len c.sp b u 3 _ Hu.out rfl);have q0:w2.cell? ⟨gs,b2*4,none⟩=some (.int .i64 v2.w):=HM.out.sp.c _ _ (H7 D8.len c.sp b2 v2 0 _ hv2 rfl);have q1:w2.cell? ⟨gs,b2*4+1,none⟩=some (.int .i64 v2.p):=HM.out.sp.c _ _ (H7 D8.len c.sp b2 v2 1 _ hv2 rfl);have q2:w2.cell? ⟨gs,b2*4+2,none⟩=some (.int .i64 v2.r):=HM.out.sp.c _ _ (H7 D8.len c.sp b2 v2 2 _ hv2 rfl);have q3:w2.cell? ⟨gs,b2*4+3,none⟩=some (.bool v2.z):=HM.out.sp.c _ _ (H7 D8.len c.sp b2 v2 3 _ hv2 rfl);have qf:∀o,w2.frozen? ⟨gs,o,none⟩=false:=fun o=>HM.out.sp.f o;clear hv2;go_upto_region 13 with fail;refine R7 (fun w'=>A8 w2 w') 17 (by kernel_rfl) (A8.drew' (A8.self _)) (fun hS=>?_);iterate 17
   refine J4 0 ?_ rfl rfl (by kernel_rfl) hS (fun _ _ _ h=>h) ?_ ?_
   rotate_left
   ·(intro w h;(try dsimp only at h);go_split_ands;go_simp;try with_reducible rfl)
   (try simp only[Act.put,B9])
  refine I0 17 (by kernel_rfl) rfl fun K hK=>?_;go_simp;refine M9 hK (by kernel_rfl) ?_;clear hK K;(try clear hS)
  (try simp only[Act.put,B9])
  clear g5 e5 tb s0 s1 s2 s3 q0 q1 q2 q3 qf;have hst:A8 w2 w2.drew:=A8.drew' (A8.self _);obtain⟨hM,hK⟩:=(HM.out.to hst).put (b:=b2) At7.out u;have hbe:=(W5.out.to hst).keepS hK HNe.out;have hbr:=(nP.out.to hst).keepS hK HNr.out;have hk:=HK2.out.step ((B7.to (B7.refl (N8 gs bo bu T) w2) hst).step hK);have HM3:=A3 hM;have aT:=A3 hbe;have fI:=A3 hbr;have HK3:=A3 hk;have HL:=A3 (show(c.put (b2:Int) u).sp.length=c.sp.length from by simp[C5.put]);have HOp:=A3 (show(c.put (b2:Int) u).op=c.op from rfl);rw[Hb2.out]at HE;clear hM hK hbe hbr hk hst HM W5 nP HK2;go_upto_region 14 with fail;refine Eq.mp (congrArg (Code.wp _ _ _ _) (show w2.drew.setCells gs (b2*4) u.cs= _ from rfl)) ?_;generalize w2.drew.setCells gs (b2*4) u.cs=w3 at *;generalize c.put (b2:Int) u=c3 at *;obtain⟨v3,hv3⟩:∃v,c3.sp[b]? =some v:=⟨_,A4 (by rw[HL.out];exact HB.out)⟩
  have g5:∀w',A8 w3 w'→w'.cell? ⟨p,5,none⟩=some (.slice (some ⟨gs,0,none⟩) c.sp.length c.sp.length):=fun w' h=>by have h1:=(HM3.out.st.to h).c 5 _ rfl;rw[HL.out]at h1;exact h1
  have e5:∀w',A8 w3 w'→w'.cell? ⟨bx,5,none⟩=some (.int .i64 (b:Int)):=fun w' h=>(aT.out.to h).c 5 _ rfl;have r0:∀w',A8 w3 w'→w'.cell? ⟨g,0,none⟩=some (.int .i64 3):=fun w' h=>(fI.out.to h).c 0 _ rfl;have r1:∀w',A8 w3 w'→w'.cell? ⟨g,1,none⟩=some (.int .i64 0):=fun w' h=>(fI.out.to h).c 1 _ rfl;have r2:∀w',A8 w3 w'→w'.cell? ⟨g,2,none⟩=some (.int .i64 i):=fun w' h=>(fI.out.to h).c 2 _ rfl;have r3:∀w',A8 w3 w'→w'.cell? ⟨g,3,none⟩=some (.bool false):=fun w' h=>(fI.out.to h).c 3 _ rfl;have q0:w3.cell? ⟨gs,b*4,none⟩=some (.int .i64 v3.w):=HM3.out.sp.c _ _ (H7 D8.len c3.sp b v3 0 _ hv3 rfl);have q1:w3.cell? ⟨gs,b*4+1,none⟩=some (.int .i64 v3.p):=HM3.out.sp.c _ _ (H7 D8.len c3.sp b v3 1 _ hv3 rfl);have q2:w3.cell? ⟨gs,b*4+2,none⟩=some (.int .i64 v3.r):=HM3.out.sp.c _ _ (H7 D8.len c3.sp b v3 2 _ hv3 rfl);have q3:w3.cell? ⟨gs,b*4+3,none⟩=some (.bool v3.z):=HM3.out.sp.c _ _ (H7 D8.len c3.sp b v3 3 _ hv3 rfl);have qf:∀o,w3.frozen? ⟨gs,o,none⟩=false:=fun o=>HM3.out.sp.f o;clear hv3;refine R7 (fun w'=>A8 w3 w') 8 (by kernel_rfl) (A8.drew' (A8.self _)) (fun hS=>?_);iterate 8
   refine J4 0 ?_ rfl rfl (by kernel_rfl) hS (fun _ _ _ h=>h) ?_ ?_
   rotate_left
   ·(intro w h;(try dsimp only at h);go_split_ands;go_simp;try with_reducible rfl)
   (try simp only[Act.put,B9])
  refine I0 8 (by kernel_rfl) rfl fun K hK=>?_;go_simp;refine M9 hK (by kernel_rfl) ?_;clear hK K;(try clear hS)
  (try simp only[Act.put,B9])
  clear g5 e5 r0 r1 r2 r3 q0 q1 q2 q3 qf;have hst:A8 w3 w3.drew:=A8.drew' (A8.self _);obtain⟨hM,hK⟩:=(HM3.out.to hst).put (b:=b) (by rw[HL.out];exact HB.out) ⟨3,0,i,false⟩;have hbe:=(aT.out.to hst).keepS hK HNe.out;have hk:=HK3.out.step ((B7.to (B7.refl (N8 gs bo bu T) w3) hst).step hK);have HM4:=A3 hM;have nN:=A3 hbe;have HK4:=A3 hk;have Bs1:=A3 (show(c3.put (b:Int) ⟨3,0,i,false⟩).op=c.op from HOp.out);clear hM hK hbe hk hst HM3 aT fI HK3;go_upto_region 15 with fail;refine Eq.mp (congrArg (Code.wp _ _ _ _) (show w3.drew.setCells gs (b*4) (⟨3,0,i,false⟩:D8).cs= _ from rfl)) ?_;generalize w3.drew.setCells gs (b*4) (⟨3,0,i,false⟩:D8).cs=w4 at *;generalize c3.put (b:Int) ⟨3,0,i,false⟩=c4 at *;have e5:w4.cell? ⟨bx,5,none⟩=some (.int .i64 (b:Int)):=nN.out.c 5 _ rfl;have k1:w4.cell? ⟨xt.g,1,none⟩=some (.int .i64 xt.t.bk):=(HM4.out.tr xt Hxt.out).c 1 _ rfl;have kf:∀o,w4.frozen? ⟨xt.g,o,none⟩=false:=fun o=>(HM4.out.tr xt Hxt.out).f o;obtain⟨hM,hK⟩:=HM4.out.trip1 (by rw[Bs1.out];exact aW.out) Hxt.out (fun t=>{t with bk:=(b:Int)}) 1 (.int .i64 (b:Int)) (by decide) rfl;rw[Hxi.out]at hM;have HR:=A3 (HP.out _ n _ (HK4.out.step hK) (by rw[HE.out];exact hM) (fun g hg=>.inl (by rw[qC]at hg;exact hg)));clear hM hK;go_wp2_with fail;refine M7 (v:=.tuple #[]) (by simp[results,Tryz.results125,go_sem]) rfl ?_;exact HR.out
 ·have hw3:=H5.out (by decide)
  obtain⟨tt,htt,_⟩:=HI.out.on b HB.out (by rw[A6,Hu.out];exact hw3);have hx:∃x∈T,x.i=u.r:=by
   rw[A6,Hu.out,Hh.out.op]at htt;obtain⟨x,hx,e⟩:=List.mem_map.1 htt;exact⟨x,hx,congrArg Prod.fst e⟩
  have hL:=Ak1 w1 f da ta dc tc p gs bo bu n T c Hh.out aW.out b u Hu.out hx true;have HE:=A3 (show S6 c ⟨d,q,a,t,5,(b:Int),pl,r,i⟩=(c.put (b:Int) {c.spt (b:Int)with z:=true}).setT (c.spt (b:Int)).r fun t=>{t with z:=true}from rfl);clear hw3 htt hx;go_wp2_with(go_at_call 188;with_reducible refine hL.mono ?_);clear hL;rintro _ w2 ⟨rfl,hk2,T2,hm2,hs2⟩;have HR:=A3 (HP.out w2 n T2 (HK.out.step hk2) (by rw[HE.out];exact hm2) (fun g hg=>.inl (hs2 g hg)));clear hk2 hm2 hs2;go_wp2_with fail;refine M7 (v:=.tuple #[]) (by simp[results,Tryz.results125,go_sem]) rfl ?_;exact HR.out
 ·have hw3:=H5.out (by decide)
  obtain⟨tt,htt,_⟩:=HI.out.on b HB.out (by rw[A6,Hu.out];exact hw3);have hx:∃x∈T,x.i=u.r:=by
   rw[A6,Hu.out,Hh.out.op]at htt;obtain⟨x,hx,e⟩:=List.mem_map.1 htt;exact⟨x,hx,congrArg Prod.fst e⟩
  have hL:=Ak1 w1 f da ta dc tc p gs bo bu n T c Hh.out aW.out b u Hu.out hx false;have HE:=A3 (show S6 c ⟨d,q,a,t,6,(b:Int),pl,r,i⟩=(c.put (b:Int) {c.spt (b:Int)with z:=false}).setT (c.spt (b:Int)).r fun t=>{t with z:=false}from rfl);clear hw3 htt hx;go_wp2_with(go_at_call 188;with_reducible refine hL.mono ?_);clear hL;rintro _ w2 ⟨rfl,hk2,T2,hm2,hs2⟩;have HR:=A3 (HP.out w2 n T2 (HK.out.step hk2) (by rw[HE.out];exact hm2) (fun g hg=>.inl (hs2 g hg)));clear hk2 hm2 hs2;go_wp2_with fail;refine M7 (v:=.tuple #[]) (by simp[results,Tryz.results125,go_sem]) rfl ?_;exact HR.out
 ·have hL:=mU w1 f da ta dc tc p gs bo bu n T c Hh.out aW.out b HB.out ⟨4,pl,0,false⟩
  have HE:=A3 (show S6 c ⟨d,q,a,t,7,(b:Int),pl,r,i⟩=c.leave (b:Int) ⟨4,pl,0,false⟩from rfl);go_wp2_with(go_at_call 187;with_reducible refine hL.mono ?_);clear hL;rintro _ w2 ⟨rfl,hk2,T2,hm2,hs2⟩;have HR:=A3 (HP.out w2 n T2 (HK.out.step hk2) (by rw[HE.out];exact hm2) (fun g hg=>.inl (hs2 g hg)));clear hk2 hm2 hs2;go_wp2_with fail;refine M7 (v:=.tuple #[]) (by simp[results,Tryz.results125,go_sem]) rfl ?_;exact HR.out
 ·have hL:=mU w1 f da ta dc tc p gs bo bu n T c Hh.out aW.out b HB.out ⟨5,0,0,false⟩
  have HE:=A3 (show S6 c ⟨d,q,a,t,8,(b:Int),pl,r,i⟩=c.leave (b:Int) ⟨5,0,0,false⟩from rfl);go_wp2_with(go_at_call 187;with_reducible refine hL.mono ?_);clear hL;rintro _ w2 ⟨rfl,hk2,T2,hm2,hs2⟩;have HR:=A3 (HP.out w2 n T2 (HK.out.step hk2) (by rw[HE.out];exact hm2) (fun g hg=>.inl (hs2 g hg)));clear hk2 hm2 hs2;go_wp2_with fail;refine M7 (v:=.tuple #[]) (by simp[results,Tryz.results125,go_sem]) rfl ?_;exact HR.out
 ·have hL:=mU w1 f da ta dc tc p gs bo bu n T c Hh.out aW.out b HB.out ⟨6,0,0,false⟩
  have HE:=A3 (show S6 c ⟨d,q,a,t,9,(b:Int),pl,r,i⟩=c.leave (b:Int) ⟨6,0,0,false⟩from rfl);go_wp2_with(go_at_call 187;with_reducible refine hL.mono ?_);clear hL;rintro _ w2 ⟨rfl,hk2,T2,hm2,hs2⟩;have HR:=A3 (HP.out w2 n T2 (HK.out.step hk2) (by rw[HE.out];exact hm2) (fun g hg=>.inl (hs2 g hg)));clear hk2 hm2 hs2;go_wp2_with fail;refine M7 (v:=.tuple #[]) (by simp[results,Tryz.results125,go_sem]) rfl ?_;exact HR.out
end
section
open Go.RowKit Go.ChangeMaps
theorem Ak2:M6 Tryz.prog 101 180 (.agg #[.int .i64 0,.int .i64 0,.int .i64 0,.bool false]) 4 32:=M6.mk' Tryz.underlying101 (by kernel_rfl) rfl (by decide)
theorem mV (w:World) (i:Nat):w.drew.heap[i]? =w.heap[i]? :=rfl
theorem kT (w:World) (o:Obj) (i:Nat):(w.alloc o).heap[i]? =if i=w.heap.size then some o else w.heap[i]? :=by
 show(w.heap.push o)[i]? = _;rw[Array.getElem?_push]
theorem K0.put0 {w:World} {fc:List Value} {p gs bo bu n:Nat} {T:List F0} {c:C5} (h:K0 w fc p gs bo bu n T c) {b:Nat} {u:D8} (hu:c.sp[b]? =some u) (v:Int):K0 (w.setCell ⟨gs,b*4,none⟩ (.int .i64 v)) fc p gs bo bu n T (c.put (b:Int) {u with w:=v})∧B7 (N8 gs bo bu T) w (w.setCell ⟨gs,b*4,none⟩ (.int .i64 v)):=by
 have hk:B7 (fun g=>g=gs) w (w.setCell ⟨gs,b*4,none⟩ (.int .i64 v)):=B7.set (S:=fun g=>g=gs) w _ _ rfl;have hn:=h.ne;simp only[List.nodup_cons,List.mem_cons,List.mem_map,not_or]at hn;obtain⟨⟨n1,n2,n3,n4⟩,⟨n5,n6,n7⟩,⟨n8,n9⟩,n10,n11⟩:=hn;refine⟨⟨?_,?_,h.mo.keepS hk (Ne.symm n5),h.bn,h.mu.keepS hk (Ne.symm n6),fun y hy=>(h.tr y hy).keepS hk (fun e=>n7 ⟨y,hy,e⟩),h.op,h.ne⟩,B7.set _ _ _ (by simp[N8])⟩
 ·have:=h.st.keepS hk n1
  simpa[C5.put]using this
 ·have:=h.sp.setE1 D8.len hu (j:=0) (y:={u with w:=v}) (v:=.int .i64 v) (by decide) rfl
  simpa[C5.put]using this
theorem M1 (w:World) (A B C D:Obj):((((w.alloc A).alloc B).alloc C).alloc D).drew.heap[w.heap.size]? =some A∧((((w.alloc A).alloc B).alloc C).alloc D).drew.heap[w.heap.size+1]? =some B∧((((w.alloc A).alloc B).alloc C).alloc D).drew.heap[w.heap.size+1+1]? =some C∧((((w.alloc A).alloc B).alloc C).alloc D).drew.heap[w.heap.size+1+1+1]? =some D:=by
 have hs:∀(w:World) (o:Obj),(w.alloc o).heap.size=w.heap.size+1:=fun w o=>by simp
 simp only[mV,kT,hs];refine⟨?_,?_,?_,?_⟩
 ·rw[if_neg (by omega),if_neg (by omega),if_neg (by omega),if_pos trivial]
 ·rw[if_neg (by omega),if_neg (by omega),if_pos trivial]
 ·rw[if_neg (by omega),if_pos trivial]
 ·rw[if_pos trivial]
theorem AW7 {w:World} {fc:List Value} {p gs bo bu:Nat} {T1 T2:TypeId} {sp:List D8} (h1:w.heap[p]? =some (.cells (fc ++ [Value.slice (some ⟨gs,0,none⟩) sp.length sp.length,Value.map (some bo),Value.map (some bu)]).toArray T1)) (h2:w.heap[gs]? =some (.cells (B4 D8.cs sp).toArray T2)) (h3:w.heap[bo]? =some (.map #[] 0)) (h4:w.heap[bu]? =some (.map #[] 0)) (hn:[p,gs,bo,bu].Nodup):
 K0 w fc p gs bo bu 0 [] ⟨sp,[],[]⟩:=
 ⟨C4.heap h1,C4.heap h2,h3,AC3 0,h4,(fun x hx=>by simp at hx),rfl,by simpa using hn⟩
theorem kU {W wr:World} {fc:List Value} {p:Nat} {sp:List D8} {m:Nat} (gs bo bu:Nat) (h1:wr.heap[p]? =some (.cells (fc ++ [Value.slice (some ⟨gs,0,none⟩) m m,Value.map (some bo),Value.map (some bu)]).toArray 280)) (h2:wr.heap[gs]? =some (.cells (B4 D8.cs sp).toArray 180)) (h3:wr.heap[bo]? =some (.map #[] 0)) (h4:wr.heap[bu]? =some (.map #[] 0)) (hst:A8 W wr) (hn:[p,gs,bo,bu].Nodup∧(∀g∈[p,gs,bo,bu],W.heap.size≤g)∧m=sp.length):
 ∃(p' gs bo bu:Nat),Value.pointer (some ⟨p,0,none⟩)= .pointer (some ⟨p',0,none⟩)∧A8 W wr∧K0 wr fc p' gs bo bu 0 [] ⟨sp,[],[]⟩∧∀g∈[p',gs,bo,bu],W.heap.size≤g:=by
 obtain⟨h5,h6,rfl⟩:=hn;exact⟨p,gs,bo,bu,rfl,hst,AW7 h1 h2 h3 h4 h5,h6⟩
theorem AW8 (w:World) (x:A7 w) (f:G4) (da ta:Option Addr) (dc tc m:Nat) (hm:f.bk=(m:Int)) (oG:m≤128):
 Calls Tryz.prog 121 #[.agg #[.int .i64 f.bk,.int .i64 f.rd,.int .i64 f.dv,.slice da f.dk.length dc,.slice ta f.tk.length tc]] x.w fun o w'=>∃(p gs bo bu:Nat) (y:A7 w),o= .returned (.pointer (some ⟨p,0,none⟩))∧w'=y.w∧K0 y.w [.int .i64 f.bk,.int .i64 f.rd,.int .i64 f.dv,.slice da f.dk.length dc,.slice ta f.tk.length tc] p gs bo bu 0 [] (P4 m)∧(∀g∈[p,gs,bo,bu],w.heap.size≤g):=by
 have Hm:=A3 hm;rw[hm];have hmk:=fun(w':World)=>zW (enc:=D8.cs) Ak2 D8.len ⟨0,0,0,false⟩ rfl m (by omega) (by omega) w';have hmm:=@run_makeMap Tryz.prog;clear hm;go_enter Tryz.func121,Tryz.ntmps121;go_upto_region 1 with fail;obtain⟨W,bx,y0,hW,hbx,-,B8,Hup,Hbx,HB0⟩:=K7 x [.int .i64 (m:Int),.int .i64 f.rd,.int .i64 f.dv,.slice da f.dk.length dc,.slice ta f.tk.length tc] 24;rw[hW,hbx];clear hW hbx;obtain⟨D9,E7,F9,G0,G8,hf0⟩:=V5 HB0;clear HB0;have e0:=fun(w':World) (h:A8 W w')=>A8.cell D9 h;have e1:=fun(w':World) (h:A8 W w')=>A8.cell E7 h;have e2:=fun(w':World) (h:A8 W w')=>A8.cell F9 h;have e3:=fun(w':World) (h:A8 W w')=>A8.cell G0 h;have e4:=fun(w':World) (h:A8 W w')=>A8.cell G8 h;go_cut [3] (fun s3 wr=>∃(p gs bo bu:Nat),s3= .pointer (some ⟨p,0,none⟩)∧A8 W wr∧K0 wr [.int .i64 (m:Int),.int .i64 f.rd,.int .i64 f.dv,.slice da f.dk.length dc,.slice ta f.tk.length tc] p gs bo bu 0 [] ⟨List.replicate m ⟨0,0,0,false⟩,[],[]⟩∧∀g∈[p,gs,bo,bu],W.heap.size≤g)
 case first=>
  go_region_held3 (fun w'=>A8 W w') (first|assumption|exact A8.drew _|exact A8.drew' ⟨_,rfl⟩|exact A8.alloc (by assumption) _|exact A8.drew' (A8.alloc (A8.of _) _)) (fail);all_goals
   go_wp2_with fail;go_meet;clear hmk hmm;first
    |(exact kU (y0.w.heap.size) (y0.w.heap.size+1) (y0.w.heap.size+1+1) (M1 _ _ _ _ _).2.2.2 (M1 _ _ _ _ _).1 (M1 _ _ _ _ _).2.1 (M1 _ _ _ _ _).2.2.1 (A8.drew' (A8.alloc (A8.alloc (A8.alloc (A8.alloc (A8.of y0) _) _) _) _)) ⟨by simp<;>omega,by have h0:=y0.b.size;simp;omega,by simp⟩)
    |(exact kU (y0.w.heap.size) (y0.w.heap.size+1+1) (y0.w.heap.size+1) (M1 _ _ _ _ _).2.2.2 (M1 _ _ _ _ _).1 (M1 _ _ _ _ _).2.2.1 (M1 _ _ _ _ _).2.1 (A8.drew' (A8.alloc (A8.alloc (A8.alloc (A8.alloc (A8.of y0) _) _) _) _)) ⟨by simp<;>omega,by have h0:=y0.b.size;simp;omega,by simp⟩)
    |(exact kU (y0.w.heap.size+1) (y0.w.heap.size) (y0.w.heap.size+1+1) (M1 _ _ _ _ _).2.2.2 (M1 _ _ _ _ _).2.1 (M1 _ _ _ _ _).1 (M1 _ _ _ _ _).2.2.1 (A8.drew' (A8.alloc (A8.alloc (A8.alloc (A8.alloc (A8.of y0) _) _) _) _)) ⟨by simp<;>omega,by have h0:=y0.b.size;simp;omega,by simp⟩)
    |(exact kU (y0.w.heap.size+1) (y0.w.heap.size+1+1) (y0.w.heap.size) (M1 _ _ _ _ _).2.2.2 (M1 _ _ _ _ _).2.1 (M1 _ _ _ _ _).2.2.1 (M1 _ _ _ _ _).1 (A8.drew' (A8.alloc (A8.alloc (A8.alloc (A8.alloc (A8.of y0) _) _) _) _)) ⟨by simp<;>omega,by have h0:=y0.b.size;simp;omega,by simp⟩)
    |(exact kU (y0.w.heap.size+1+1) (y0.w.heap.size) (y0.w.heap.size+1) (M1 _ _ _ _ _).2.2.2 (M1 _ _ _ _ _).2.2.1 (M1 _ _ _ _ _).1 (M1 _ _ _ _ _).2.1 (A8.drew' (A8.alloc (A8.alloc (A8.alloc (A8.alloc (A8.of y0) _) _) _) _)) ⟨by simp<;>omega,by have h0:=y0.b.size;simp;omega,by simp⟩)
    |(exact kU (y0.w.heap.size+1+1) (y0.w.heap.size+1) (y0.w.heap.size) (M1 _ _ _ _ _).2.2.2 (M1 _ _ _ _ _).2.2.1 (M1 _ _ _ _ _).2.1 (M1 _ _ _ _ _).1 (A8.drew' (A8.alloc (A8.alloc (A8.alloc (A8.alloc (A8.of y0) _) _) _) _)) ⟨by simp<;>omega,by have h0:=y0.b.size;simp;omega,by simp⟩)
 case rest=>
  clear hmk hmm e0 e1 e2 e3 e4;obtain⟨p,gs,bo,bu,rfl,hst,hM,hge⟩:=hcut;have HP:=A3 (fun(y:A7 W) (hM:K0 y.w [.int .i64 (m:Int),.int .i64 f.rd,.int .i64 f.dv,.slice da f.dk.length dc,.slice ta f.tk.length tc] p gs bo bu 0 [] (P4 m))=>show∃(p' gs bo bu:Nat) (z:A7 w),Ending.returned (.pointer (some ⟨p,0,none⟩))= .returned (.pointer (some ⟨p',0,none⟩))∧y.w=z.w∧K0 z.w [.int .i64 (m:Int),.int .i64 f.rd,.int .i64 f.dv,.slice da f.dk.length dc,.slice ta f.tk.length tc] p' gs bo bu 0 [] (P4 m)∧(∀g∈[p',gs,bo,bu],w.heap.size≤g)from by
   obtain⟨z,hz⟩:=Hup.out y;exact⟨p,gs,bo,bu,z,rfl,hz,hz ▸ hM,fun g hg=>by have h1:=hge g hg;have h2:=Hbx.out;omega⟩)
  have Hge:=A3 hge;have HM:=A3 hM;clear hge hM D9 E7 F9 G0 G8 hf0 Hbx Hup B8;obtain⟨y1,rfl⟩:=hst;have k5:y1.w.cell? ⟨p,5,none⟩=some (.slice (some ⟨gs,0,none⟩) m m):=by have h:=HM.out.st.c 5 _ rfl;simpa using h
  go_wp2_with fail;clear k5;go_loopw [18] (fun s wr=>∃(k:Nat) (y:A7 W),k≤m∧s= .int .i64 k∧wr=y.w∧K0 y.w [.int .i64 (m:Int),.int .i64 f.rd,.int .i64 f.dv,.slice da f.dk.length dc,.slice ta f.tk.length tc] p gs bo bu 0 [] ⟨List.replicate k ⟨5,0,0,false⟩ ++ List.replicate (m-k) ⟨0,0,0,false⟩,[],[]⟩) (fun s _ =>m-(intOf s).toNat)
  case atStart=>exact⟨0,y1,by omega,rfl,rfl,by simpa using HM.out⟩
  case round=>
   clear HM;obtain⟨k,y,hk,rfl,rfl,hM⟩:=hrel;have HM:=A3 hM;clear hM;by_cases hlt:k<m
   ·have hk0:(0:Int)≤(k:Int):=by omega
    have hkl:(k:Int)<(m:Int):=by omega
    have hu:(List.replicate k (⟨5,0,0,false⟩:D8) ++ List.replicate (m-k) ⟨0,0,0,false⟩)[k]? =some ⟨0,0,0,false⟩:=by
     rw[List.getElem?_append_right (by simp),List.length_replicate,Nat.sub_self,List.getElem?_replicate,if_pos (by omega)]
    have k5:y.w.cell? ⟨p,5,none⟩=some (.slice (some ⟨gs,0,none⟩) m m):=by have h:=HM.out.st.c 5 _ rfl;simp only[List.length_append,List.length_replicate,show k+(m-k)=m by omega]at h;exact h
    have q0:y.w.cell? ⟨gs,k*4,none⟩=some (.int .i64 0):=HM.out.sp.c _ _ (H7 D8.len _ k _ 0 _ hu rfl);have qf:∀o,y.w.frozen? ⟨gs,o,none⟩=false:=fun o=>HM.out.sp.f o;have hP:=(HM.out.put0 hu 5).1;have hge:=Hge.out gs (by simp);obtain⟨y2,h2⟩:=y.set ⟨gs,k*4,none⟩ hge (.int .i64 5);rw[h2]at hP;have el:(C5.put ⟨List.replicate k (⟨5,0,0,false⟩:D8) ++ List.replicate (m-k) ⟨0,0,0,false⟩,[],[]⟩ (k:Int) ⟨5,0,0,false⟩)=⟨List.replicate (k+1) ⟨5,0,0,false⟩ ++ List.replicate (m-(k+1)) ⟨0,0,0,false⟩,[],[]⟩:=by
     unfold C5.put;rw[Int.toNat_natCast];congr 1;rw[List.set_append_right _ _ (by simp),List.length_replicate,Nat.sub_self,show m-k=(m-(k+1))+1 by omega,List.replicate_succ,List.set_cons_zero,List.replicate_succ'];simp
    rw[el]at hP;have HM2:=A3 hP;have H2:=A3 h2;clear hP h2 el hu;go_wp2_with fail;clear k5 q0 qf;go_roundw
    case rel=>exact⟨k+1,y2,by omega,by go_num,H2.out,HM2.out⟩
    case measure=>simp[intOf];omega
   ·obtain rfl:k=m:=by omega
    have HR:=A3 (HP.out y (by have h:=HM.out;rw[Nat.sub_self,List.replicate_zero,List.append_nil]at h;exact h));clear HM;go_wp2_with fail;go_ret;exact HR.out
end
end Go.Proofs.YtmmlmhnjjfnpnaaGreat
