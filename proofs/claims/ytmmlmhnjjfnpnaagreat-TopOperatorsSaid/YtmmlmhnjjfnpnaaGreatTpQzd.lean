/- Texts that belong together. -/
import Derived.Test.YtmmlmhnjjfnpnaaGreatTpQx
import Derived.Test.YtmmlmhnjjfnpnaaGreatTpQzb
set_option linter.all false
namespace Go.Proofs.YtmmlmhnjjfnpnaaGreat
set_option maxRecDepth 200000
set_option maxHeartbeats 64000000
section
open Go.RowKit Go.ChangeMaps
structure o6 (w:World) (B g:Nat) (v:Value) (out:List Ev):Prop where
 b:C4 w g [v]
 r:w.ownsRow B 63 9 v out.length (B4 Ev.cs out)
 ne:∀b,v.ownBlock=some b→b≠g
 ge:B≤g
theorem o6.to {w W:World} {B g:Nat} {v:Value} {out:List Ev} (h:o6 w B g v out) (hW:∃z:A7 w,W=z.w):o6 W B g v out:=⟨h.b.to hW,J8 h.r hW,h.ne,h.ge⟩
def aO (g:Nat) (v:Value) (b:Nat):Prop:=b=g∨v.ownBlock=some b
theorem o6.keepS {S:Nat→Prop} {w w':World} {B g:Nat} {v:Value} {out:List Ev} (h:o6 w B g v out) (hk:B7 S w w') (hn:∀b,aO g v b→¬S b):o6 w' B g v out:=by
 refine⟨h.b.keepS hk (hn g (.inl rfl)),?_,h.ne,h.ge⟩;obtain⟨hl,h1|⟨g',cap,cur,e,hg,hh,r⟩⟩:=h.r
 ·exact⟨hl,.inl h1⟩
 ·refine⟨hl,.inr ⟨g',cap,cur,e,hg,?_,r⟩⟩
  rw[hk.block g' (Array.getElem?_eq_some_iff.1 hh).1 (hn g' (.inr (by rw[e];rfl)))];exact hh
def mX (w:World) (W:World) (g:Nat) (v:Value) (out:List Ev) (o:Ending) (w':World):Prop:=
 o= .returned (.tuple #[])∧∃(y:A7 w) (v':Value),w'=y.w∧o6 y.w w.heap.size g v' out∧B7 (aO g v) W y.w∧(∀b,v'.ownBlock=some b→v.ownBlock=some b∨W.heap.size≤b)
theorem vW (w0:World) (x0:A7 w0) (w:World) (hw:w=x0.w) (g:Nat) (v:Value) (out:List Ev) (h:o6 w w0.heap.size g v out) (hl:out.length≤100000) (pp:Value) (e:Ev) (err:Int):
 Calls Tryz.prog 75 #[pp,e.ag,.int .i64 err,.pointer (some ⟨g,0,none⟩)] w (mX w0 w g v (if err=0 then out ++ [e]else out)):=by
 obtain⟨x,hx⟩:=A7.refl w;have HX0:=A3 hw;by_cases he:err=0
 ·subst he
  rw[if_pos rfl];have H:=A3 h;obtain⟨a,n,c,rfl⟩:=I4 h.r;have HP:=A3 (fun(y:A7 w0) (v':Value) (h1:o6 y.w w0.heap.size g v' (out ++ [e])) (h2:B7 (aO g (.slice a n c)) w y.w) (h3:∀b,v'.ownBlock=some b→(Value.slice a n c).ownBlock=some b∨w.heap.size≤b)=>show mX w0 w g (.slice a n c) (out ++ [e]) (.returned (.tuple #[])) y.w from⟨rfl,y,v',rfl,h1,h2,h3⟩);generalize mX w0 w g (.slice a n c) (out ++ [e])=PO at *;unfold Ev.ag;rw[hx];clear h hw hx;go_enter Tryz.func75,Tryz.ntmps75;go_upto_region 1 with fail;obtain⟨W,bx,y0,hW,hbx,-,B8,Hup,Hbx,HB0⟩:=K7 x [.int .i64 e.d,.int .i64 e.q,.int .i64 e.a,.int .i64 e.t,.int .i64 e.k,.int .i64 e.b,.int .i64 e.p,.int .i64 e.r,.int .i64 e.i] 63;rw[hW,hbx];clear hW hbx;obtain⟨D9,E7,F9,G0,G8,K4,O0,Q6,R0,hf0⟩:=eT HB0;clear HB0;replace H:=A3 (H.out.to B8);have HWX:=A3 (show∃z:A7 w0,W=z.w from by obtain⟨z,rfl⟩:=B8;have:=HX0.out;subst this;exact x0.trans z);have HK:=A3 (show B7 (aO g (.slice a n c)) w W from by obtain⟨z,rfl⟩:=B8;exact B7.of z);clear B8;have k0:∀y:A7 W,y.w.cell? ⟨g,0,none⟩=some (.slice a n c):=fun y=>(H.out.b.since y).c 0 _ rfl;go_upto_region 2 with fail;go_wp2_with(at_builtin;(refine gL (w0:=w0) (k:=9) ?hw rfl _ _ 25 rfl w0.heap.size (Nat.le_refl _) ?hb 63 (.agg #[.int .i64 0,.int .i64 0,.int .i64 0,.int .i64 0,.int .i64 0,.int .i64 0,.int .i64 0,.int .i64 0,.int .i64 0]) 72 Al5 (.slice a n c) out.length (B4 Ev.cs out) rfl ?hown ⟨y0.w.heap.size,0,none⟩ 1 1 e.cs rfl ?hn ?hc ?h1 (by decide) ?h63 ?hbytes ?_;rotate_right 1;intro v2 q2 hown2 hg2 hl2;refine Hid.out ?_))
  case hw=>obtain⟨z,ez⟩:=HWX.out;obtain⟨z2,e2⟩:=A8.alloc (A8.of y0) (.cells #[.int .i64 e.d,.int .i64 e.q,.int .i64 e.a,.int .i64 e.t,.int .i64 e.k,.int .i64 e.b,.int .i64 e.p,.int .i64 e.r,.int .i64 e.i] 63);rw[e2];subst ez;exact z.trans z2
  case hb=>obtain⟨z,ez⟩:=HWX.out;have h1:=z.b.size;have h2:=y0.b.size;have h3:W.heap.size=z.w.heap.size:=congrArg (·.heap.size) ez;simp;omega
  case hown=>exact J8 H.out.r (A8.alloc (A8.of y0) _)
  case hn=>rfl
  case hc=>exact Z6 y0.w e.cs _
  case h1=>exact qL e
  case h63=>unfold maxLen;omega
  case hbytes=>omega
  obtain⟨a2,n2,c2,rfl⟩:=I4 hown2;have hY:A8 W (y0.w.alloc (.cells #[.int .i64 e.d,.int .i64 e.q,.int .i64 e.a,.int .i64 e.t,.int .i64 e.k,.int .i64 e.b,.int .i64 e.p,.int .i64 e.r,.int .i64 e.i] 63)):=A8.alloc (A8.of y0) _;generalize y0.w.alloc (.cells #[.int .i64 e.d,.int .i64 e.q,.int .i64 e.a,.int .i64 e.t,.int .i64 e.k,.int .i64 e.b,.int .i64 e.p,.int .i64 e.r,.int .i64 e.i] 63)=Y at *;have hgn:some g≠(Value.slice a n c).ownBlock:=fun e=>H.out.ne g e.symm rfl;have hb2:C4 q2.w g [.slice a n c]:=(H.out.b.to hY).grown hg2 hgn;have k1:q2.w.cell? ⟨g,0,none⟩=some (.slice a n c):=hb2.c 0 _ rfl;have kf:∀o,q2.w.frozen? ⟨g,o,none⟩=false:=fun o=>hb2.f o;have hne2:∀b,(Value.slice a2 n2 c2).ownBlock=some b→b≠g:=fun b hb=>by
   rcases hl2 b hb with h|h
   ·exact H.out.ne b h
   ·have:=(H.out.b.to hY).lt;omega
  obtain⟨y3,e3⟩:=q2.set ⟨g,0,none⟩ H.out.ge (.slice a2 n2 c2);have hO:o6 y3.w w0.heap.size g (.slice a2 n2 c2) (out ++ [e]):=by
   rw[←e3];refine⟨hb2.set1,?_,hne2,H.out.ge⟩;have:=cO hown2 ⟨g,0,none⟩ (.slice a2 n2 c2) hne2;rw[←Y1 Ev.cs e,←U6]at this;rw[List.length_append];exact this
  have hK:B7 (aO g (.slice a n c)) w y3.w:=by
   rw[←e3];refine(HK.out.step (B7.to (B7.refl _ _) hY)).step (B7.step ⟨hg2.os,hg2.tape,hg2.output,hg2.size,fun j hj hn=>hg2.block j hj (fun e=>hn (.inr e.symm))⟩ (B7.set _ _ _ (.inl rfl)))
  have hfr:∀b,(Value.slice a2 n2 c2).ownBlock=some b→(Value.slice a n c).ownBlock=some b∨w.heap.size≤b:=fun b hb=>by
   rcases hl2 b hb with h|h
   ·exact .inl h
   ·right;have h1:=hY.size;have h2:=Hbx.out;omega
  have HR:=A3 (HP.out y3 (.slice a2 n2 c2) hO hK hfr);rw[←e3]at HR;clear hO hK hfr hne2 hb2 hgn hY hown2 hg2 hl2 e3;refine A3 ?_;go_wp2_with fail;refine M7 (v:=.tuple #[]) (by simp[results,Tryz.results75,go_sem]) rfl ?_;exact HR.out
 ·rw[if_neg he]
  have HR:=A3 (show∀z:A7 w,mX w0 w g v out (.returned (.tuple #[])) z.w from fun z=>by
   subst hw;obtain⟨y,hy⟩:=x0.trans z;exact⟨rfl,y,v,hy,hy ▸ h.to ⟨z,rfl⟩,hy ▸ B7.of z,fun b hb=>.inl hb⟩)
  generalize mX w0 w g v out=PO at *;have hne:(err == 0)=false:=by simpa using he
  unfold Ev.ag;rw[hx];clear h hw hx he;go_enter Tryz.func75,Tryz.ntmps75;go_upto_region 1 with fail;obtain⟨W,bx,y0,hW,hbx,-,B8,Hup,Hbx,HB0⟩:=K7 x [.int .i64 e.d,.int .i64 e.q,.int .i64 e.a,.int .i64 e.t,.int .i64 e.k,.int .i64 e.b,.int .i64 e.p,.int .i64 e.r,.int .i64 e.i] 63;rw[hW,hbx];clear hW hbx;obtain⟨D9,E7,F9,G0,G8,K4,O0,Q6,R0,hf0⟩:=eT HB0;clear HB0;go_wp2_with fail;refine M7 (v:=.tuple #[]) (by simp[results,Tryz.results75,go_sem]) rfl ?_;obtain⟨z,hz⟩:=Hup.out y0;rw[hz];exact HR.out z
end
section
open Go.RowKit Go.ChangeMaps
theorem Ba7 (c:C5) (e:Ev):(S6 c e).sp.length=c.sp.length:=by
 have hp:∀(c:C5) (b:Int) (x:D8),(c.put b x).sp.length=c.sp.length:=fun c b x=>by simp[C5.put]
 have hl:∀(c:C5) (b:Int) (x:D8),(c.leave b x).sp.length=c.sp.length:=fun c b x=>by
  unfold C5.leave;dsimp only;split<;>simp[C5.put]
 have hs:∀(c:C5) (i:Int) (g:N7→N7),(c.setT i g).sp.length=c.sp.length:=fun _ _ _ =>rfl;unfold S6;split
 ·exact hl _ _ _
 ·split
  ·exact hl _ _ _
  ·split
   ·exact hp _ _ _
   ·split
    ·split
     ·rfl
     ·rw[hs,hp,hp]
    ·split
     ·rw[hs,hp]
     ·split
      ·exact hl _ _ _
      ·split
       ·exact hl _ _ _
       ·split
        ·exact hl _ _ _
        ·rfl
theorem Ba8 {l:List Ev} {n:Nat} (hn:n≤l.length) {e:Ev} (h:e∈P8 l n):e∈l:=by
 unfold P8 at h;obtain⟨k,hk,rfl⟩:=List.mem_map.1 h;have h1:=List.mem_range.1 (List.mem_filter.1 hk).1;rw[A6,A4 (by omega)];exact List.getElem_mem _
theorem Ba9 {l:List Ev} {e:Ev} (h:e∈P9 l):e∈l:=by
 unfold P9 at h;have h1:e∈P8 (eE l) l.length:=(Ad2 _).mem_iff.1 h;exact(Ak8 l).mem_iff.1 (Ba8 (by rw[vN];exact Nat.le_refl _) h1)
theorem Bb0 {f:G4} {c:C5} {e:Ev} {l:List Ev} (h:V1 f c e=true):O4 f c (e :: l)=e :: O4 f (S6 c e) l:=by
 show(if V1 f c e then _ else _)= _;rw[if_pos h]
theorem Bb1 {f:G4} {c:C5} {e:Ev} {l:List Ev} (h:V1 f c e=false):O4 f c (e :: l)=O4 f c l:=by
 show(if V1 f c e then _ else _)= _;rw[if_neg (by rw[h];decide)]
structure cC (w W:World) (f:G4) (fc:List Value) (p gs bo bu g bx:Nat) (aL:Option Addr) (L:List Ev) (m k n:Nat) (T:List F0) (c:C5) (v:Value) (out:List Ev):Prop where
 X:∃y:A7 w,W=y.w
 M:K0 W fc p gs bo bu n T c
 I:CI m c
 ln:c.sp.length=m
 O:o6 W w.heap.size g v out
 E:D0 Ev.cs 9 W aL L
 S:∀b∈p :: gs :: bo :: bu :: T.map (·.g),w.heap.size≤b∧¬aO g v b∧(∀off,aL≠some ⟨b,off,none⟩)
 A:∀b off,aL=some ⟨b,off,none⟩→¬aO g v b
 eq:out ++ O4 f c (L.drop k)=O4 f (P4 m) L
 lo:out.length≤k
 F:C4 W bx fc
 FSx:bx∉p :: gs :: bo :: bu :: T.map (·.g)
 FO:¬aO g v bx
section
variable {w W:World} {f:G4} {fc:List Value} {p gs bo bu g bx:Nat} {aL:Option Addr} {L:List Ev} {m k n:Nat} {T:List F0} {c:C5} {v:Value} {out:List Ev}
theorem cC.to {W':World} (h:cC w W f fc p gs bo bu g bx aL L m k n T c v out) (hW:∃z:A7 W,W'=z.w):cC w W' f fc p gs bo bu g bx aL L m k n T c v out:=by
 obtain⟨y,rfl⟩:=h.X;have hW2:∃z:A7 w,W'=z.w:=by obtain⟨z,rfl⟩:=hW;exact y.trans z
 exact⟨hW2,h.M.to hW,h.I,h.ln,h.O.to hW,h.E.to hW,h.S,h.A,h.eq,h.lo,h.F.to hW,h.FSx,h.FO⟩
theorem cC.skip {e:Ev} (h:cC w W f fc p gs bo bu g bx aL L m k n T c v out) (he:L[k]? =some e) (ho:V1 f c e=false):cC w W f fc p gs bo bu g bx aL L m (k+1) n T c v out:=by
 refine⟨h.X,h.M,h.I,h.ln,h.O,h.E,h.S,h.A,?_,Nat.le_succ_of_le h.lo,h.F,h.FSx,h.FO⟩;have hk:k<L.length:=(A5 he).1;have e1:L[k]=e:=(A5 he).2;have:=h.eq;rwa[List.drop_eq_getElem_cons hk,e1,Bb1 ho]at this
theorem o6.ltS {W:World} {B:Nat} (h:o6 W B g v out) {b:Nat} (hb:aO g v b):b<W.heap.size:=by
 rcases hb with rfl|hb
 ·exact h.b.lt
 ·exact lV h.r b hb
theorem mY {b:Nat} (h:N8 gs bo bu T b):b∈p :: gs :: bo :: bu :: T.map (·.g):=List.mem_cons_of_mem _ h
theorem cC.told {e:Ev} (h:cC w W f fc p gs bo bu g bx aL L m k n T c v out) (y:A7 w) {v':Value} (hO:o6 y.w w.heap.size g v' out) (hk:B7 (aO g v) W y.w) (hf:∀b,v'.ownBlock=some b→v.ownBlock=some b∨W.heap.size≤b) (he:L[k]? =some e) (hok:V1 f c e=false):cC w y.w f fc p gs bo bu g bx aL L m (k+1) n T c v' out:=by
 have h':=h.skip he hok;obtain⟨h1,h2,h3,h4,h5⟩:=h.M.lts;have hnew:∀b,b<W.heap.size→¬aO g v b→¬aO g v' b:=fun b hb hn ho=>by
  rcases ho with rfl|ho
  ·exact hn (.inl rfl)
  ·rcases hf b ho with h|h
   ·exact hn (.inr h)
   ·omega
 have hlt:∀b∈p :: gs :: bo :: bu :: T.map (·.g),b<W.heap.size:=fun b hb=>by
  simp only[List.mem_cons]at hb;rcases hb with rfl|rfl|rfl|rfl|hb
  ·exact h1
  ·exact h2
  ·exact h3
  ·exact h4
  ·exact h5 b hb
 refine⟨⟨y,rfl⟩,h.M.keep hk (fun b hb=>(h.S b hb).2.1),h.I,h.ln,hO,h.E.keepS hk (fun b off e=>h.A b off e),fun b hb=>⟨(h.S b hb).1,hnew b (hlt b hb) (h.S b hb).2.1,(h.S b hb).2.2⟩,fun b off ea=>?_,h'.eq,h'.lo,h.F.keepS hk h.FO,h.FSx,hnew bx h.F.lt h.FO⟩;obtain⟨b',off',e',hb',_⟩:=h.E k e he;rw[ea]at e';obtain⟨rfl,rfl⟩:b=b'∧off=off':=by simpa using e'
 exact hnew b hb' (h.A b off ea)
theorem cC.done {e:Ev} {W1:World} {n':Nat} {T':List F0} (h:cC w W f fc p gs bo bu g bx aL L m k n T c v out) (he:L[k]? =some e) (hok:V1 f c e=true) (hm:m=f.bk.toNat)
 (hk1:B7 (N8 gs bo bu T) W W1) (hM:K0 W1 fc p gs bo bu n' T' (S6 c e)) (hT:∀b∈T'.map (·.g),b∈T.map (·.g)∨W.heap.size≤b)
 (y:A7 w) {v':Value} (hO:o6 y.w w.heap.size g v' (out ++ [e])) (hk2:B7 (aO g v) W1 y.w) (hf:∀b,v'.ownBlock=some b→v.ownBlock=some b∨W1.heap.size≤b):cC w y.w f fc p gs bo bu g bx aL L m (k+1) n' T' (S6 c e) v' (out ++ [e]):=by
 have hkl:k<L.length:=(A5 he).1;have e1:L[k]=e:=(A5 he).2;obtain⟨yW,hyW⟩:=h.X;have hwW:w.heap.size≤W.heap.size:=by rw[hyW];exact yW.b.size
 have hS1:∀b∈p :: gs :: bo :: bu :: T'.map (·.g),b<W1.heap.size∧w.heap.size≤b∧¬aO g v b∧(∀off,aL≠some ⟨b,off,none⟩):=fun b hb=>by
  obtain⟨h1,h2,h3,h4,h5⟩:=hM.lts;simp only[List.mem_cons]at hb;rcases hb with rfl|rfl|rfl|rfl|hb
  ·exact⟨h1,h.S _ (by simp)⟩
  ·exact⟨h2,h.S _ (by simp)⟩
  ·exact⟨h3,h.S _ (by simp)⟩
  ·exact⟨h4,h.S _ (by simp)⟩
  ·refine⟨h5 b hb,?_⟩
   rcases hT b hb with ht|ht
   ·exact h.S b (by simp only[List.mem_cons];exact .inr (.inr (.inr (.inr ht))))
   ·refine⟨by omega,fun ho=>?_,fun off ea=>?_⟩
    ·have:=h.O.ltS ho;omega
    ·obtain⟨b',off',e',hb',_⟩:=h.E k e he
     rw[ea]at e';obtain⟨rfl,rfl⟩:b=b'∧off=off':=by simpa using e'
     omega
 have hnew:∀b,b<W1.heap.size→¬aO g v b→¬aO g v' b:=fun b hb hn ho=>by
  rcases ho with rfl|ho
  ·exact hn (.inl rfl)
  ·rcases hf b ho with h|h
   ·exact hn (.inr h)
   ·omega
 have hF1:C4 W1 bx fc:=h.F.keepS hk1 (fun hc=>h.FSx (mY hc));have hFS:bx∉p :: gs :: bo :: bu :: T'.map (·.g):=fun hb=>by
  have h0:=h.FSx;simp only[List.mem_cons,not_or]at h0 hb;rcases hb with hb|hb|hb|hb|hb
  ·exact h0.1 hb
  ·exact h0.2.1 hb
  ·exact h0.2.2.1 hb
  ·exact h0.2.2.2.1 hb
  ·rcases hT bx hb with ht|ht
   ·exact h0.2.2.2.2 ht
   ·have:=h.F.lt;omega
 have hE1:D0 Ev.cs 9 W1 aL L:=h.E.keepS hk1 (fun b off ea hc=>(h.S b (mY hc)).2.2 off ea);refine⟨⟨y,rfl⟩,hM.keep hk2 (fun b hb=>(hS1 b hb).2.2.1),h.I.step hm hok,by rw[Ba7];exact h.ln,hO,hE1.keepS hk2 (fun b off e=>h.A b off e),fun b hb=>⟨(hS1 b hb).2.1,hnew b (hS1 b hb).1 (hS1 b hb).2.2.1,(hS1 b hb).2.2.2⟩,fun b off ea=>?_,?_,?_,hF1.keepS hk2 h.FO,hFS,hnew bx hF1.lt h.FO⟩
 ·obtain⟨b',off',e',hb',_⟩:=hE1 k e he
  rw[ea]at e';obtain⟨rfl,rfl⟩:b=b'∧off=off':=by simpa using e'
  exact hnew b hb' (h.A b off ea)
 ·have:=h.eq
  rw[List.drop_eq_getElem_cons hkl,e1,Bb0 hok]at this;rw[List.append_assoc];exact this
 ·have:=h.lo
  rw[List.length_append];simp;omega
end
end
section
open Go.RowKit Go.ChangeMaps
theorem Bb2 {w:World} {g:Nat} {e:Ev} (lt:g<w.heap.size) (h0:w.cell? ⟨g,0,none⟩=some (.int .i64 e.d)) (h1:w.cell? ⟨g,1,none⟩=some (.int .i64 e.q)) (h2:w.cell? ⟨g,2,none⟩=some (.int .i64 e.a)) (h3:w.cell? ⟨g,3,none⟩=some (.int .i64 e.t)) (h4:w.cell? ⟨g,4,none⟩=some (.int .i64 e.k)) (h5:w.cell? ⟨g,5,none⟩=some (.int .i64 e.b)) (h6:w.cell? ⟨g,6,none⟩=some (.int .i64 e.p)) (h7:w.cell? ⟨g,7,none⟩=some (.int .i64 e.r)) (h8:w.cell? ⟨g,8,none⟩=some (.int .i64 e.i)) (hf:∀o,w.frozen? ⟨g,o,none⟩=false):C4 w g e.cs:=by
 refine⟨lt,fun j v hv=>?_,hf⟩;match j,hv with
 |0,hv=>cases hv;exact h0
 |1,hv=>cases hv;exact h1
 |2,hv=>cases hv;exact h2
 |3,hv=>cases hv;exact h3
 |4,hv=>cases hv;exact h4
 |5,hv=>cases hv;exact h5
 |6,hv=>cases hv;exact h6
 |7,hv=>cases hv;exact h7
 |8,hv=>cases hv;exact h8
 |j+9,hv=>simp[Ev.cs]at hv
theorem mZ (f:G4) (c:C5) (e:Ev):V1 f c e=(decide (t6 f e=0) && decide (e.k≠10) && decide (I6 f c e=0)):=rfl
theorem Bb3 (w:World) (v:Value):(binOp BinOp.neq 175 (Value.func (Fn.func 75) #[] #[v]) Value.nilFunc).run Tryz.prog w= .ok (.bool true) w:=by kernel_rfl
theorem Bb4 (w:World) (x:A7 w) (f:G4) (da ta:Option Addr) (dc tc p gs bo bu n:Nat) (T:List F0) (c:C5) (m:Nat) (h:K0 w [.int .i64 f.bk,.int .i64 f.rd,.int .i64 f.dv,.slice da f.dk.length dc,.slice ta f.tk.length tc] p gs bo bu n T c) (hf:i5 w f da ta) (hI:CI m c) (hln:c.sp.length=m) (hm:f.bk=(m:Int)) (oG:m≤128) (e:Ev) (hev:t6 f e=0) (h10:e.k≠10):
 Calls Tryz.prog 124 #[.pointer (some ⟨p,0,none⟩),.agg #[.int .i64 e.d,.int .i64 e.q,.int .i64 e.a,.int .i64 e.t,.int .i64 e.k,.int .i64 e.b,.int .i64 e.p,.int .i64 e.r,.int .i64 e.i]] x.w fun o w'=>o= .returned (.int .i64 (I6 f c e))∧∃y:A7 w,w'=y.w:=by
 obtain⟨⟨h1,h2⟩,_,⟨h3,h4⟩,h5,_,_⟩:=jD hev;obtain⟨d,q,a,t,k,b,pl,r,i⟩:=e;dsimp only at h1 h2 h3 h4 h10⊢;obtain⟨b,rfl⟩:∃n:Nat,b=(n:Int):=⟨b.toNat,by omega⟩
 refine AW2 w x f da ta dc tc p gs bo bu n T c h hf hI.keys (by omega) d q a t k b pl r i (by omega) ⟨h3,by omega⟩ (fun h7=>?_);unfold bZ at h5;dsimp only at h5;rw[if_neg (by omega),if_neg (by omega),if_pos h7]at h5;unfold C6 at h5;simp only[Bool.and_eq_true,decide_eq_true_eq]at h5;omega
theorem Bb5 (w:World) (f:G4) (da ta:Option Addr) (dc tc p gs bo bu n:Nat) (T:List F0) (c:C5) (m:Nat) (h:K0 w [.int .i64 f.bk,.int .i64 f.rd,.int .i64 f.dv,.slice da f.dk.length dc,.slice ta f.tk.length tc] p gs bo bu n T c) (hI:CI m c) (hln:c.sp.length=m) (hm:m=f.bk.toNat) (e:Ev) (hok:V1 f c e=true):
 Calls Tryz.prog 125 #[.pointer (some ⟨p,0,none⟩),.agg #[.int .i64 e.d,.int .i64 e.q,.int .i64 e.a,.int .i64 e.t,.int .i64 e.k,.int .i64 e.b,.int .i64 e.p,.int .i64 e.r,.int .i64 e.i]] w (qF w [.int .i64 f.bk,.int .i64 f.rd,.int .i64 f.dv,.slice da f.dk.length dc,.slice ta f.tk.length tc] p gs bo bu T (S6 c e)):=by
 obtain⟨b,hF⟩:=Aj3 hok;have ho:=hok;rw[mZ]at ho;simp only[Bool.and_eq_true,decide_eq_true_eq]at ho;obtain⟨⟨hev,h10⟩,_⟩:=ho;obtain⟨_,_,⟨h3,h4⟩,_,_,_⟩:=jD hev;have f1:=hF.hb;have f2:=hF.hbn;have f3:=hF.hs;have f4:=hF.hc;have f5:=hF.hp;obtain⟨d,q,a,t,k,b',pl,r,i⟩:=e;dsimp only at f1 f2 f3 f4 f5 h3 h4 h10⊢;subst f1;exact AW6 w f da ta dc tc p gs bo bu n T c h (by rw[hln];exact hI) d q a t k b pl r i (by omega) ⟨h3,by omega⟩ (fun h=>(f3 h).2) (fun h=>(f4 h).2) f5
def vX (w:World) (f:G4) (g:Nat) (L:List Ev) (o:Ending) (w':World):Prop:=
 ∃y:A7 w,w'=y.w∧((K5 f≠0∧o= .returned (.tuple #[.pointer none,.int .i64 (K5 f)])∧C4 y.w g [.slice none 0 0])∨(K5 f=0∧∃(p:Nat) (v:Value),o= .returned (.tuple #[.pointer (some ⟨p,0,none⟩),.int .i64 0])∧o6 y.w w.heap.size g v (O4 f (P4 f.bk.toNat) L)))
theorem Bb6 (wb:World) (xb:A7 wb) (f:G4) (da ta:Option Addr) (dc tc:Nat) (hf:i5 wb f da ta) (a:Option Addr) (l:List Ev) (cl:Nat) (h:D0 Ev.cs 9 wb a l) (hl:l.length≤100000) (hI:∀e∈l,U0 e.p) (g:Nat) (hg:wb.heap.size≤g) (hO:C4 xb.w g [.slice none 0 0]):
 Calls Tryz.prog 74 #[.agg #[.int .i64 f.bk,.int .i64 f.rd,.int .i64 f.dv,.slice da f.dk.length dc,.slice ta f.tk.length tc],.slice a l.length cl,.func (.func 75) #[] #[.pointer (some ⟨g,0,none⟩)]] xb.w (vX wb f g (P9 l)):=by
 have HP:=A3 (fun(o:Ending) (y:A7 wb) (h:(K5 f≠0∧o= .returned (.tuple #[.pointer none,.int .i64 (K5 f)])∧C4 y.w g [.slice none 0 0])∨(K5 f=0∧∃(p:Nat) (v:Value),o= .returned (.tuple #[.pointer (some ⟨p,0,none⟩),.int .i64 0])∧o6 y.w wb.heap.size g v (O4 f (P4 f.bk.toNat) (P9 l))))=>show vX wb f g (P9 l) o y.w from⟨y,rfl,h⟩);generalize vX wb f g (P9 l)=PO at *;have hfn:=Bb3;have Hf:=A3 hf;have HE:=A3 (A7.els h xb);have HI:=A3 hI;have Hg:=A3 hg;have HO:=A3 hO;obtain⟨w,hw⟩:∃w,xb.w=w:=⟨_,rfl⟩
 have HO0:=A3 (show C4 w g [.slice none 0 0]from hw ▸ hO);have Hxw:=A3 hw;rw[hw]at HE HO⊢;obtain⟨x,hx⟩:=A7.refl w;rw[hx];clear hf h hI hg hO hw hx;go_enter Tryz.func74,Tryz.ntmps74;go_upto_region 1 with fail;obtain⟨W,bx,y0,hW,hbx,-,B8,Hup,Hbx,HB0⟩:=K7 x ([.int .i64 f.bk,.int .i64 f.rd,.int .i64 f.dv,.slice da f.dk.length dc,.slice ta f.tk.length tc]) 24;rw[hW,hbx];clear hW hbx;have hB0:=fun y:A7 W=>HB0.since y;clear HB0;have sD:=A3 (show∀z:A7 W,∃y:A7 wb,z.w=y.w from fun z=>by
  obtain⟨y,hy⟩:=Hup.out z;have h1:=Hxw.out;subst h1;obtain⟨y2,h2⟩:=xb.trans y;exact⟨y2,hy.trans h2⟩)
 replace HE:=A3 (HE.out.to B8);replace HO:=A3 (HO.out.to B8);have HBF:=A3 hB0;have HfW:=A3 (show i5 W f da ta from Hf.out.to (by obtain⟨y,hy⟩:=sD.out (A7.self W);exact⟨y,hy⟩));have FL:∀x:A7 W,Calls Tryz.prog 95 #[.agg #[.int .i64 f.bk,.int .i64 f.rd,.int .i64 f.dv,.slice da f.dk.length dc,.slice ta f.tk.length tc]] x.w fun o w'=>o= .returned (.int .i64 (K5 f))∧∃y:A7 W,w'=y.w:=fun x=>vG W x f da ta dc tc HfW.out;have b0:∀y:A7 W,y.w.cell? ⟨bx,0,none⟩=some (.int .i64 f.bk):=fun y=>(HBF.out y).c 0 _ rfl;have b1:∀y:A7 W,y.w.cell? ⟨bx,1,none⟩=some (.int .i64 f.rd):=fun y=>(HBF.out y).c 1 _ rfl;have b2:∀y:A7 W,y.w.cell? ⟨bx,2,none⟩=some (.int .i64 f.dv):=fun y=>(HBF.out y).c 2 _ rfl;have b3:∀y:A7 W,y.w.cell? ⟨bx,3,none⟩=some (.slice da f.dk.length dc):=fun y=>(HBF.out y).c 3 _ rfl;have b4:∀y:A7 W,y.w.cell? ⟨bx,4,none⟩=some (.slice ta f.tk.length tc):=fun y=>(HBF.out y).c 4 _ rfl;clear hB0 B8;by_cases h0:K5 f=0
 case neg=>
  have H0:=A3 h0;have hbn:(K5 f != 0)=true:=by simpa using h0
  clear h0;go_wp2_with(go_at_call 95;(with_reducible refine(FL _).mono ?_);rintro _ _ ⟨rfl,y1,rfl⟩);obtain⟨z,hz⟩:=sD.out y1;have HR:=A3 (HP.out (.returned (.tuple #[.pointer none,.int .i64 (K5 f)])) z (.inl ⟨H0.out,rfl,hz ▸ HO.out.to ⟨y1,rfl⟩⟩));rw[←hz]at HR;exact HR.out
 ·have H0:=A3 h0
  obtain⟨hbk,_,_⟩:=Aj5 h0;obtain⟨m,hm⟩:∃m:Nat,f.bk=(m:Int):=⟨f.bk.toNat,by omega⟩
  have oG:m≤128:=by omega
  have HM0:=A3 hm;have Hm1:=A3 (show m=f.bk.toNat by omega);clear h0 hbk hm;go_upto_region 4 with(go_at_call 95;(with_reducible refine(FL _).mono ?_);rintro _ _ ⟨rfl,y1,rfl⟩;rw[H0.out])
  have hbg:=AW8 y1.w (A7.self y1.w) f da ta dc tc m HM0.out oG;rw[show(A7.self y1.w).w=y1.w from rfl]at hbg;have hst1:A8 W y1.w:=⟨y1,rfl⟩
  go_upto_region 5 with(go_at_call 121;(with_reducible refine hbg.mono ?_);clear hbg;rintro _ _ ⟨p,gs,bo,bu,y2,rfl,rfl,hM,hge⟩)
  have H3:=A3 (y1.trans y2);have hset:=Ba3 y2.w (A7.self y2.w) a l cl (HE.out.to H3.out) hl;rw[show(A7.self y2.w).w=y2.w from rfl]at hset;go_wp2_with(go_at_call 122;(with_reducible refine hset.mono ?_);clear hset;rintro _ _ ⟨a5,n5,c5,y4,rfl,rfl,hown⟩);obtain⟨rfl,a6,c6,he6,_,hE6,hba,hob⟩:=O9 b9 (by decide) hown;obtain⟨rfl,rfl⟩:a5=a6∧c5=c6:=by simpa using he6
  clear he6;have Hln:=A3 (vR l);have Bv8:=A3 (fun e (he:e∈P9 l)=>HI.out e (Ba9 he));have hR:cC wb y4.w f [.int .i64 f.bk,.int .i64 f.rd,.int .i64 f.dv,.slice da f.dk.length dc,.slice ta f.tk.length tc] p gs bo bu g bx a5 (P9 l) m 0 0 [] (P4 m) (.slice none 0 0) []:=by
   have s1:=y1.b.size;have s2:=y2.b.size;have s3:=y4.b.size;have s4:=Hbx.out;have s5:=HO.out.lt;have s6:=Hg.out;have s7:g<w.heap.size:=by have:=HO0.out.lt;exact this
   have s8:wb.heap.size≤W.heap.size:=by obtain⟨y,hy⟩:=sD.out (A7.self W);have:=y.b.size;have e:(A7.self W).w.heap.size=y.w.heap.size:=congrArg (·.heap.size) hy;have e2:(A7.self W).w=W:=rfl;rw[e2]at e;omega
   obtain⟨m1,m2,m3,m4,_⟩:=hM.lts;have hlt:∀b∈[p,gs,bo,bu],b<y2.w.heap.size:=fun b hb=>by
    simp only[List.mem_cons,List.not_mem_nil,or_false]at hb;rcases hb with rfl|rfl|rfl|rfl<;>assumption
   have iQ:∃y:A7 W,y4.w=y.w:=by
    obtain⟨y3,h3⟩:=H3.out;have:∃z:A7 y2.w,y4.w=z.w:=⟨y4,rfl⟩
    exact A7.lift y3 (by rw[←h3];exact this)
   have hX:∃y:A7 wb,y4.w=y.w:=by obtain⟨y,hy⟩:=iQ;rw[hy];exact sD.out y
   refine⟨hX,hM.to ⟨y4,rfl⟩,AT8 m,by simp[P4],⟨HO.out.to iQ,⟨by simp[B4],.inl ⟨rfl,rfl⟩⟩,fun b hb=>by simp[Value.ownBlock]at hb,Hg.out⟩,hE6,fun b hb=>⟨?_,?_,?_⟩,fun b off ea=>?_,?_,Nat.le_refl _,?_,?_,?_⟩
   ·have:=hge b (by simpa using hb);omega
   ·rintro(rfl|ho)
    ·have:=hge b (by simpa using hb);omega
    ·simp[Value.ownBlock]at ho
   ·intro off ea
    have h1:=hba _ ea;have h2:=hlt b (by simpa using hb);have h4:y2.w.heap.size≤b:=h1;omega
   ·rintro(rfl|ho)
    ·have h1:=hba _ ea
     have h4:y2.w.heap.size≤b:=h1;omega
    ·simp[Value.ownBlock]at ho
   ·rfl
   ·obtain⟨y,hy⟩:=iQ;rw[hy];exact HBF.out y
   ·intro hb;have:=hge bx (by simpa using hb);omega
   ·rintro(rfl|ho)
    ·omega
    ·simp[Value.ownBlock]at ho
  have HR:=A3 hR;clear hR hM hge hown hE6 hba hob hst1 b0 b1 b2 b3 b4;have HX:∃y:A7 wb,y4.w=y.w:=HR.out.X;obtain⟨y5,h5⟩:=HX;have HR5:=A3 (h5 ▸ HR.out);clear HR;rw[h5];clear h5;clear FL;generalize P9 l=L at *;go_loopw [23] (fun s wr=>∃(k n:Nat) (T:List F0) (c:C5) (v:Value) (out:List Ev) (y:A7 wb),k≤L.length∧s= .int .i64 k∧wr=y.w∧cC wb y.w f [.int .i64 f.bk,.int .i64 f.rd,.int .i64 f.dv,.slice da f.dk.length dc,.slice ta f.tk.length tc] p gs bo bu g bx a5 L m k n T c v out) (fun s _ =>L.length-(intOf s).toNat)
  case atStart=>exact⟨0,0,[],P4 m,_,[],y5,by omega,rfl,rfl,HR5.out⟩
  case round=>
   clear HR5;obtain⟨k,n,T,c,v,out,y,hk,rfl,rfl,hR⟩:=hrel;have HR:=A3 hR;clear hR;by_cases hlt:k<L.length
   ·obtain⟨e,he⟩:∃e,L[k]? =some e:=⟨_,A4 hlt⟩
    obtain⟨b1,off1,rfl,hb1,hc⟩:=HR.out.E k e he;have ka0:y.w.cell? ⟨b1,off1+k*9,none⟩=some (.int .i64 e.d):=hc 0 _ rfl;have ka1:y.w.cell? ⟨b1,off1+k*9+1,none⟩=some (.int .i64 e.q):=hc 1 _ rfl;have ka2:y.w.cell? ⟨b1,off1+k*9+2,none⟩=some (.int .i64 e.a):=hc 2 _ rfl;have ka3:y.w.cell? ⟨b1,off1+k*9+3,none⟩=some (.int .i64 e.t):=hc 3 _ rfl;have ka4:y.w.cell? ⟨b1,off1+k*9+4,none⟩=some (.int .i64 e.k):=hc 4 _ rfl;have ka5:y.w.cell? ⟨b1,off1+k*9+5,none⟩=some (.int .i64 e.b):=hc 5 _ rfl;have ka6:y.w.cell? ⟨b1,off1+k*9+6,none⟩=some (.int .i64 e.p):=hc 6 _ rfl;have ka7:y.w.cell? ⟨b1,off1+k*9+7,none⟩=some (.int .i64 e.r):=hc 7 _ rfl;have ka8:y.w.cell? ⟨b1,off1+k*9+8,none⟩=some (.int .i64 e.i):=hc 8 _ rfl;have hk0:(0:Int)≤(k:Int):=by omega
    have hkl:(k:Int)<(L.length:Int):=by omega
    have hkb:k≤100000:=by have:=Hln.out;omega
    have He:=A3 he;have HeI:=A3 (Bv8.out e (A0 he));clear hc hb1 he;go_upto_region 8 with fail;obtain⟨y2,e2,C9,hsz0,hlt0,HX0⟩:=L8 y [.int .i64 e.d,.int .i64 e.q,.int .i64 e.a,.int .i64 e.t,.int .i64 e.k,.int .i64 e.b,.int .i64 e.p,.int .i64 e.r,.int .i64 e.i] 63;rw[e2];obtain⟨hx0,hx1,hx2,hx3,hx4,hx5,hx6,hx7,hx8,hxf⟩:=zV HX0;(have Hgn:=A3 (show¬N8 gs bo bu T y.w.heap.size from HR.out.M.notS (Nat.le_refl _)));(replace HR:=A3 (HR.out.to C9))
    clear e2 C9;generalize y.w.heap.size=ge at *;obtain⟨E6,G9,K1,J5,O8,U5,X9,Z4,Z5,I3⟩:=eT HX0;have I9:=A3 (And.intro hsz0 hlt0);clear hlt0 hsz0 HX0;clear ka0 ka1 ka2 ka3 ka4 ka5 ka6 ka7 ka8 hx0 hx1 hx2 hx3 hx4 hx5 hx6 hx7 hx8 hxf;have HBe:=A3 (Bb2 (e:=e) I9.out.2 (E6 (A7.self _)) (G9 (A7.self _)) (K1 (A7.self _)) (J5 (A7.self _)) (O8 (A7.self _)) (U5 (A7.self _)) (X9 (A7.self _)) (Z4 (A7.self _)) (Z5 (A7.self _)) (fun o=>I3 (A7.self _) o));have HfY:=A3 (show i5 y2.w f da ta from Hf.out.to ⟨y2,rfl⟩);have CK:∀x:A7 y2.w,Calls Tryz.prog 123 #[.agg #[.int .i64 f.bk,.int .i64 f.rd,.int .i64 f.dv,.slice da f.dk.length dc,.slice ta f.tk.length tc],.agg #[.int .i64 e.d,.int .i64 e.q,.int .i64 e.a,.int .i64 e.t,.int .i64 e.k,.int .i64 e.b,.int .i64 e.p,.int .i64 e.r,.int .i64 e.i]] x.w fun o w'=>o= .returned (.int .i64 (t6 f e))∧∃y:A7 y2.w,w'=y.w:=fun x=>AU9 y2.w x f e da ta dc tc HfY.out HeI.out;have b0:∀y:A7 y2.w,y.w.cell? ⟨bx,0,none⟩=some (.int .i64 f.bk):=fun y=>(HR.out.F.since y).c 0 _ rfl;have b1:∀y:A7 y2.w,y.w.cell? ⟨bx,1,none⟩=some (.int .i64 f.rd):=fun y=>(HR.out.F.since y).c 1 _ rfl;have b2:∀y:A7 y2.w,y.w.cell? ⟨bx,2,none⟩=some (.int .i64 f.dv):=fun y=>(HR.out.F.since y).c 2 _ rfl;have b3:∀y:A7 y2.w,y.w.cell? ⟨bx,3,none⟩=some (.slice da f.dk.length dc):=fun y=>(HR.out.F.since y).c 3 _ rfl;have b4:∀y:A7 y2.w,y.w.cell? ⟨bx,4,none⟩=some (.slice ta f.tk.length tc):=fun y=>(HR.out.F.since y).c 4 _ rfl;have hlo:out.length≤100000:=by have h1:=HR.out.lo;have h2:=Hln.out;omega
    obtain⟨q0,hq0⟩:=A7.refl y2.w;rw[hq0];clear hq0;by_cases hev:t6 f e=0
    case neg=>
     have HEV:=A3 (show t6 f e=t6 f e from rfl);have Hok:=A3 (show V1 f c e=false from by rw[mZ,decide_eq_false hev];rfl);have hb:(t6 f e == 0)=false:=by simpa using hev
     have Hev:=A3 hev;clear hev;go_upto_region 15 with(go_at_call 123;(with_reducible refine(CK _).mono ?_);rintro _ _ ⟨rfl,z1,rfl⟩)
     have HRz:=HR.out.to ⟨z1,rfl⟩;have HBz:=HBe.out.to ⟨z1,rfl⟩;clear CK b0 b1 b2 b3 b4 E6 G9 K1 J5 O8 U5 X9 Z4 Z5 I3;obtain⟨x0,hx0⟩:=HRz.X;have hacc:=vW wb x0 z1.w hx0 g v out HRz.O hlo (.pointer (some ⟨p,0,none⟩)) e (t6 f e);rw[if_neg Hev.out]at hacc;unfold Ev.ag at hacc;clear hx0 x0;have x0:z1.w.cell? ⟨ge,0,none⟩=some (.int .i64 e.d):=HBz.c 0 _ rfl;have x1:z1.w.cell? ⟨ge,1,none⟩=some (.int .i64 e.q):=HBz.c 1 _ rfl;have x2:z1.w.cell? ⟨ge,2,none⟩=some (.int .i64 e.a):=HBz.c 2 _ rfl;have x3:z1.w.cell? ⟨ge,3,none⟩=some (.int .i64 e.t):=HBz.c 3 _ rfl;have x4:z1.w.cell? ⟨ge,4,none⟩=some (.int .i64 e.k):=HBz.c 4 _ rfl;have x5:z1.w.cell? ⟨ge,5,none⟩=some (.int .i64 e.b):=HBz.c 5 _ rfl;have x6:z1.w.cell? ⟨ge,6,none⟩=some (.int .i64 e.p):=HBz.c 6 _ rfl;have x7:z1.w.cell? ⟨ge,7,none⟩=some (.int .i64 e.r):=HBz.c 7 _ rfl;have x8:z1.w.cell? ⟨ge,8,none⟩=some (.int .i64 e.i):=HBz.c 8 _ rfl;go_wp2_with(go_at_call 75;(with_reducible refine hacc.mono ?_);clear hacc;rintro _ _ ⟨rfl,y5,v5,rfl,hO5,hK5,hF5⟩);have HRR:=A3 (HRz.told y5 hO5 hK5 hF5 He.out Hok.out);clear hO5 hK5 hF5;go_roundw
     case rel=>exact⟨k+1,n,T,c,v5,out,y5,by omega,by go_num,rfl,HRR.out⟩
     case measure=>simp[intOf];omega
    ·have HEV:=A3 hev
     by_cases hk:e.k=10
     ·have Hok:=A3 (show V1 f c e=false from by rw[mZ,hk];simp)
      have hb:(e.k == 10)=true:=by simpa using hk
      clear hev hk;go_upto_region 16 with(go_at_call 123;(with_reducible refine(CK _).mono ?_);rintro _ _ ⟨rfl,z1,rfl⟩;rw[HEV.out])
      have HRz:=HR.out.to ⟨z1,rfl⟩;obtain⟨y5,h5⟩:=HRz.X;have HRR:=A3 (HRz.skip He.out Hok.out);have HH5:=A3 h5;clear h5 HRz CK b0 b1 b2 b3 b4 E6 G9 K1 J5 O8 U5 X9 Z4 Z5 I3;go_wp2_with fail;go_roundw
      case rel=>exact⟨k+1,n,T,c,v,out,y5,by omega,by go_num,HH5.out,by rw[←HH5.out];exact HRR.out⟩
      case measure=>simp[intOf];omega
     ·have hb:(e.k == 10)=false:=by simpa using hk
      have CC:∀x:A7 y2.w,Calls Tryz.prog 124 #[.pointer (some ⟨p,0,none⟩),.agg #[.int .i64 e.d,.int .i64 e.q,.int .i64 e.a,.int .i64 e.t,.int .i64 e.k,.int .i64 e.b,.int .i64 e.p,.int .i64 e.r,.int .i64 e.i]] x.w fun o w'=>o= .returned (.int .i64 (I6 f c e))∧∃y:A7 y2.w,w'=y.w:=fun x=>Bb4 y2.w x f da ta dc tc p gs bo bu n T c m HR.out.M HfY.out HR.out.I HR.out.ln HM0.out oG e HEV.out hk;have Hk:=A3 hk;clear hev hk;by_cases hck:I6 f c e=0
      case neg=>
       have Hok:=A3 (show V1 f c e=false from by rw[mZ,decide_eq_false hck];simp);have hb2:(I6 f c e == 0)=false:=by simpa using hck
       have Hck:=A3 hck;clear hck;go_upto_region 15 with(first
        |(go_at_call 123;(with_reducible refine(CK _).mono ?_);rintro _ _ ⟨rfl,z1,rfl⟩;rw[HEV.out])
        |(go_at_call 124;(with_reducible refine(CC _).mono ?_);rintro _ _ ⟨rfl,z1,rfl⟩))
       have HRz:=HR.out.to ⟨z1,rfl⟩;have HBz:=HBe.out.to ⟨z1,rfl⟩;clear CK CC b0 b1 b2 b3 b4 E6 G9 K1 J5 O8 U5 X9 Z4 Z5 I3;obtain⟨x0,hx0⟩:=HRz.X;have hacc:=vW wb x0 z1.w hx0 g v out HRz.O hlo (.pointer (some ⟨p,0,none⟩)) e (I6 f c e);rw[if_neg Hck.out]at hacc;unfold Ev.ag at hacc;clear hx0 x0;have x0:z1.w.cell? ⟨ge,0,none⟩=some (.int .i64 e.d):=HBz.c 0 _ rfl;have x1:z1.w.cell? ⟨ge,1,none⟩=some (.int .i64 e.q):=HBz.c 1 _ rfl;have x2:z1.w.cell? ⟨ge,2,none⟩=some (.int .i64 e.a):=HBz.c 2 _ rfl;have x3:z1.w.cell? ⟨ge,3,none⟩=some (.int .i64 e.t):=HBz.c 3 _ rfl;have x4:z1.w.cell? ⟨ge,4,none⟩=some (.int .i64 e.k):=HBz.c 4 _ rfl;have x5:z1.w.cell? ⟨ge,5,none⟩=some (.int .i64 e.b):=HBz.c 5 _ rfl;have x6:z1.w.cell? ⟨ge,6,none⟩=some (.int .i64 e.p):=HBz.c 6 _ rfl;have x7:z1.w.cell? ⟨ge,7,none⟩=some (.int .i64 e.r):=HBz.c 7 _ rfl;have x8:z1.w.cell? ⟨ge,8,none⟩=some (.int .i64 e.i):=HBz.c 8 _ rfl;go_wp2_with(go_at_call 75;(with_reducible refine hacc.mono ?_);clear hacc;rintro _ _ ⟨rfl,y5,v5,rfl,hO5,hK5,hF5⟩);have HRR:=A3 (HRz.told y5 hO5 hK5 hF5 He.out Hok.out);clear hO5 hK5 hF5;go_roundw
       case rel=>exact⟨k+1,n,T,c,v5,out,y5,by omega,by go_num,rfl,HRR.out⟩
       case measure=>simp[intOf];omega
      ·have Hok:=A3 (show V1 f c e=true from by rw[mZ,decide_eq_true HEV.out,decide_eq_true hck,decide_eq_true Hk.out];rfl)
       have HCK:=A3 hck;clear hck;go_upto_region 13 with(first
        |(go_at_call 123;(with_reducible refine(CK _).mono ?_);rintro _ _ ⟨rfl,z1,rfl⟩;rw[HEV.out])
        |(go_at_call 124;(with_reducible refine(CC _).mono ?_);rintro _ _ ⟨rfl,z1,rfl⟩;rw[HCK.out]))
       have HRz:=HR.out.to ⟨z1,rfl⟩;have HBz:=HBe.out.to ⟨z1,rfl⟩;have hdo:=Bb5 z1.w f da ta dc tc p gs bo bu n T c m HRz.M HRz.I HRz.ln Hm1.out e Hok.out;clear CK CC b0 b1 b2 b3 b4 E6 G9 K1 J5 O8 U5 X9 Z4 Z5 I3;have x0:z1.w.cell? ⟨ge,0,none⟩=some (.int .i64 e.d):=HBz.c 0 _ rfl;have x1:z1.w.cell? ⟨ge,1,none⟩=some (.int .i64 e.q):=HBz.c 1 _ rfl;have x2:z1.w.cell? ⟨ge,2,none⟩=some (.int .i64 e.a):=HBz.c 2 _ rfl;have x3:z1.w.cell? ⟨ge,3,none⟩=some (.int .i64 e.t):=HBz.c 3 _ rfl;have x4:z1.w.cell? ⟨ge,4,none⟩=some (.int .i64 e.k):=HBz.c 4 _ rfl;have x5:z1.w.cell? ⟨ge,5,none⟩=some (.int .i64 e.b):=HBz.c 5 _ rfl;have x6:z1.w.cell? ⟨ge,6,none⟩=some (.int .i64 e.p):=HBz.c 6 _ rfl;have x7:z1.w.cell? ⟨ge,7,none⟩=some (.int .i64 e.r):=HBz.c 7 _ rfl;have x8:z1.w.cell? ⟨ge,8,none⟩=some (.int .i64 e.i):=HBz.c 8 _ rfl;go_upto_region 15 with(go_at_call 125;(with_reducible refine hdo.mono ?_);clear hdo;rintro _ w6 ⟨rfl,hk6,n6,T6,hM6,hT6⟩)
       clear x0 x1 x2 x3 x4 x5 x6 x7 x8;have hnS:¬N8 gs bo bu T ge:=fun hc=>by
        have h1:=(HRz.S ge (mY hc))
        exact Hgn.out hc
       have HB6:=HBz.keepS hk6 hnS;have HO6:o6 w6 wb.heap.size g v out:=HRz.O.keepS hk6 (fun b ho hc=>(HRz.S b (mY hc)).2.1 ho);obtain⟨x0,hx0⟩:=HRz.X;have hx6:∃y:A7 wb,w6=y.w:=by
        have hk6':=hk6;rw[hx0]at hk6';exact B7.since x0 hk6' (fun b hc=>(HRz.S b (mY hc)).1)
       obtain⟨x6',hx6'⟩:=hx6;have hacc:=vW wb x6' w6 hx6' g v out HO6 hlo (.pointer (some ⟨p,0,none⟩)) e 0;rw[if_pos rfl]at hacc;unfold Ev.ag at hacc;clear hx0 x0 hx6' x6' hnS;have x0:w6.cell? ⟨ge,0,none⟩=some (.int .i64 e.d):=HB6.c 0 _ rfl;have x1:w6.cell? ⟨ge,1,none⟩=some (.int .i64 e.q):=HB6.c 1 _ rfl;have x2:w6.cell? ⟨ge,2,none⟩=some (.int .i64 e.a):=HB6.c 2 _ rfl;have x3:w6.cell? ⟨ge,3,none⟩=some (.int .i64 e.t):=HB6.c 3 _ rfl;have x4:w6.cell? ⟨ge,4,none⟩=some (.int .i64 e.k):=HB6.c 4 _ rfl;have x5:w6.cell? ⟨ge,5,none⟩=some (.int .i64 e.b):=HB6.c 5 _ rfl;have x6:w6.cell? ⟨ge,6,none⟩=some (.int .i64 e.p):=HB6.c 6 _ rfl;have x7:w6.cell? ⟨ge,7,none⟩=some (.int .i64 e.r):=HB6.c 7 _ rfl;have x8:w6.cell? ⟨ge,8,none⟩=some (.int .i64 e.i):=HB6.c 8 _ rfl;go_wp2_with(go_at_call 75;(with_reducible refine hacc.mono ?_);clear hacc;rintro _ _ ⟨rfl,y5,v5,rfl,hO5,hK5,hF5⟩);have HRR:=A3 (HRz.done He.out Hok.out Hm1.out hk6 hM6 hT6 y5 hO5 hK5 hF5);clear hO5 hK5 hF5;go_roundw
       case rel=>exact⟨k+1,n6,T6,S6 c e,v5,out ++ [e],y5,by omega,by go_num,rfl,HRR.out⟩
       case measure=>simp[intOf];omega
   ·obtain rfl:k=L.length:=by omega
    have HRR:=A3 (HP.out (.returned (.tuple #[.pointer (some ⟨p,0,none⟩),.int .i64 0])) y (.inr ⟨H0.out,p,v,rfl,by
     have h1:=HR.out.eq;rw[List.drop_length]at h1;have h2:out=O4 f (P4 m) L:=by simpa[O4]using h1
     rw[←Hm1.out,←h2];exact HR.out.O⟩))
    go_wp2_with fail;exact HRR.out
end
section
open Go.RowKit Go.ChangeMaps
def nA (w:World) (f:G4) (L:List Ev) (o:Ending) (w':World):Prop:=
 ∃(v:Value) (y:A7 w),o= .returned (.tuple #[v,.int .i64 (K5 f)])∧w'=y.w∧((K5 f≠0∧v= .slice none 0 0)∨(K5 f=0∧y.w.ownsRow w.heap.size 63 9 v (O4 f (P4 f.bk.toNat) L).length (B4 Ev.cs (O4 f (P4 f.bk.toNat) L))))
theorem Bb7 (w:World) (x:A7 w) (f:G4) (da ta:Option Addr) (dc tc:Nat) (hf:i5 w f da ta) (a:Option Addr) (l:List Ev) (cl:Nat) (h:D0 Ev.cs 9 w a l) (hl:l.length≤100000) (hI:∀e∈l,U0 e.p):
 Calls Tryz.prog 30 #[.agg #[.int .i64 f.bk,.int .i64 f.rd,.int .i64 f.dv,.slice da f.dk.length dc,.slice ta f.tk.length tc],.slice a l.length cl] x.w (nA w f (P9 l)):=by
 have HP:=A3 (fun(v:Value) (y:A7 w) (h:(K5 f≠0∧v= .slice none 0 0)∨(K5 f=0∧y.w.ownsRow w.heap.size 63 9 v (O4 f (P4 f.bk.toNat) (P9 l)).length (B4 Ev.cs (O4 f (P4 f.bk.toNat) (P9 l)))))=>show nA w f (P9 l) (.returned (.tuple #[v,.int .i64 (K5 f)])) y.w from⟨v,y,rfl,rfl,h⟩);generalize nA w f (P9 l)=PO at *;have Hf:=A3 hf;have HE:=A3 h;clear hf h;go_enter Tryz.func30,Tryz.ntmps30;go_upto_region 2 with fail;obtain⟨W,bx,y0,hW,hbx,-,B8,Hup,Hbx,HB0,HB1⟩:=Z7 x [.int .i64 f.bk,.int .i64 f.rd,.int .i64 f.dv,.slice da f.dk.length dc,.slice ta f.tk.length tc] 24 ([Value.slice none 0 0]) 25;rw[hW,hbx];clear hW hbx;obtain⟨D9,E7,F9,G0,G8,hf0⟩:=V5 HB0;have hB1:=fun y:A7 W=>HB1.since y;clear HB0 HB1;have Hlt:=A3 (show w.heap.size≤bx+1 by have:=Hbx.out;omega);obtain⟨z0,hz0⟩:=Hup.out y0;have hrun:=Bb6 w z0 f da ta dc tc Hf.out a l cl HE.out hl hI (bx+1) Hlt.out (by rw[←hz0];exact hB1 y0);rw[←hz0]at hrun;clear hz0 z0 B8 hB1;go_wp2_with(go_at_call 74;(with_reducible refine hrun.mono ?_);clear hrun);rintro _ _ ⟨y1,rfl,⟨h0,rfl,hb⟩|⟨h0,p,v,rfl,hO⟩⟩
 ·have HR:=A3 (HP.out (.slice none 0 0) y1 (.inl ⟨h0,rfl⟩))
  have k0:y1.w.cell? ⟨bx+1,0,none⟩=some (.slice none 0 0):=hb.c 0 _ rfl;clear h0 hb;go_wp2_with fail;exact HR.out
 ·obtain⟨a1,n1,c1,rfl⟩:=I4 hO.r
  have HR:=A3 (HP.out (.slice a1 n1 c1) y1 (.inr ⟨h0,hO.r⟩));rw[h0]at HR;have k0:y1.w.cell? ⟨bx+1,0,none⟩=some (.slice a1 n1 c1):=hO.b.c 0 _ rfl;clear h0 hO;go_wp2_with fail;exact HR.out
end
end Go.Proofs.YtmmlmhnjjfnpnaaGreat
