/- Texts that belong together. -/
import Derived.Test.YtmmlmhnjjfnpnaaGreatTpMt
import Derived.Test.YtmmlmhnjjfnpnaaGreatTpMx
set_option linter.all false
namespace Go.Proofs.YtmmlmhnjjfnpnaaGreat
open Go.RowKit Go.ChangeMaps
structure OutM (w:World) (B g:Nat) (v:Value) (out:List Ev):Prop where
 b:BoxIs w g [v]
 r:w.ownsRow B 63 9 v out.length (flat Ev.cs out)
 ne:∀b,v.ownBlock=some b→b≠g
 ge:B≤g
theorem OutM.to {w W:World} {B g:Nat} {v:Value} {out:List Ev} (h:OutM w B g v out) (hW:∃z:Since w,W=z.w):OutM W B g v out:=⟨h.b.to hW,own_to h.r hW,h.ne,h.ge⟩
def OutS (g:Nat) (v:Value) (b:Nat):Prop:=b=g∨v.ownBlock=some b
theorem OutM.keepS {S:Nat→Prop} {w w':World} {B g:Nat} {v:Value} {out:List Ev} (h:OutM w B g v out) (hk:KpS S w w') (hn:∀b,OutS g v b→¬S b):OutM w' B g v out:=by
 refine⟨h.b.keepS hk (hn g (.inl rfl)),?_,h.ne,h.ge⟩;obtain⟨hl,h1|⟨g',cap,cur,e,hg,hh,r⟩⟩:=h.r
 ·exact⟨hl,.inl h1⟩
 ·refine⟨hl,.inr ⟨g',cap,cur,e,hg,?_,r⟩⟩
  rw[hk.block g' (Array.getElem?_eq_some_iff.1 hh).1 (hn g' (.inr (by rw[e];rfl)))];exact hh
def AccPost (w:World) (W:World) (g:Nat) (v:Value) (out:List Ev) (o:Ending) (w':World):Prop:=
 o= .returned (.tuple #[])∧∃(y:Since w) (v':Value),w'=y.w∧OutM y.w w.heap.size g v' out∧KpS (OutS g v) W y.w∧(∀b,v'.ownBlock=some b→v.ownBlock=some b∨W.heap.size≤b)
set_option maxRecDepth 100000 in
set_option maxHeartbeats 4000000 in
theorem acc1_core (w0:World) (x0:Since w0) (w:World) (hw:w=x0.w) (g:Nat) (v:Value) (out:List Ev) (h:OutM w w0.heap.size g v out) (hl:out.length≤100000) (pp:Value) (e:Ev) (err:Int):
 Calls Tryz.prog 75 #[pp,e.ag,.int .i64 err,.pointer (some ⟨g,0,none⟩)] w (AccPost w0 w g v (if err=0 then out ++ [e]else out)):=by
 obtain⟨x,hx⟩:=Since.refl w;have HX0:=Lib.hid hw;by_cases he:err=0
 ·subst he
  rw[if_pos rfl];have H:=Lib.hid h;obtain⟨a,n,c,rfl⟩:=own_slice h.r;have HP:=Lib.hid (fun(y:Since w0) (v':Value) (h1:OutM y.w w0.heap.size g v' (out ++ [e])) (h2:KpS (OutS g (.slice a n c)) w y.w) (h3:∀b,v'.ownBlock=some b→(Value.slice a n c).ownBlock=some b∨w.heap.size≤b)=>show AccPost w0 w g (.slice a n c) (out ++ [e]) (.returned (.tuple #[])) y.w from⟨rfl,y,v',rfl,h1,h2,h3⟩);generalize AccPost w0 w g (.slice a n c) (out ++ [e])=PO at *;unfold Ev.ag;rw[hx];clear h hw hx;go_enter Tryz.func75,Tryz.ntmps75;go_upto_region 1 with fail;obtain⟨W,bx,y0,hW,hbx,-,hWup,Hup,Hbx,HB0⟩:=heads1 x [.int .i64 e.d,.int .i64 e.q,.int .i64 e.a,.int .i64 e.t,.int .i64 e.k,.int .i64 e.b,.int .i64 e.p,.int .i64 e.r,.int .i64 e.i] 63;rw[hW,hbx];clear hW hbx;obtain⟨hb0_0,hb0_1,hb0_2,hb0_3,hb0_4,hb0_5,hb0_6,hb0_7,hb0_8,hf0⟩:=bx9 HB0;clear HB0;replace H:=Lib.hid (H.out.to hWup);have HWX:=Lib.hid (show∃z:Since w0,W=z.w from by obtain⟨z,rfl⟩:=hWup;have:=HX0.out;subst this;exact x0.trans z);have HK:=Lib.hid (show KpS (OutS g (.slice a n c)) w W from by obtain⟨z,rfl⟩:=hWup;exact KpS.of z);clear hWup;have k0:∀y:Since W,y.w.cell? ⟨g,0,none⟩=some (.slice a n c):=fun y=>(H.out.b.since y).c 0 _ rfl;go_upto_region 2 with fail;go_wp2_with(at_builtin;(refine wpList_appendL (w0:=w0) (k:=9) ?hw rfl _ _ 25 rfl w0.heap.size (Nat.le_refl _) ?hb 63 (.agg #[.int .i64 0,.int .i64 0,.int .i64 0,.int .i64 0,.int .i64 0,.int .i64 0,.int .i64 0,.int .i64 0,.int .i64 0]) 72 sEvt (.slice a n c) out.length (flat Ev.cs out) rfl ?hown ⟨y0.w.heap.size,0,none⟩ 1 1 e.cs rfl ?hn ?hc ?h1 (by decide) ?h63 ?hbytes ?_;rotate_right 1;intro v2 q2 hown2 hg2 hl2;refine Hid.out ?_))
  case hw=>obtain⟨z,ez⟩:=HWX.out;obtain⟨z2,e2⟩:=IsSince.alloc (IsSince.of y0) (.cells #[.int .i64 e.d,.int .i64 e.q,.int .i64 e.a,.int .i64 e.t,.int .i64 e.k,.int .i64 e.b,.int .i64 e.p,.int .i64 e.r,.int .i64 e.i] 63);rw[e2];subst ez;exact z.trans z2
  case hb=>obtain⟨z,ez⟩:=HWX.out;have h1:=z.b.size;have h2:=y0.b.size;have h3:W.heap.size=z.w.heap.size:=congrArg (·.heap.size) ez;simp;omega
  case hown=>exact own_to H.out.r (IsSince.alloc (IsSince.of y0) _)
  case hn=>rfl
  case hc=>exact cell_new_at y0.w e.cs _
  case h1=>exact cs_one e
  case h63=>unfold maxLen;omega
  case hbytes=>omega
  obtain⟨a2,n2,c2,rfl⟩:=own_slice hown2;have hY:IsSince W (y0.w.alloc (.cells #[.int .i64 e.d,.int .i64 e.q,.int .i64 e.a,.int .i64 e.t,.int .i64 e.k,.int .i64 e.b,.int .i64 e.p,.int .i64 e.r,.int .i64 e.i] 63)):=IsSince.alloc (IsSince.of y0) _;generalize y0.w.alloc (.cells #[.int .i64 e.d,.int .i64 e.q,.int .i64 e.a,.int .i64 e.t,.int .i64 e.k,.int .i64 e.b,.int .i64 e.p,.int .i64 e.r,.int .i64 e.i] 63)=Y at *;have hgn:some g≠(Value.slice a n c).ownBlock:=fun e=>H.out.ne g e.symm rfl;have hb2:BoxIs q2.w g [.slice a n c]:=(H.out.b.to hY).grown hg2 hgn;have k1:q2.w.cell? ⟨g,0,none⟩=some (.slice a n c):=hb2.c 0 _ rfl;have kf:∀o,q2.w.frozen? ⟨g,o,none⟩=false:=fun o=>hb2.f o;have hne2:∀b,(Value.slice a2 n2 c2).ownBlock=some b→b≠g:=fun b hb=>by
   rcases hl2 b hb with h|h
   ·exact H.out.ne b h
   ·have:=(H.out.b.to hY).lt;omega
  obtain⟨y3,e3⟩:=q2.set ⟨g,0,none⟩ H.out.ge (.slice a2 n2 c2);have hO:OutM y3.w w0.heap.size g (.slice a2 n2 c2) (out ++ [e]):=by
   rw[←e3];refine⟨hb2.set1,?_,hne2,H.out.ge⟩;have:=own_setB hown2 ⟨g,0,none⟩ (.slice a2 n2 c2) hne2;rw[←flat_one Ev.cs e,←flat_append]at this;rw[List.length_append];exact this
  have hK:KpS (OutS g (.slice a n c)) w y3.w:=by
   rw[←e3];refine(HK.out.step (KpS.to (KpS.refl _ _) hY)).step (KpS.step ⟨hg2.os,hg2.tape,hg2.output,hg2.size,fun j hj hn=>hg2.block j hj (fun e=>hn (.inr e.symm))⟩ (KpS.set _ _ _ (.inl rfl)))
  have hfr:∀b,(Value.slice a2 n2 c2).ownBlock=some b→(Value.slice a n c).ownBlock=some b∨w.heap.size≤b:=fun b hb=>by
   rcases hl2 b hb with h|h
   ·exact .inl h
   ·right;have h1:=hY.size;have h2:=Hbx.out;omega
  have HR:=Lib.hid (HP.out y3 (.slice a2 n2 c2) hO hK hfr);rw[←e3]at HR;clear hO hK hfr hne2 hb2 hgn hY hown2 hg2 hl2 e3;refine Lib.hid ?_;go_wp2_with fail;refine body_end (v:=.tuple #[]) (by simp[results,Tryz.results75,go_sem]) rfl ?_;exact HR.out
 ·rw[if_neg he]
  have HR:=Lib.hid (show∀z:Since w,AccPost w0 w g v out (.returned (.tuple #[])) z.w from fun z=>by
   subst hw;obtain⟨y,hy⟩:=x0.trans z;exact⟨rfl,y,v,hy,hy ▸ h.to ⟨z,rfl⟩,hy ▸ KpS.of z,fun b hb=>.inl hb⟩)
  generalize AccPost w0 w g v out=PO at *;have hne:(err == 0)=false:=by simpa using he
  unfold Ev.ag;rw[hx];clear h hw hx he;go_enter Tryz.func75,Tryz.ntmps75;go_upto_region 1 with fail;obtain⟨W,bx,y0,hW,hbx,-,hWup,Hup,Hbx,HB0⟩:=heads1 x [.int .i64 e.d,.int .i64 e.q,.int .i64 e.a,.int .i64 e.t,.int .i64 e.k,.int .i64 e.b,.int .i64 e.p,.int .i64 e.r,.int .i64 e.i] 63;rw[hW,hbx];clear hW hbx;obtain⟨hb0_0,hb0_1,hb0_2,hb0_3,hb0_4,hb0_5,hb0_6,hb0_7,hb0_8,hf0⟩:=bx9 HB0;clear HB0;go_wp2_with fail;refine body_end (v:=.tuple #[]) (by simp[results,Tryz.results75,go_sem]) rfl ?_;obtain⟨z,hz⟩:=Hup.out y0;rw[hz];exact HR.out z
end Go.Proofs.YtmmlmhnjjfnpnaaGreat
namespace Go.Proofs.YtmmlmhnjjfnpnaaGreat
open Go.RowKit Go.ChangeMaps
theorem doE_len (c:Cus) (e:Ev):(doE c e).sp.length=c.sp.length:=by
 have hp:∀(c:Cus) (b:Int) (x:Spt),(c.put b x).sp.length=c.sp.length:=fun c b x=>by simp[Cus.put]
 have hl:∀(c:Cus) (b:Int) (x:Spt),(c.leave b x).sp.length=c.sp.length:=fun c b x=>by
  unfold Cus.leave;dsimp only;split<;>simp[Cus.put]
 have hs:∀(c:Cus) (i:Int) (g:Trp→Trp),(c.setT i g).sp.length=c.sp.length:=fun _ _ _ =>rfl;unfold doE;split
 ·exact hl _ _ _
 ·split
  ·exact hl _ _ _
  ·split
   ·exact hp _ _ _
   ·split
    ·split
     ·rfl
     ·rw[hs,hp,hp]
    ·split
     ·rw[hs,hp]
     ·split
      ·exact hl _ _ _
      ·split
       ·exact hl _ _ _
       ·split
        ·exact hl _ _ _
        ·rfl
theorem kept_mem {l:List Ev} {n:Nat} (hn:n≤l.length) {e:Ev} (h:e∈kept l n):e∈l:=by
 unfold kept at h;obtain⟨k,hk,rfl⟩:=List.mem_map.1 h;have h1:=List.mem_range.1 (List.mem_filter.1 hk).1;rw[List.getD_eq_getElem?_getD,List.getElem?_eq_getElem (by omega)];exact List.getElem_mem _
theorem setL_mem {l:List Ev} {e:Ev} (h:e∈setL l):e∈l:=by
 unfold setL at h;have h1:e∈kept (sortN l) l.length:=(sortE_perm _).mem_iff.1 h;exact(sortN_perm l).mem_iff.1 (kept_mem (by rw[sortN_length];exact Nat.le_refl _) h1)
theorem accL_yes {f:Flt} {c:Cus} {e:Ev} {l:List Ev} (h:okB f c e=true):accL f c (e :: l)=e :: accL f (doE c e) l:=by
 show(if okB f c e then _ else _)= _;rw[if_pos h]
theorem accL_no {f:Flt} {c:Cus} {e:Ev} {l:List Ev} (h:okB f c e=false):accL f c (e :: l)=accL f c l:=by
 show(if okB f c e then _ else _)= _;rw[if_neg (by rw[h];decide)]
structure RunS (w W:World) (f:Flt) (fc:List Value) (p gs bo bu g bx:Nat) (aL:Option Addr) (L:List Ev) (m k n:Nat) (T:List TpE) (c:Cus) (v:Value) (out:List Ev):Prop where
 X:∃y:Since w,W=y.w
 M:CusM W fc p gs bo bu n T c
 I:CI m c
 ln:c.sp.length=m
 O:OutM W w.heap.size g v out
 E:Els Ev.cs 9 W aL L
 S:∀b∈p :: gs :: bo :: bu :: T.map (·.g),w.heap.size≤b∧¬OutS g v b∧(∀off,aL≠some ⟨b,off,none⟩)
 A:∀b off,aL=some ⟨b,off,none⟩→¬OutS g v b
 eq:out ++ accL f c (L.drop k)=accL f (cus0 m) L
 lo:out.length≤k
 F:BoxIs W bx fc
 FSx:bx∉p :: gs :: bo :: bu :: T.map (·.g)
 FO:¬OutS g v bx
section
variable {w W:World} {f:Flt} {fc:List Value} {p gs bo bu g bx:Nat} {aL:Option Addr} {L:List Ev} {m k n:Nat} {T:List TpE} {c:Cus} {v:Value} {out:List Ev}
theorem RunS.to {W':World} (h:RunS w W f fc p gs bo bu g bx aL L m k n T c v out) (hW:∃z:Since W,W'=z.w):RunS w W' f fc p gs bo bu g bx aL L m k n T c v out:=by
 obtain⟨y,rfl⟩:=h.X;have hW2:∃z:Since w,W'=z.w:=by obtain⟨z,rfl⟩:=hW;exact y.trans z
 exact⟨hW2,h.M.to hW,h.I,h.ln,h.O.to hW,h.E.to hW,h.S,h.A,h.eq,h.lo,h.F.to hW,h.FSx,h.FO⟩
theorem RunS.skip {e:Ev} (h:RunS w W f fc p gs bo bu g bx aL L m k n T c v out) (he:L[k]? =some e) (ho:okB f c e=false):RunS w W f fc p gs bo bu g bx aL L m (k+1) n T c v out:=by
 refine⟨h.X,h.M,h.I,h.ln,h.O,h.E,h.S,h.A,?_,Nat.le_succ_of_le h.lo,h.F,h.FSx,h.FO⟩;have hk:k<L.length:=(List.getElem?_eq_some_iff.1 he).1;have e1:L[k]=e:=(List.getElem?_eq_some_iff.1 he).2;have:=h.eq;rwa[List.drop_eq_getElem_cons hk,e1,accL_no ho]at this
theorem OutM.ltS {W:World} {B:Nat} (h:OutM W B g v out) {b:Nat} (hb:OutS g v b):b<W.heap.size:=by
 rcases hb with rfl|hb
 ·exact h.b.lt
 ·exact own_ltB h.r b hb
theorem cusS_mem {b:Nat} (h:CusS gs bo bu T b):b∈p :: gs :: bo :: bu :: T.map (·.g):=List.mem_cons_of_mem _ h
theorem RunS.told {e:Ev} (h:RunS w W f fc p gs bo bu g bx aL L m k n T c v out) (y:Since w) {v':Value} (hO:OutM y.w w.heap.size g v' out) (hk:KpS (OutS g v) W y.w) (hf:∀b,v'.ownBlock=some b→v.ownBlock=some b∨W.heap.size≤b) (he:L[k]? =some e) (hok:okB f c e=false):RunS w y.w f fc p gs bo bu g bx aL L m (k+1) n T c v' out:=by
 have h':=h.skip he hok;obtain⟨h1,h2,h3,h4,h5⟩:=h.M.lts;have hnew:∀b,b<W.heap.size→¬OutS g v b→¬OutS g v' b:=fun b hb hn ho=>by
  rcases ho with rfl|ho
  ·exact hn (.inl rfl)
  ·rcases hf b ho with h|h
   ·exact hn (.inr h)
   ·omega
 have hlt:∀b∈p :: gs :: bo :: bu :: T.map (·.g),b<W.heap.size:=fun b hb=>by
  simp only[List.mem_cons]at hb;rcases hb with rfl|rfl|rfl|rfl|hb
  ·exact h1
  ·exact h2
  ·exact h3
  ·exact h4
  ·exact h5 b hb
 refine⟨⟨y,rfl⟩,h.M.keep hk (fun b hb=>(h.S b hb).2.1),h.I,h.ln,hO,h.E.keepS hk (fun b off e=>h.A b off e),fun b hb=>⟨(h.S b hb).1,hnew b (hlt b hb) (h.S b hb).2.1,(h.S b hb).2.2⟩,fun b off ea=>?_,h'.eq,h'.lo,h.F.keepS hk h.FO,h.FSx,hnew bx h.F.lt h.FO⟩;obtain⟨b',off',e',hb',_⟩:=h.E k e he;rw[ea]at e';obtain⟨rfl,rfl⟩:b=b'∧off=off':=by simpa using e'
 exact hnew b hb' (h.A b off ea)
theorem RunS.done {e:Ev} {W1:World} {n':Nat} {T':List TpE} (h:RunS w W f fc p gs bo bu g bx aL L m k n T c v out) (he:L[k]? =some e) (hok:okB f c e=true) (hm:m=f.bk.toNat)
 (hk1:KpS (CusS gs bo bu T) W W1) (hM:CusM W1 fc p gs bo bu n' T' (doE c e)) (hT:∀b∈T'.map (·.g),b∈T.map (·.g)∨W.heap.size≤b)
 (y:Since w) {v':Value} (hO:OutM y.w w.heap.size g v' (out ++ [e])) (hk2:KpS (OutS g v) W1 y.w) (hf:∀b,v'.ownBlock=some b→v.ownBlock=some b∨W1.heap.size≤b):RunS w y.w f fc p gs bo bu g bx aL L m (k+1) n' T' (doE c e) v' (out ++ [e]):=by
 have hkl:k<L.length:=(List.getElem?_eq_some_iff.1 he).1;have e1:L[k]=e:=(List.getElem?_eq_some_iff.1 he).2;obtain⟨yW,hyW⟩:=h.X;have hwW:w.heap.size≤W.heap.size:=by rw[hyW];exact yW.b.size
 have hS1:∀b∈p :: gs :: bo :: bu :: T'.map (·.g),b<W1.heap.size∧w.heap.size≤b∧¬OutS g v b∧(∀off,aL≠some ⟨b,off,none⟩):=fun b hb=>by
  obtain⟨h1,h2,h3,h4,h5⟩:=hM.lts;simp only[List.mem_cons]at hb;rcases hb with rfl|rfl|rfl|rfl|hb
  ·exact⟨h1,h.S _ (by simp)⟩
  ·exact⟨h2,h.S _ (by simp)⟩
  ·exact⟨h3,h.S _ (by simp)⟩
  ·exact⟨h4,h.S _ (by simp)⟩
  ·refine⟨h5 b hb,?_⟩
   rcases hT b hb with ht|ht
   ·exact h.S b (by simp only[List.mem_cons];exact .inr (.inr (.inr (.inr ht))))
   ·refine⟨by omega,fun ho=>?_,fun off ea=>?_⟩
    ·have:=h.O.ltS ho;omega
    ·obtain⟨b',off',e',hb',_⟩:=h.E k e he
     rw[ea]at e';obtain⟨rfl,rfl⟩:b=b'∧off=off':=by simpa using e'
     omega
 have hnew:∀b,b<W1.heap.size→¬OutS g v b→¬OutS g v' b:=fun b hb hn ho=>by
  rcases ho with rfl|ho
  ·exact hn (.inl rfl)
  ·rcases hf b ho with h|h
   ·exact hn (.inr h)
   ·omega
 have hF1:BoxIs W1 bx fc:=h.F.keepS hk1 (fun hc=>h.FSx (cusS_mem hc));have hFS:bx∉p :: gs :: bo :: bu :: T'.map (·.g):=fun hb=>by
  have h0:=h.FSx;simp only[List.mem_cons,not_or]at h0 hb;rcases hb with hb|hb|hb|hb|hb
  ·exact h0.1 hb
  ·exact h0.2.1 hb
  ·exact h0.2.2.1 hb
  ·exact h0.2.2.2.1 hb
  ·rcases hT bx hb with ht|ht
   ·exact h0.2.2.2.2 ht
   ·have:=h.F.lt;omega
 have hE1:Els Ev.cs 9 W1 aL L:=h.E.keepS hk1 (fun b off ea hc=>(h.S b (cusS_mem hc)).2.2 off ea);refine⟨⟨y,rfl⟩,hM.keep hk2 (fun b hb=>(hS1 b hb).2.2.1),h.I.step hm hok,by rw[doE_len];exact h.ln,hO,hE1.keepS hk2 (fun b off e=>h.A b off e),fun b hb=>⟨(hS1 b hb).2.1,hnew b (hS1 b hb).1 (hS1 b hb).2.2.1,(hS1 b hb).2.2.2⟩,fun b off ea=>?_,?_,?_,hF1.keepS hk2 h.FO,hFS,hnew bx hF1.lt h.FO⟩
 ·obtain⟨b',off',e',hb',_⟩:=hE1 k e he
  rw[ea]at e';obtain⟨rfl,rfl⟩:b=b'∧off=off':=by simpa using e'
  exact hnew b hb' (h.A b off ea)
 ·have:=h.eq
  rw[List.drop_eq_getElem_cons hkl,e1,accL_yes hok]at this;rw[List.append_assoc];exact this
 ·have:=h.lo
  rw[List.length_append];simp;omega
end
end Go.Proofs.YtmmlmhnjjfnpnaaGreat
namespace Go.Proofs.YtmmlmhnjjfnpnaaGreat
open Go.RowKit Go.ChangeMaps
theorem ev_box {w:World} {g:Nat} {e:Ev} (lt:g<w.heap.size) (h0:w.cell? ⟨g,0,none⟩=some (.int .i64 e.d)) (h1:w.cell? ⟨g,1,none⟩=some (.int .i64 e.q)) (h2:w.cell? ⟨g,2,none⟩=some (.int .i64 e.a)) (h3:w.cell? ⟨g,3,none⟩=some (.int .i64 e.t)) (h4:w.cell? ⟨g,4,none⟩=some (.int .i64 e.k)) (h5:w.cell? ⟨g,5,none⟩=some (.int .i64 e.b)) (h6:w.cell? ⟨g,6,none⟩=some (.int .i64 e.p)) (h7:w.cell? ⟨g,7,none⟩=some (.int .i64 e.r)) (h8:w.cell? ⟨g,8,none⟩=some (.int .i64 e.i)) (hf:∀o,w.frozen? ⟨g,o,none⟩=false):BoxIs w g e.cs:=by
 refine⟨lt,fun j v hv=>?_,hf⟩;match j,hv with
 |0,hv=>cases hv;exact h0
 |1,hv=>cases hv;exact h1
 |2,hv=>cases hv;exact h2
 |3,hv=>cases hv;exact h3
 |4,hv=>cases hv;exact h4
 |5,hv=>cases hv;exact h5
 |6,hv=>cases hv;exact h6
 |7,hv=>cases hv;exact h7
 |8,hv=>cases hv;exact h8
 |j+9,hv=>simp[Ev.cs]at hv
theorem okB_eq (f:Flt) (c:Cus) (e:Ev):okB f c e=(decide (evcE f e=0) && decide (e.k≠10) && decide (chkE' f c e=0)):=rfl
theorem fn_nil (w:World) (v:Value):(binOp BinOp.neq 175 (Value.func (Fn.func 75) #[] #[v]) Value.nilFunc).run Tryz.prog w= .ok (.bool true) w:=by kernel_rfl
theorem check_e_calls (w:World) (x:Since w) (f:Flt) (da ta:Option Addr) (dc tc p gs bo bu n:Nat) (T:List TpE) (c:Cus) (m:Nat) (h:CusM w [.int .i64 f.bk,.int .i64 f.rd,.int .i64 f.dv,.slice da f.dk.length dc,.slice ta f.tk.length tc] p gs bo bu n T c) (hf:FltAt w f da ta) (hI:CI m c) (hln:c.sp.length=m) (hm:f.bk=(m:Int)) (hm128:m≤128) (e:Ev) (hev:evcE f e=0) (h10:e.k≠10):
 Calls Tryz.prog 124 #[.pointer (some ⟨p,0,none⟩),.agg #[.int .i64 e.d,.int .i64 e.q,.int .i64 e.a,.int .i64 e.t,.int .i64 e.k,.int .i64 e.b,.int .i64 e.p,.int .i64 e.r,.int .i64 e.i]] x.w fun o w'=>o= .returned (.int .i64 (chkE' f c e))∧∃y:Since w,w'=y.w:=by
 obtain⟨⟨h1,h2⟩,_,⟨h3,h4⟩,h5,_,_⟩:=evc_facts hev;obtain⟨d,q,a,t,k,b,pl,r,i⟩:=e;dsimp only at h1 h2 h3 h4 h10⊢;obtain⟨b,rfl⟩:∃n:Nat,b=(n:Int):=⟨b.toNat,by omega⟩
 refine check_c_calls w x f da ta dc tc p gs bo bu n T c h hf hI.keys (by omega) d q a t k b pl r i (by omega) ⟨h3,by omega⟩ (fun h7=>?_);unfold plcB at h5;dsimp only at h5;rw[if_neg (by omega),if_neg (by omega),if_pos h7]at h5;unfold wthB at h5;simp only[Bool.and_eq_true,decide_eq_true_eq]at h5;omega
theorem do_e_calls (w:World) (f:Flt) (da ta:Option Addr) (dc tc p gs bo bu n:Nat) (T:List TpE) (c:Cus) (m:Nat) (h:CusM w [.int .i64 f.bk,.int .i64 f.rd,.int .i64 f.dv,.slice da f.dk.length dc,.slice ta f.tk.length tc] p gs bo bu n T c) (hI:CI m c) (hln:c.sp.length=m) (hm:m=f.bk.toNat) (e:Ev) (hok:okB f c e=true):
 Calls Tryz.prog 125 #[.pointer (some ⟨p,0,none⟩),.agg #[.int .i64 e.d,.int .i64 e.q,.int .i64 e.a,.int .i64 e.t,.int .i64 e.k,.int .i64 e.b,.int .i64 e.p,.int .i64 e.r,.int .i64 e.i]] w (DoPost w [.int .i64 f.bk,.int .i64 f.rd,.int .i64 f.dv,.slice da f.dk.length dc,.slice ta f.tk.length tc] p gs bo bu T (doE c e)):=by
 obtain⟨b,hF⟩:=ok_facts hok;have ho:=hok;rw[okB_eq]at ho;simp only[Bool.and_eq_true,decide_eq_true_eq]at ho;obtain⟨⟨hev,h10⟩,_⟩:=ho;obtain⟨_,_,⟨h3,h4⟩,_,_,_⟩:=evc_facts hev;have f1:=hF.hb;have f2:=hF.hbn;have f3:=hF.hs;have f4:=hF.hc;have f5:=hF.hp;obtain⟨d,q,a,t,k,b',pl,r,i⟩:=e;dsimp only at f1 f2 f3 f4 f5 h3 h4 h10⊢;subst f1;exact do_calls w f da ta dc tc p gs bo bu n T c h (by rw[hln];exact hI) d q a t k b pl r i (by omega) ⟨h3,by omega⟩ (fun h=>(f3 h).2) (fun h=>(f4 h).2) f5
def RunPost (w:World) (f:Flt) (g:Nat) (L:List Ev) (o:Ending) (w':World):Prop:=
 ∃y:Since w,w'=y.w∧((fltE f≠0∧o= .returned (.tuple #[.pointer none,.int .i64 (fltE f)])∧BoxIs y.w g [.slice none 0 0])∨(fltE f=0∧∃(p:Nat) (v:Value),o= .returned (.tuple #[.pointer (some ⟨p,0,none⟩),.int .i64 0])∧OutM y.w w.heap.size g v (accL f (cus0 f.bk.toNat) L)))
set_option maxRecDepth 100000 in
set_option maxHeartbeats 16000000 in
theorem run_calls (wb:World) (xb:Since wb) (f:Flt) (da ta:Option Addr) (dc tc:Nat) (hf:FltAt wb f da ta) (a:Option Addr) (l:List Ev) (cl:Nat) (h:Els Ev.cs 9 wb a l) (hl:l.length≤100000) (hI:∀e∈l,I64 e.p) (g:Nat) (hg:wb.heap.size≤g) (hO:BoxIs xb.w g [.slice none 0 0]):
 Calls Tryz.prog 74 #[.agg #[.int .i64 f.bk,.int .i64 f.rd,.int .i64 f.dv,.slice da f.dk.length dc,.slice ta f.tk.length tc],.slice a l.length cl,.func (.func 75) #[] #[.pointer (some ⟨g,0,none⟩)]] xb.w (RunPost wb f g (setL l)):=by
 have HP:=Lib.hid (fun(o:Ending) (y:Since wb) (h:(fltE f≠0∧o= .returned (.tuple #[.pointer none,.int .i64 (fltE f)])∧BoxIs y.w g [.slice none 0 0])∨(fltE f=0∧∃(p:Nat) (v:Value),o= .returned (.tuple #[.pointer (some ⟨p,0,none⟩),.int .i64 0])∧OutM y.w wb.heap.size g v (accL f (cus0 f.bk.toNat) (setL l))))=>show RunPost wb f g (setL l) o y.w from⟨y,rfl,h⟩);generalize RunPost wb f g (setL l)=PO at *;have hfn:=fn_nil;have Hf:=Lib.hid hf;have HE:=Lib.hid (Since.els h xb);have HI:=Lib.hid hI;have Hg:=Lib.hid hg;have HO:=Lib.hid hO;obtain⟨w,hw⟩:∃w,xb.w=w:=⟨_,rfl⟩
 have HO0:=Lib.hid (show BoxIs w g [.slice none 0 0]from hw ▸ hO);have Hxw:=Lib.hid hw;rw[hw]at HE HO⊢;obtain⟨x,hx⟩:=Since.refl w;rw[hx];clear hf h hI hg hO hw hx;go_enter Tryz.func74,Tryz.ntmps74;go_upto_region 1 with fail;obtain⟨W,bx,y0,hW,hbx,-,hWup,Hup,Hbx,HB0⟩:=heads1 x ([.int .i64 f.bk,.int .i64 f.rd,.int .i64 f.dv,.slice da f.dk.length dc,.slice ta f.tk.length tc]) 24;rw[hW,hbx];clear hW hbx;have hB0:=fun y:Since W=>HB0.since y;clear HB0;have Hsub:=Lib.hid (show∀z:Since W,∃y:Since wb,z.w=y.w from fun z=>by
  obtain⟨y,hy⟩:=Hup.out z;have h1:=Hxw.out;subst h1;obtain⟨y2,h2⟩:=xb.trans y;exact⟨y2,hy.trans h2⟩)
 replace HE:=Lib.hid (HE.out.to hWup);replace HO:=Lib.hid (HO.out.to hWup);have HBF:=Lib.hid hB0;have HfW:=Lib.hid (show FltAt W f da ta from Hf.out.to (by obtain⟨y,hy⟩:=Hsub.out (Since.self W);exact⟨y,hy⟩));have FL:∀x:Since W,Calls Tryz.prog 95 #[.agg #[.int .i64 f.bk,.int .i64 f.rd,.int .i64 f.dv,.slice da f.dk.length dc,.slice ta f.tk.length tc]] x.w fun o w'=>o= .returned (.int .i64 (fltE f))∧∃y:Since W,w'=y.w:=fun x=>fleet_calls W x f da ta dc tc HfW.out;have b0:∀y:Since W,y.w.cell? ⟨bx,0,none⟩=some (.int .i64 f.bk):=fun y=>(HBF.out y).c 0 _ rfl;have b1:∀y:Since W,y.w.cell? ⟨bx,1,none⟩=some (.int .i64 f.rd):=fun y=>(HBF.out y).c 1 _ rfl;have b2:∀y:Since W,y.w.cell? ⟨bx,2,none⟩=some (.int .i64 f.dv):=fun y=>(HBF.out y).c 2 _ rfl;have b3:∀y:Since W,y.w.cell? ⟨bx,3,none⟩=some (.slice da f.dk.length dc):=fun y=>(HBF.out y).c 3 _ rfl;have b4:∀y:Since W,y.w.cell? ⟨bx,4,none⟩=some (.slice ta f.tk.length tc):=fun y=>(HBF.out y).c 4 _ rfl;clear hB0 hWup;by_cases h0:fltE f=0
 case neg=>
  have H0:=Lib.hid h0;have hbn:(fltE f != 0)=true:=by simpa using h0
  clear h0;go_wp2_with(go_at_call 95;(with_reducible refine(FL _).mono ?_);rintro _ _ ⟨rfl,y1,rfl⟩);obtain⟨z,hz⟩:=Hsub.out y1;have HR:=Lib.hid (HP.out (.returned (.tuple #[.pointer none,.int .i64 (fltE f)])) z (.inl ⟨H0.out,rfl,hz ▸ HO.out.to ⟨y1,rfl⟩⟩));rw[←hz]at HR;exact HR.out
 ·have H0:=Lib.hid h0
  obtain⟨hbk,_,_⟩:=flt_ok h0;obtain⟨m,hm⟩:∃m:Nat,f.bk=(m:Int):=⟨f.bk.toNat,by omega⟩
  have hm128:m≤128:=by omega
  have HM0:=Lib.hid hm;have Hm1:=Lib.hid (show m=f.bk.toNat by omega);clear h0 hbk hm;go_upto_region 4 with(go_at_call 95;(with_reducible refine(FL _).mono ?_);rintro _ _ ⟨rfl,y1,rfl⟩;rw[H0.out])
  have hbg:=begin_calls y1.w (Since.self y1.w) f da ta dc tc m HM0.out hm128;rw[show(Since.self y1.w).w=y1.w from rfl]at hbg;have hst1:IsSince W y1.w:=⟨y1,rfl⟩
  go_upto_region 5 with(go_at_call 121;(with_reducible refine hbg.mono ?_);clear hbg;rintro _ _ ⟨p,gs,bo,bu,y2,rfl,rfl,hM,hge⟩)
  have H3:=Lib.hid (y1.trans y2);have hset:=eset_calls y2.w (Since.self y2.w) a l cl (HE.out.to H3.out) hl;rw[show(Since.self y2.w).w=y2.w from rfl]at hset;go_wp2_with(go_at_call 122;(with_reducible refine hset.mono ?_);clear hset;rintro _ _ ⟨a5,n5,c5,y4,rfl,rfl,hown⟩);obtain⟨rfl,a6,c6,he6,_,hE6,hba,hob⟩:=own_els cs_len (by decide) hown;obtain⟨rfl,rfl⟩:a5=a6∧c5=c6:=by simpa using he6
  clear he6;have Hln:=Lib.hid (setL_len l);have Hmem:=Lib.hid (fun e (he:e∈setL l)=>HI.out e (setL_mem he));have hR:RunS wb y4.w f [.int .i64 f.bk,.int .i64 f.rd,.int .i64 f.dv,.slice da f.dk.length dc,.slice ta f.tk.length tc] p gs bo bu g bx a5 (setL l) m 0 0 [] (cus0 m) (.slice none 0 0) []:=by
   have s1:=y1.b.size;have s2:=y2.b.size;have s3:=y4.b.size;have s4:=Hbx.out;have s5:=HO.out.lt;have s6:=Hg.out;have s7:g<w.heap.size:=by have:=HO0.out.lt;exact this
   have s8:wb.heap.size≤W.heap.size:=by obtain⟨y,hy⟩:=Hsub.out (Since.self W);have:=y.b.size;have e:(Since.self W).w.heap.size=y.w.heap.size:=congrArg (·.heap.size) hy;have e2:(Since.self W).w=W:=rfl;rw[e2]at e;omega
   obtain⟨m1,m2,m3,m4,_⟩:=hM.lts;have hlt:∀b∈[p,gs,bo,bu],b<y2.w.heap.size:=fun b hb=>by
    simp only[List.mem_cons,List.not_mem_nil,or_false]at hb;rcases hb with rfl|rfl|rfl|rfl<;>assumption
   have hst4:∃y:Since W,y4.w=y.w:=by
    obtain⟨y3,h3⟩:=H3.out;have:∃z:Since y2.w,y4.w=z.w:=⟨y4,rfl⟩
    exact Since.lift y3 (by rw[←h3];exact this)
   have hX:∃y:Since wb,y4.w=y.w:=by obtain⟨y,hy⟩:=hst4;rw[hy];exact Hsub.out y
   refine⟨hX,hM.to ⟨y4,rfl⟩,ci_start m,by simp[cus0],⟨HO.out.to hst4,⟨by simp[flat],.inl ⟨rfl,rfl⟩⟩,fun b hb=>by simp[Value.ownBlock]at hb,Hg.out⟩,hE6,fun b hb=>⟨?_,?_,?_⟩,fun b off ea=>?_,?_,Nat.le_refl _,?_,?_,?_⟩
   ·have:=hge b (by simpa using hb);omega
   ·rintro(rfl|ho)
    ·have:=hge b (by simpa using hb);omega
    ·simp[Value.ownBlock]at ho
   ·intro off ea
    have h1:=hba _ ea;have h2:=hlt b (by simpa using hb);have h4:y2.w.heap.size≤b:=h1;omega
   ·rintro(rfl|ho)
    ·have h1:=hba _ ea
     have h4:y2.w.heap.size≤b:=h1;omega
    ·simp[Value.ownBlock]at ho
   ·rfl
   ·obtain⟨y,hy⟩:=hst4;rw[hy];exact HBF.out y
   ·intro hb;have:=hge bx (by simpa using hb);omega
   ·rintro(rfl|ho)
    ·omega
    ·simp[Value.ownBlock]at ho
  have HR:=Lib.hid hR;clear hR hM hge hown hE6 hba hob hst1 b0 b1 b2 b3 b4;have HX:∃y:Since wb,y4.w=y.w:=HR.out.X;obtain⟨y5,h5⟩:=HX;have HR5:=Lib.hid (h5 ▸ HR.out);clear HR;rw[h5];clear h5;clear FL;generalize setL l=L at *;go_loopw [23] (fun s wr=>∃(k n:Nat) (T:List TpE) (c:Cus) (v:Value) (out:List Ev) (y:Since wb),k≤L.length∧s= .int .i64 k∧wr=y.w∧RunS wb y.w f [.int .i64 f.bk,.int .i64 f.rd,.int .i64 f.dv,.slice da f.dk.length dc,.slice ta f.tk.length tc] p gs bo bu g bx a5 L m k n T c v out) (fun s _ =>L.length-(intOf s).toNat)
  case atStart=>exact⟨0,0,[],cus0 m,_,[],y5,by omega,rfl,rfl,HR5.out⟩
  case round=>
   clear HR5;obtain⟨k,n,T,c,v,out,y,hk,rfl,rfl,hR⟩:=hrel;have HR:=Lib.hid hR;clear hR;by_cases hlt:k<L.length
   ·obtain⟨e,he⟩:∃e,L[k]? =some e:=⟨_,List.getElem?_eq_getElem hlt⟩
    obtain⟨b1,off1,rfl,hb1,hc⟩:=HR.out.E k e he;have ka0:y.w.cell? ⟨b1,off1+k*9,none⟩=some (.int .i64 e.d):=hc 0 _ rfl;have ka1:y.w.cell? ⟨b1,off1+k*9+1,none⟩=some (.int .i64 e.q):=hc 1 _ rfl;have ka2:y.w.cell? ⟨b1,off1+k*9+2,none⟩=some (.int .i64 e.a):=hc 2 _ rfl;have ka3:y.w.cell? ⟨b1,off1+k*9+3,none⟩=some (.int .i64 e.t):=hc 3 _ rfl;have ka4:y.w.cell? ⟨b1,off1+k*9+4,none⟩=some (.int .i64 e.k):=hc 4 _ rfl;have ka5:y.w.cell? ⟨b1,off1+k*9+5,none⟩=some (.int .i64 e.b):=hc 5 _ rfl;have ka6:y.w.cell? ⟨b1,off1+k*9+6,none⟩=some (.int .i64 e.p):=hc 6 _ rfl;have ka7:y.w.cell? ⟨b1,off1+k*9+7,none⟩=some (.int .i64 e.r):=hc 7 _ rfl;have ka8:y.w.cell? ⟨b1,off1+k*9+8,none⟩=some (.int .i64 e.i):=hc 8 _ rfl;have hk0:(0:Int)≤(k:Int):=by omega
    have hkl:(k:Int)<(L.length:Int):=by omega
    have hkb:k≤100000:=by have:=Hln.out;omega
    have He:=Lib.hid he;have HeI:=Lib.hid (Hmem.out e (List.mem_of_getElem? he));clear hc hb1 he;go_upto_region 8 with fail;obtain⟨y2,e2,hst0,hsz0,hlt0,HX0⟩:=grow1 y [.int .i64 e.d,.int .i64 e.q,.int .i64 e.a,.int .i64 e.t,.int .i64 e.k,.int .i64 e.b,.int .i64 e.p,.int .i64 e.r,.int .i64 e.i] 63;rw[e2];obtain⟨hx0,hx1,hx2,hx3,hx4,hx5,hx6,hx7,hx8,hxf⟩:=cx9 HX0;(have Hgn:=Lib.hid (show¬CusS gs bo bu T y.w.heap.size from HR.out.M.notS (Nat.le_refl _)));(replace HR:=Lib.hid (HR.out.to hst0))
    clear e2 hst0;generalize y.w.heap.size=ge at *;obtain⟨Hhx0,Hhx1,Hhx2,Hhx3,Hhx4,Hhx5,Hhx6,Hhx7,Hhx8,Hhxf⟩:=bx9 HX0;have Hhxg:=Lib.hid (And.intro hsz0 hlt0);clear hlt0 hsz0 HX0;clear ka0 ka1 ka2 ka3 ka4 ka5 ka6 ka7 ka8 hx0 hx1 hx2 hx3 hx4 hx5 hx6 hx7 hx8 hxf;have HBe:=Lib.hid (ev_box (e:=e) Hhxg.out.2 (Hhx0 (Since.self _)) (Hhx1 (Since.self _)) (Hhx2 (Since.self _)) (Hhx3 (Since.self _)) (Hhx4 (Since.self _)) (Hhx5 (Since.self _)) (Hhx6 (Since.self _)) (Hhx7 (Since.self _)) (Hhx8 (Since.self _)) (fun o=>Hhxf (Since.self _) o));have HfY:=Lib.hid (show FltAt y2.w f da ta from Hf.out.to ⟨y2,rfl⟩);have CK:∀x:Since y2.w,Calls Tryz.prog 123 #[.agg #[.int .i64 f.bk,.int .i64 f.rd,.int .i64 f.dv,.slice da f.dk.length dc,.slice ta f.tk.length tc],.agg #[.int .i64 e.d,.int .i64 e.q,.int .i64 e.a,.int .i64 e.t,.int .i64 e.k,.int .i64 e.b,.int .i64 e.p,.int .i64 e.r,.int .i64 e.i]] x.w fun o w'=>o= .returned (.int .i64 (evcE f e))∧∃y:Since y2.w,w'=y.w:=fun x=>evcheck_calls y2.w x f e da ta dc tc HfY.out HeI.out;have b0:∀y:Since y2.w,y.w.cell? ⟨bx,0,none⟩=some (.int .i64 f.bk):=fun y=>(HR.out.F.since y).c 0 _ rfl;have b1:∀y:Since y2.w,y.w.cell? ⟨bx,1,none⟩=some (.int .i64 f.rd):=fun y=>(HR.out.F.since y).c 1 _ rfl;have b2:∀y:Since y2.w,y.w.cell? ⟨bx,2,none⟩=some (.int .i64 f.dv):=fun y=>(HR.out.F.since y).c 2 _ rfl;have b3:∀y:Since y2.w,y.w.cell? ⟨bx,3,none⟩=some (.slice da f.dk.length dc):=fun y=>(HR.out.F.since y).c 3 _ rfl;have b4:∀y:Since y2.w,y.w.cell? ⟨bx,4,none⟩=some (.slice ta f.tk.length tc):=fun y=>(HR.out.F.since y).c 4 _ rfl;have hlo:out.length≤100000:=by have h1:=HR.out.lo;have h2:=Hln.out;omega
    obtain⟨q0,hq0⟩:=Since.refl y2.w;rw[hq0];clear hq0;by_cases hev:evcE f e=0
    case neg=>
     have HEV:=Lib.hid (show evcE f e=evcE f e from rfl);have Hok:=Lib.hid (show okB f c e=false from by rw[okB_eq,decide_eq_false hev];rfl);have hb:(evcE f e == 0)=false:=by simpa using hev
     have Hev:=Lib.hid hev;clear hev;go_upto_region 15 with(go_at_call 123;(with_reducible refine(CK _).mono ?_);rintro _ _ ⟨rfl,z1,rfl⟩)
     have HRz:=HR.out.to ⟨z1,rfl⟩;have HBz:=HBe.out.to ⟨z1,rfl⟩;clear CK b0 b1 b2 b3 b4 Hhx0 Hhx1 Hhx2 Hhx3 Hhx4 Hhx5 Hhx6 Hhx7 Hhx8 Hhxf;obtain⟨x0,hx0⟩:=HRz.X;have hacc:=acc1_core wb x0 z1.w hx0 g v out HRz.O hlo (.pointer (some ⟨p,0,none⟩)) e (evcE f e);rw[if_neg Hev.out]at hacc;unfold Ev.ag at hacc;clear hx0 x0;have x0:z1.w.cell? ⟨ge,0,none⟩=some (.int .i64 e.d):=HBz.c 0 _ rfl;have x1:z1.w.cell? ⟨ge,1,none⟩=some (.int .i64 e.q):=HBz.c 1 _ rfl;have x2:z1.w.cell? ⟨ge,2,none⟩=some (.int .i64 e.a):=HBz.c 2 _ rfl;have x3:z1.w.cell? ⟨ge,3,none⟩=some (.int .i64 e.t):=HBz.c 3 _ rfl;have x4:z1.w.cell? ⟨ge,4,none⟩=some (.int .i64 e.k):=HBz.c 4 _ rfl;have x5:z1.w.cell? ⟨ge,5,none⟩=some (.int .i64 e.b):=HBz.c 5 _ rfl;have x6:z1.w.cell? ⟨ge,6,none⟩=some (.int .i64 e.p):=HBz.c 6 _ rfl;have x7:z1.w.cell? ⟨ge,7,none⟩=some (.int .i64 e.r):=HBz.c 7 _ rfl;have x8:z1.w.cell? ⟨ge,8,none⟩=some (.int .i64 e.i):=HBz.c 8 _ rfl;go_wp2_with(go_at_call 75;(with_reducible refine hacc.mono ?_);clear hacc;rintro _ _ ⟨rfl,y5,v5,rfl,hO5,hK5,hF5⟩);have HRR:=Lib.hid (HRz.told y5 hO5 hK5 hF5 He.out Hok.out);clear hO5 hK5 hF5;go_roundw
     case rel=>exact⟨k+1,n,T,c,v5,out,y5,by omega,by go_num,rfl,HRR.out⟩
     case measure=>simp[intOf];omega
    ·have HEV:=Lib.hid hev
     by_cases hk:e.k=10
     ·have Hok:=Lib.hid (show okB f c e=false from by rw[okB_eq,hk];simp)
      have hb:(e.k == 10)=true:=by simpa using hk
      clear hev hk;go_upto_region 16 with(go_at_call 123;(with_reducible refine(CK _).mono ?_);rintro _ _ ⟨rfl,z1,rfl⟩;rw[HEV.out])
      have HRz:=HR.out.to ⟨z1,rfl⟩;obtain⟨y5,h5⟩:=HRz.X;have HRR:=Lib.hid (HRz.skip He.out Hok.out);have HH5:=Lib.hid h5;clear h5 HRz CK b0 b1 b2 b3 b4 Hhx0 Hhx1 Hhx2 Hhx3 Hhx4 Hhx5 Hhx6 Hhx7 Hhx8 Hhxf;go_wp2_with fail;go_roundw
      case rel=>exact⟨k+1,n,T,c,v,out,y5,by omega,by go_num,HH5.out,by rw[←HH5.out];exact HRR.out⟩
      case measure=>simp[intOf];omega
     ·have hb:(e.k == 10)=false:=by simpa using hk
      have CC:∀x:Since y2.w,Calls Tryz.prog 124 #[.pointer (some ⟨p,0,none⟩),.agg #[.int .i64 e.d,.int .i64 e.q,.int .i64 e.a,.int .i64 e.t,.int .i64 e.k,.int .i64 e.b,.int .i64 e.p,.int .i64 e.r,.int .i64 e.i]] x.w fun o w'=>o= .returned (.int .i64 (chkE' f c e))∧∃y:Since y2.w,w'=y.w:=fun x=>check_e_calls y2.w x f da ta dc tc p gs bo bu n T c m HR.out.M HfY.out HR.out.I HR.out.ln HM0.out hm128 e HEV.out hk;have Hk:=Lib.hid hk;clear hev hk;by_cases hck:chkE' f c e=0
      case neg=>
       have Hok:=Lib.hid (show okB f c e=false from by rw[okB_eq,decide_eq_false hck];simp);have hb2:(chkE' f c e == 0)=false:=by simpa using hck
       have Hck:=Lib.hid hck;clear hck;go_upto_region 15 with(first
        |(go_at_call 123;(with_reducible refine(CK _).mono ?_);rintro _ _ ⟨rfl,z1,rfl⟩;rw[HEV.out])
        |(go_at_call 124;(with_reducible refine(CC _).mono ?_);rintro _ _ ⟨rfl,z1,rfl⟩))
       have HRz:=HR.out.to ⟨z1,rfl⟩;have HBz:=HBe.out.to ⟨z1,rfl⟩;clear CK CC b0 b1 b2 b3 b4 Hhx0 Hhx1 Hhx2 Hhx3 Hhx4 Hhx5 Hhx6 Hhx7 Hhx8 Hhxf;obtain⟨x0,hx0⟩:=HRz.X;have hacc:=acc1_core wb x0 z1.w hx0 g v out HRz.O hlo (.pointer (some ⟨p,0,none⟩)) e (chkE' f c e);rw[if_neg Hck.out]at hacc;unfold Ev.ag at hacc;clear hx0 x0;have x0:z1.w.cell? ⟨ge,0,none⟩=some (.int .i64 e.d):=HBz.c 0 _ rfl;have x1:z1.w.cell? ⟨ge,1,none⟩=some (.int .i64 e.q):=HBz.c 1 _ rfl;have x2:z1.w.cell? ⟨ge,2,none⟩=some (.int .i64 e.a):=HBz.c 2 _ rfl;have x3:z1.w.cell? ⟨ge,3,none⟩=some (.int .i64 e.t):=HBz.c 3 _ rfl;have x4:z1.w.cell? ⟨ge,4,none⟩=some (.int .i64 e.k):=HBz.c 4 _ rfl;have x5:z1.w.cell? ⟨ge,5,none⟩=some (.int .i64 e.b):=HBz.c 5 _ rfl;have x6:z1.w.cell? ⟨ge,6,none⟩=some (.int .i64 e.p):=HBz.c 6 _ rfl;have x7:z1.w.cell? ⟨ge,7,none⟩=some (.int .i64 e.r):=HBz.c 7 _ rfl;have x8:z1.w.cell? ⟨ge,8,none⟩=some (.int .i64 e.i):=HBz.c 8 _ rfl;go_wp2_with(go_at_call 75;(with_reducible refine hacc.mono ?_);clear hacc;rintro _ _ ⟨rfl,y5,v5,rfl,hO5,hK5,hF5⟩);have HRR:=Lib.hid (HRz.told y5 hO5 hK5 hF5 He.out Hok.out);clear hO5 hK5 hF5;go_roundw
       case rel=>exact⟨k+1,n,T,c,v5,out,y5,by omega,by go_num,rfl,HRR.out⟩
       case measure=>simp[intOf];omega
      ·have Hok:=Lib.hid (show okB f c e=true from by rw[okB_eq,decide_eq_true HEV.out,decide_eq_true hck,decide_eq_true Hk.out];rfl)
       have HCK:=Lib.hid hck;clear hck;go_upto_region 13 with(first
        |(go_at_call 123;(with_reducible refine(CK _).mono ?_);rintro _ _ ⟨rfl,z1,rfl⟩;rw[HEV.out])
        |(go_at_call 124;(with_reducible refine(CC _).mono ?_);rintro _ _ ⟨rfl,z1,rfl⟩;rw[HCK.out]))
       have HRz:=HR.out.to ⟨z1,rfl⟩;have HBz:=HBe.out.to ⟨z1,rfl⟩;have hdo:=do_e_calls z1.w f da ta dc tc p gs bo bu n T c m HRz.M HRz.I HRz.ln Hm1.out e Hok.out;clear CK CC b0 b1 b2 b3 b4 Hhx0 Hhx1 Hhx2 Hhx3 Hhx4 Hhx5 Hhx6 Hhx7 Hhx8 Hhxf;have x0:z1.w.cell? ⟨ge,0,none⟩=some (.int .i64 e.d):=HBz.c 0 _ rfl;have x1:z1.w.cell? ⟨ge,1,none⟩=some (.int .i64 e.q):=HBz.c 1 _ rfl;have x2:z1.w.cell? ⟨ge,2,none⟩=some (.int .i64 e.a):=HBz.c 2 _ rfl;have x3:z1.w.cell? ⟨ge,3,none⟩=some (.int .i64 e.t):=HBz.c 3 _ rfl;have x4:z1.w.cell? ⟨ge,4,none⟩=some (.int .i64 e.k):=HBz.c 4 _ rfl;have x5:z1.w.cell? ⟨ge,5,none⟩=some (.int .i64 e.b):=HBz.c 5 _ rfl;have x6:z1.w.cell? ⟨ge,6,none⟩=some (.int .i64 e.p):=HBz.c 6 _ rfl;have x7:z1.w.cell? ⟨ge,7,none⟩=some (.int .i64 e.r):=HBz.c 7 _ rfl;have x8:z1.w.cell? ⟨ge,8,none⟩=some (.int .i64 e.i):=HBz.c 8 _ rfl;go_upto_region 15 with(go_at_call 125;(with_reducible refine hdo.mono ?_);clear hdo;rintro _ w6 ⟨rfl,hk6,n6,T6,hM6,hT6⟩)
       clear x0 x1 x2 x3 x4 x5 x6 x7 x8;have hnS:¬CusS gs bo bu T ge:=fun hc=>by
        have h1:=(HRz.S ge (cusS_mem hc))
        exact Hgn.out hc
       have HB6:=HBz.keepS hk6 hnS;have HO6:OutM w6 wb.heap.size g v out:=HRz.O.keepS hk6 (fun b ho hc=>(HRz.S b (cusS_mem hc)).2.1 ho);obtain⟨x0,hx0⟩:=HRz.X;have hx6:∃y:Since wb,w6=y.w:=by
        have hk6':=hk6;rw[hx0]at hk6';exact KpS.since x0 hk6' (fun b hc=>(HRz.S b (cusS_mem hc)).1)
       obtain⟨x6',hx6'⟩:=hx6;have hacc:=acc1_core wb x6' w6 hx6' g v out HO6 hlo (.pointer (some ⟨p,0,none⟩)) e 0;rw[if_pos rfl]at hacc;unfold Ev.ag at hacc;clear hx0 x0 hx6' x6' hnS;have x0:w6.cell? ⟨ge,0,none⟩=some (.int .i64 e.d):=HB6.c 0 _ rfl;have x1:w6.cell? ⟨ge,1,none⟩=some (.int .i64 e.q):=HB6.c 1 _ rfl;have x2:w6.cell? ⟨ge,2,none⟩=some (.int .i64 e.a):=HB6.c 2 _ rfl;have x3:w6.cell? ⟨ge,3,none⟩=some (.int .i64 e.t):=HB6.c 3 _ rfl;have x4:w6.cell? ⟨ge,4,none⟩=some (.int .i64 e.k):=HB6.c 4 _ rfl;have x5:w6.cell? ⟨ge,5,none⟩=some (.int .i64 e.b):=HB6.c 5 _ rfl;have x6:w6.cell? ⟨ge,6,none⟩=some (.int .i64 e.p):=HB6.c 6 _ rfl;have x7:w6.cell? ⟨ge,7,none⟩=some (.int .i64 e.r):=HB6.c 7 _ rfl;have x8:w6.cell? ⟨ge,8,none⟩=some (.int .i64 e.i):=HB6.c 8 _ rfl;go_wp2_with(go_at_call 75;(with_reducible refine hacc.mono ?_);clear hacc;rintro _ _ ⟨rfl,y5,v5,rfl,hO5,hK5,hF5⟩);have HRR:=Lib.hid (HRz.done He.out Hok.out Hm1.out hk6 hM6 hT6 y5 hO5 hK5 hF5);clear hO5 hK5 hF5;go_roundw
       case rel=>exact⟨k+1,n6,T6,doE c e,v5,out ++ [e],y5,by omega,by go_num,rfl,HRR.out⟩
       case measure=>simp[intOf];omega
   ·obtain rfl:k=L.length:=by omega
    have HRR:=Lib.hid (HP.out (.returned (.tuple #[.pointer (some ⟨p,0,none⟩),.int .i64 0])) y (.inr ⟨H0.out,p,v,rfl,by
     have h1:=HR.out.eq;rw[List.drop_length]at h1;have h2:out=accL f (cus0 m) L:=by simpa[accL]using h1
     rw[←Hm1.out,←h2];exact HR.out.O⟩))
    go_wp2_with fail;exact HRR.out
end Go.Proofs.YtmmlmhnjjfnpnaaGreat
namespace Go.Proofs.YtmmlmhnjjfnpnaaGreat
open Go.RowKit Go.ChangeMaps
def AccRes (w:World) (f:Flt) (L:List Ev) (o:Ending) (w':World):Prop:=
 ∃(v:Value) (y:Since w),o= .returned (.tuple #[v,.int .i64 (fltE f)])∧w'=y.w∧((fltE f≠0∧v= .slice none 0 0)∨(fltE f=0∧y.w.ownsRow w.heap.size 63 9 v (accL f (cus0 f.bk.toNat) L).length (flat Ev.cs (accL f (cus0 f.bk.toNat) L))))
set_option maxRecDepth 100000 in
set_option maxHeartbeats 4000000 in
theorem accepted_calls (w:World) (x:Since w) (f:Flt) (da ta:Option Addr) (dc tc:Nat) (hf:FltAt w f da ta) (a:Option Addr) (l:List Ev) (cl:Nat) (h:Els Ev.cs 9 w a l) (hl:l.length≤100000) (hI:∀e∈l,I64 e.p):
 Calls Tryz.prog 30 #[.agg #[.int .i64 f.bk,.int .i64 f.rd,.int .i64 f.dv,.slice da f.dk.length dc,.slice ta f.tk.length tc],.slice a l.length cl] x.w (AccRes w f (setL l)):=by
 have HP:=Lib.hid (fun(v:Value) (y:Since w) (h:(fltE f≠0∧v= .slice none 0 0)∨(fltE f=0∧y.w.ownsRow w.heap.size 63 9 v (accL f (cus0 f.bk.toNat) (setL l)).length (flat Ev.cs (accL f (cus0 f.bk.toNat) (setL l)))))=>show AccRes w f (setL l) (.returned (.tuple #[v,.int .i64 (fltE f)])) y.w from⟨v,y,rfl,rfl,h⟩);generalize AccRes w f (setL l)=PO at *;have Hf:=Lib.hid hf;have HE:=Lib.hid h;clear hf h;go_enter Tryz.func30,Tryz.ntmps30;go_upto_region 2 with fail;obtain⟨W,bx,y0,hW,hbx,-,hWup,Hup,Hbx,HB0,HB1⟩:=heads2 x [.int .i64 f.bk,.int .i64 f.rd,.int .i64 f.dv,.slice da f.dk.length dc,.slice ta f.tk.length tc] 24 ([Value.slice none 0 0]) 25;rw[hW,hbx];clear hW hbx;obtain⟨hb0_0,hb0_1,hb0_2,hb0_3,hb0_4,hf0⟩:=bx5 HB0;have hB1:=fun y:Since W=>HB1.since y;clear HB0 HB1;have Hlt:=Lib.hid (show w.heap.size≤bx+1 by have:=Hbx.out;omega);obtain⟨z0,hz0⟩:=Hup.out y0;have hrun:=run_calls w z0 f da ta dc tc Hf.out a l cl HE.out hl hI (bx+1) Hlt.out (by rw[←hz0];exact hB1 y0);rw[←hz0]at hrun;clear hz0 z0 hWup hB1;go_wp2_with(go_at_call 74;(with_reducible refine hrun.mono ?_);clear hrun);rintro _ _ ⟨y1,rfl,⟨h0,rfl,hb⟩|⟨h0,p,v,rfl,hO⟩⟩
 ·have HR:=Lib.hid (HP.out (.slice none 0 0) y1 (.inl ⟨h0,rfl⟩))
  have k0:y1.w.cell? ⟨bx+1,0,none⟩=some (.slice none 0 0):=hb.c 0 _ rfl;clear h0 hb;go_wp2_with fail;exact HR.out
 ·obtain⟨a1,n1,c1,rfl⟩:=own_slice hO.r
  have HR:=Lib.hid (HP.out (.slice a1 n1 c1) y1 (.inr ⟨h0,hO.r⟩));rw[h0]at HR;have k0:y1.w.cell? ⟨bx+1,0,none⟩=some (.slice a1 n1 c1):=hO.b.c 0 _ rfl;clear h0 hO;go_wp2_with fail;exact HR.out
end Go.Proofs.YtmmlmhnjjfnpnaaGreat
