/- Texts that belong together. -/
import Derived.Test.YtmmlmhnjjfnpnaaGreatTpMb
import Derived.Test.YtmmlmhnjjfnpnaaGreatProg
import Derived.Laws.StructEq
set_option linter.all false
namespace Go.Proofs.YtmmlmhnjjfnpnaaGreat
structure Ev where
 d:Int
 q:Int
 a:Int
 t:Int
 k:Int
 b:Int
 p:Int
 r:Int
 i:Int
theorem Ev.eq_iff (x y:Ev):x=y↔x.d=y.d∧x.q=y.q∧x.a=y.a∧x.t=y.t∧x.k=y.k∧x.b=y.b∧x.p=y.p∧x.r=y.r∧x.i=y.i:=by
 cases x;cases y;simp
instance:DecidableEq Ev:=fun x y=>decidable_of_iff _ (Ev.eq_iff x y).symm
instance:Inhabited Ev:=⟨⟨0,0,0,0,0,0,0,0,0⟩⟩
def Ev.ks (x:Ev):List Int:=[x.a,x.d,x.q,x.t,x.k,x.b,x.p,x.r,x.i]
def Ev.cs (x:Ev):List Value:=[.int .i64 x.d,.int .i64 x.q,.int .i64 x.a,.int .i64 x.t,.int .i64 x.k,.int .i64 x.b,.int .i64 x.p,.int .i64 x.r,.int .i64 x.i]
def Ev.ag (x:Ev):Value:=.agg #[.int .i64 x.d,.int .i64 x.q,.int .i64 x.a,.int .i64 x.t,.int .i64 x.k,.int .i64 x.b,.int .i64 x.p,.int .i64 x.r,.int .i64 x.i]
theorem Ev.ks_inj {x y:Ev} (h:x.ks=y.ks):x=y:=by
 rw[Ev.eq_iff];simp[Ev.ks]at h;simp[h]
theorem Ev.ks_len (x:Ev):x.ks.length=9:=rfl
def lexB:List Int→List Int→Bool
 |x :: xs,y :: ys=>if x=y then lexB xs ys else decide (x<y)
 | _,_ =>false
theorem lexB_irrefl:∀x:List Int,lexB x x=false
 |[]=>rfl
 |x :: xs=>by unfold lexB;rw[if_pos rfl];exact lexB_irrefl xs
theorem lexB_trans:∀x y z:List Int,lexB x y=true→lexB y z=true→lexB x z=true
 |[],_,_,h,_ =>by simp[lexB]at h
 | _ :: _,[],_,h,_ =>by simp[lexB]at h
 | _ :: _,_ :: _,[],_,h=>by simp[lexB]at h
 |x :: xs,y :: ys,z :: zs,h1,h2=>by
  unfold lexB at h1 h2⊢;by_cases e1:x=y
  ·by_cases e2:y=z
   ·rw[if_pos e1]at h1;rw[if_pos e2]at h2;rw[if_pos (e1.trans e2)]
    exact lexB_trans xs ys zs h1 h2
   ·rw[if_neg e2]at h2;rw[if_neg (by omega)];simp at h2⊢;omega
  ·rw[if_neg e1]at h1
   simp at h1;by_cases e2:y=z
   ·rw[if_neg (by omega)];simp;omega
   ·rw[if_neg e2]at h2;simp at h2;rw[if_neg (by omega)];simp;omega
theorem lexB_total:∀x y:List Int,x.length=y.length→lexB x y=false→lexB y x=false→x=y
 |[],[],_,_,_ =>rfl
 |[],_ :: _,h,_,_ =>by simp at h
 | _ :: _,[],h,_,_ =>by simp at h
 |x :: xs,y :: ys,h,h1,h2=>by
  unfold lexB at h1 h2;by_cases e:x=y
  ·rw[if_pos e]at h1;rw[if_pos e.symm]at h2
   rw[e,lexB_total xs ys (by simpa using h) h1 h2]
  ·rw[if_neg e]at h1;rw[if_neg (by omega)]at h2;simp at h1 h2;omega
def less (x y:Ev):Bool:=lexB x.ks y.ks
theorem less_irrefl (x:Ev):less x x=false:=lexB_irrefl _
theorem less_trans {x y z:Ev} (h1:less x y=true) (h2:less y z=true):less x z=true:=lexB_trans _ _ _ h1 h2
theorem less_total {x y:Ev} (h1:less x y=false) (h2:less y x=false):x=y:=Ev.ks_inj (lexB_total _ _ rfl h1 h2)
theorem less_asymm {x y:Ev} (h:less x y=true):less y x=false:=by
 cases e:less y x
 ·rfl
 ·have:=less_trans h e;rw[less_irrefl]at this;cases this
theorem less_ntrans {x y z:Ev} (h1:less x y=false) (h2:less y z=false):less x z=false:=by
 cases e:less x z
 ·rfl
 ·cases e2:less y x
  ·have:=less_total h1 e2;subst this;rw[e]at h2;cases h2
  ·have:=less_trans e2 e;rw[h2]at this;cases this
def sortE (l:List Ev):List Ev:=l.mergeSort fun x y=>!less y x
theorem sortE_perm (l:List Ev):(sortE l).Perm l:=List.mergeSort_perm _ _
theorem sortE_sorted (l:List Ev):(sortE l).Pairwise fun x y=>less y x=false:=by
 have:=List.pairwise_mergeSort (le:=fun x y=>!less y x) (fun a b c h1 h2=>by
  simp only[Bool.not_eq_true']at h1 h2⊢;exact less_ntrans h2 h1) (fun a b=>by
  simp only[Bool.or_eq_true,Bool.not_eq_true']
  cases e:less b a
  ·exact .inl rfl
  ·exact .inr (less_asymm e)) l
 exact this.imp fun h=>by simpa using h
theorem sortE_unique {l m:List Ev} (hp:m.Perm l) (hs:m.Pairwise fun x y=>less y x=false):m=sortE l:=
 (hp.trans (sortE_perm l).symm).eq_of_pairwise (fun a b _ _ h1 h2=>less_total h2 h1) hs (sortE_sorted l)
theorem sortE_length (l:List Ev):(sortE l).length=l.length:=(sortE_perm l).length_eq
def sk (x y:Ev):Bool:=decide (x.d=y.d) && decide (x.q=y.q)
theorem sk_iff (x y:Ev):sk x y=true↔x.d=y.d∧x.q=y.q:=by simp[sk]
end Go.Proofs.YtmmlmhnjjfnpnaaGreat
namespace Go.Proofs.YtmmlmhnjjfnpnaaGreat
def hasB (l:List Ev) (d s:Int):Bool:=l.any fun x=>decide (x.d=d) && decide (x.q=s)
def seenTo (l:List Ev) (d:Int):Nat→Nat
 |0=>0
 |f+1=>if seenTo l d f<f then seenTo l d f else if hasB l d ((f:Int)+1)then f+1 else f
def seenN (l:List Ev) (d:Int):Nat:=seenTo l d l.length
end Go.Proofs.YtmmlmhnjjfnpnaaGreat
namespace Go.Proofs.YtmmlmhnjjfnpnaaGreat
def atS (l:List Ev) (d s:Int):Int:=match l.find? (fun x=>decide (x.d=d) && decide (x.q=s))with|some x=>x.a|none=>0
def horF (l:List Ev):Nat→Int
 |0=>4294943999
 |k+1=>min (horF l k) (atS l (k:Int) (seenN l (k:Int)))
def horZ (n:Nat) (l:List Ev):Bool:=(List.range n).any fun d=>decide (seenN l (d:Int)=0)
def hor (n:Nat) (l:List Ev):Int:=if horZ n l then 0 else horF l n
end Go.Proofs.YtmmlmhnjjfnpnaaGreat
namespace Go.Proofs.YtmmlmhnjjfnpnaaGreat
open Go.RowKit Go.ChangeMaps
def ekey (x:Int×Int):Value:=.agg #[.int .i64 x.1,.int .i64 x.2]
def evP (e:Ev):(Int×Int)×Value:=((e.d,e.q),e.ag)
structure RepAt (w:World) (p bm:Nat) (n:Int) (l:List Ev):Prop where
 c0:w.cell? ⟨p,0,none⟩=some (.int .i64 n)
 c1:w.cell? ⟨p,1,none⟩=some (.map (some bm))
 m:MapAt ekey w bm (l.map evP)
theorem RepAt.lt {w:World} {p bm:Nat} {n:Int} {l:List Ev} (h:RepAt w p bm n l):p<w.heap.size∧bm<w.heap.size:=
 ⟨World.block_lt_of_cell? w _ h.c0,(Array.getElem?_eq_some_iff.1 h.m).1⟩
theorem RepAt.since {w:World} {p bm:Nat} {n:Int} {l:List Ev} (h:RepAt w p bm n l) (y:Since w):RepAt y.w p bm n l:=
 ⟨Since.cell h.c0 h.lt.1 y,Since.cell h.c1 h.lt.1 y,Since.heap h.m y⟩
theorem RepAt.to {w W:World} {p bm:Nat} {n:Int} {l:List Ev} (h:RepAt w p bm n l) (hW:∃z:Since w,W=z.w):RepAt W p bm n l:=by
 obtain⟨z,rfl⟩:=hW;exact h.since z
theorem map_no_cell {w:World} {b o:Nat} {v:Value} {es:Array MapEntry} {c:Nat} (h:w.heap[b]? =some (.map es c)) (hc:w.cell? ⟨b,o,none⟩=some v):False:=by
 simp[World.cell?,h]at hc
theorem RepAt.ne {w:World} {p bm bm':Nat} {n:Int} {l:List Ev} {es:Array MapEntry} {c:Nat} (h:RepAt w p bm n l) (h':w.heap[bm']? =some (.map es c)):p≠bm':=by
 rintro rfl;exact map_no_cell h' h.c0
theorem RepAt.keep {w w':World} {p bm bm':Nat} {n:Int} {l:List Ev} {es:Array MapEntry} {c:Nat} (h:RepAt w p bm n l) (h':w.heap[bm']? =some (.map es c)) (hne:bm≠bm') (hg:w.grownBy w' (some bm')):RepAt w' p bm n l:=by
 have hp:=hg.block p h.lt.1 (by simpa using h.ne h');have hb:=hg.block bm h.lt.2 (by simpa using hne);exact⟨by rw[World.cell?_of_block (w:=w) (a:=⟨p,0,none⟩) hp];exact h.c0,by rw[World.cell?_of_block (w:=w) (a:=⟨p,1,none⟩) hp];exact h.c1,hb.trans h.m⟩
theorem cs_len (x:Ev):x.cs.length=9:=rfl
end Go.Proofs.YtmmlmhnjjfnpnaaGreat
