/- Texts that belong together. -/
import Derived.Test.YtmmlmhnjjfnpnaaGreatTpQb
import Derived.Test.YtmmlmhnjjfnpnaaGreatProg
import Derived.Laws.StructEq
set_option linter.all false
namespace Go.Proofs.YtmmlmhnjjfnpnaaGreat
section
structure Ev where
 d:Int
 q:Int
 a:Int
 t:Int
 k:Int
 b:Int
 p:Int
 r:Int
 i:Int
theorem Ev.eq_iff (x y:Ev):x=y↔x.d=y.d∧x.q=y.q∧x.a=y.a∧x.t=y.t∧x.k=y.k∧x.b=y.b∧x.p=y.p∧x.r=y.r∧x.i=y.i:=by
 cases x;cases y;simp
instance:DecidableEq Ev:=fun x y=>decidable_of_iff _ (Ev.eq_iff x y).symm
instance:Inhabited Ev:=⟨⟨0,0,0,0,0,0,0,0,0⟩⟩
def Ev.ks (x:Ev):List Int:=[x.a,x.d,x.q,x.t,x.k,x.b,x.p,x.r,x.i]
def Ev.cs (x:Ev):List Value:=[.int .i64 x.d,.int .i64 x.q,.int .i64 x.a,.int .i64 x.t,.int .i64 x.k,.int .i64 x.b,.int .i64 x.p,.int .i64 x.r,.int .i64 x.i]
def Ev.ag (x:Ev):Value:=.agg #[.int .i64 x.d,.int .i64 x.q,.int .i64 x.a,.int .i64 x.t,.int .i64 x.k,.int .i64 x.b,.int .i64 x.p,.int .i64 x.r,.int .i64 x.i]
theorem Ev.ks_inj {x y:Ev} (h:x.ks=y.ks):x=y:=by
 rw[Ev.eq_iff];simp[Ev.ks]at h;simp[h]
theorem Ev.ks_len (x:Ev):x.ks.length=9:=rfl
def lexB:List Int→List Int→Bool
 |x :: xs,y :: ys=>if x=y then lexB xs ys else decide (x<y)
 | _,_ =>false
theorem tY:∀x:List Int,lexB x x=false
 |[]=>rfl
 |x :: xs=>by unfold lexB;rw[if_pos rfl];exact tY xs
theorem tZ:∀x y z:List Int,lexB x y=true→lexB y z=true→lexB x z=true
 |[],_,_,h,_ =>by simp[lexB]at h
 | _ :: _,[],_,h,_ =>by simp[lexB]at h
 | _ :: _,_ :: _,[],_,h=>by simp[lexB]at h
 |x :: xs,y :: ys,z :: zs,h1,h2=>by
  unfold lexB at h1 h2⊢;by_cases e1:x=y
  ·by_cases e2:y=z
   ·rw[if_pos e1]at h1;rw[if_pos e2]at h2;rw[if_pos (e1.trans e2)]
    exact tZ xs ys zs h1 h2
   ·rw[if_neg e2]at h2;rw[if_neg (by omega)];simp at h2⊢;omega
  ·rw[if_neg e1]at h1
   simp at h1;by_cases e2:y=z
   ·rw[if_neg (by omega)];simp;omega
   ·rw[if_neg e2]at h2;simp at h2;rw[if_neg (by omega)];simp;omega
theorem uA:∀x y:List Int,x.length=y.length→lexB x y=false→lexB y x=false→x=y
 |[],[],_,_,_ =>rfl
 |[],_ :: _,h,_,_ =>by simp at h
 | _ :: _,[],h,_,_ =>by simp at h
 |x :: xs,y :: ys,h,h1,h2=>by
  unfold lexB at h1 h2;by_cases e:x=y
  ·rw[if_pos e]at h1;rw[if_pos e.symm]at h2
   rw[e,uA xs ys (by simpa using h) h1 h2]
  ·rw[if_neg e]at h1;rw[if_neg (by omega)]at h2;simp at h1 h2;omega
def T4 (x y:Ev):Bool:=lexB x.ks y.ks
theorem uB (x:Ev):T4 x x=false:=tY _
theorem uC {x y z:Ev} (h1:T4 x y=true) (h2:T4 y z=true):T4 x z=true:=tZ _ _ _ h1 h2
theorem Ac9 {x y:Ev} (h1:T4 x y=false) (h2:T4 y x=false):x=y:=Ev.ks_inj (uA _ _ rfl h1 h2)
theorem Ad0 {x y:Ev} (h:T4 x y=true):T4 y x=false:=by
 cases e:T4 y x
 ·rfl
 ·have:=uC h e;rw[uB]at this;cases this
theorem Ad1 {x y z:Ev} (h1:T4 x y=false) (h2:T4 y z=false):T4 x z=false:=by
 cases e:T4 x z
 ·rfl
 ·cases e2:T4 y x
  ·have:=Ac9 h1 e2;subst this;rw[e]at h2;cases h2
  ·have:=uC e2 e;rw[h2]at this;cases this
def fV (l:List Ev):List Ev:=l.mergeSort fun x y=>!T4 y x
theorem Ad2 (l:List Ev):(fV l).Perm l:=List.mergeSort_perm _ _
theorem AK6 (l:List Ev):(fV l).Pairwise fun x y=>T4 y x=false:=by
 have:=List.pairwise_mergeSort (le:=fun x y=>!T4 y x) (fun a b c h1 h2=>by
  simp only[Bool.not_eq_true']at h1 h2⊢;exact Ad1 h2 h1) (fun a b=>by
  simp only[Bool.or_eq_true,Bool.not_eq_true']
  cases e:T4 b a
  ·exact .inl rfl
  ·exact .inr (Ad0 e)) l
 exact this.imp fun h=>by simpa using h
theorem Ad3 (l:List Ev):(fV l).length=l.length:=(Ad2 l).length_eq
def sk (x y:Ev):Bool:=decide (x.d=y.d) && decide (x.q=y.q)
end
section
def AK7 (l:List Ev) (d s:Int):Bool:=l.any fun x=>decide (x.d=d) && decide (x.q=s)
def uD (l:List Ev) (d:Int):Nat→Nat
 |0=>0
 |f+1=>if uD l d f<f then uD l d f else if AK7 l d ((f:Int)+1)then f+1 else f
def Ad4 (l:List Ev) (d:Int):Nat:=uD l d l.length
end
section
def atS (l:List Ev) (d s:Int):Int:=match l.find? (fun x=>decide (x.d=d) && decide (x.q=s))with|some x=>x.a|none=>0
def Ad5 (l:List Ev):Nat→Int
 |0=>4294943999
 |k+1=>min (Ad5 l k) (atS l (k:Int) (Ad4 l (k:Int)))
def AK9 (n:Nat) (l:List Ev):Bool:=(List.range n).any fun d=>decide (Ad4 l (d:Int)=0)
def pG (n:Nat) (l:List Ev):Int:=if AK9 n l then 0 else Ad5 l n
end
section
open Go.RowKit Go.ChangeMaps
theorem b9 (x:Ev):x.cs.length=9:=rfl
end
end Go.Proofs.YtmmlmhnjjfnpnaaGreat
