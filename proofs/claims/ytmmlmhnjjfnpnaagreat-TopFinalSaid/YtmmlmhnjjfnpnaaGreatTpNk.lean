/- Texts that belong together. -/
import Derived.Test.YtmmlmhnjjfnpnaaGreatTpNb
import Derived.Test.YtmmlmhnjjfnpnaaGreatProg
import Derived.Laws.StructEq
set_option linter.all false
namespace Go.Proofs.YtmmlmhnjjfnpnaaGreat
set_option maxRecDepth 200000
set_option maxHeartbeats 64000000
section
structure Ev where
 d:Int
 q:Int
 a:Int
 t:Int
 k:Int
 b:Int
 p:Int
 r:Int
 i:Int
theorem Ev.eq_iff (x y:Ev):x=y↔x.d=y.d∧x.q=y.q∧x.a=y.a∧x.t=y.t∧x.k=y.k∧x.b=y.b∧x.p=y.p∧x.r=y.r∧x.i=y.i:=by
 cases x;cases y;simp
instance:DecidableEq Ev:=fun x y=>decidable_of_iff _ (Ev.eq_iff x y).symm
instance:Inhabited Ev:=⟨⟨0,0,0,0,0,0,0,0,0⟩⟩
def Ev.ks (x:Ev):List Int:=[x.a,x.d,x.q,x.t,x.k,x.b,x.p,x.r,x.i]
def Ev.cs (x:Ev):List Value:=[.int .i64 x.d,.int .i64 x.q,.int .i64 x.a,.int .i64 x.t,.int .i64 x.k,.int .i64 x.b,.int .i64 x.p,.int .i64 x.r,.int .i64 x.i]
def Ev.ag (x:Ev):Value:=.agg #[.int .i64 x.d,.int .i64 x.q,.int .i64 x.a,.int .i64 x.t,.int .i64 x.k,.int .i64 x.b,.int .i64 x.p,.int .i64 x.r,.int .i64 x.i]
theorem Ev.ks_inj {x y:Ev} (h:x.ks=y.ks):x=y:=by
 rw[Ev.eq_iff];simp[Ev.ks]at h;simp[h]
theorem Ev.ks_len (x:Ev):x.ks.length=9:=rfl
def lexB:List Int→List Int→Bool
 |x :: xs,y :: ys=>if x=y then lexB xs ys else decide (x<y)
 | _,_ =>false
theorem uZ:∀x:List Int,lexB x x=false
 |[]=>rfl
 |x :: xs=>by unfold lexB;rw[if_pos rfl];exact uZ xs
theorem vA:∀x y z:List Int,lexB x y=true→lexB y z=true→lexB x z=true
 |[],_,_,h,_ =>by simp[lexB]at h
 | _ :: _,[],_,h,_ =>by simp[lexB]at h
 | _ :: _,_ :: _,[],_,h=>by simp[lexB]at h
 |x :: xs,y :: ys,z :: zs,h1,h2=>by
  unfold lexB at h1 h2⊢;by_cases e1:x=y
  ·by_cases e2:y=z
   ·rw[if_pos e1]at h1;rw[if_pos e2]at h2;rw[if_pos (e1.trans e2)]
    exact vA xs ys zs h1 h2
   ·rw[if_neg e2]at h2;rw[if_neg (by omega)];simp at h2⊢;omega
  ·rw[if_neg e1]at h1
   simp at h1;by_cases e2:y=z
   ·rw[if_neg (by omega)];simp;omega
   ·rw[if_neg e2]at h2;simp at h2;rw[if_neg (by omega)];simp;omega
theorem vB:∀x y:List Int,x.length=y.length→lexB x y=false→lexB y x=false→x=y
 |[],[],_,_,_ =>rfl
 |[],_ :: _,h,_,_ =>by simp at h
 | _ :: _,[],h,_,_ =>by simp at h
 |x :: xs,y :: ys,h,h1,h2=>by
  unfold lexB at h1 h2;by_cases e:x=y
  ·rw[if_pos e]at h1;rw[if_pos e.symm]at h2
   rw[e,vB xs ys (by simpa using h) h1 h2]
  ·rw[if_neg e]at h1;rw[if_neg (by omega)]at h2;simp at h1 h2;omega
def O2 (x y:Ev):Bool:=lexB x.ks y.ks
theorem vC (x:Ev):O2 x x=false:=uZ _
theorem vD {x y z:Ev} (h1:O2 x y=true) (h2:O2 y z=true):O2 x z=true:=vA _ _ _ h1 h2
theorem qB {x y:Ev} (h1:O2 x y=false) (h2:O2 y x=false):x=y:=Ev.ks_inj (vB _ _ rfl h1 h2)
theorem Ag1 {x y:Ev} (h:O2 x y=true):O2 y x=false:=by
 cases e:O2 y x
 ·rfl
 ·have:=vD h e;rw[vC]at this;cases this
theorem Ag2 {x y z:Ev} (h1:O2 x y=false) (h2:O2 y z=false):O2 x z=false:=by
 cases e:O2 x z
 ·rfl
 ·cases e2:O2 y x
  ·have:=qB h1 e2;subst this;rw[e]at h2;cases h2
  ·have:=vD e2 e;rw[h2]at this;cases this
def J3 (l:List Ev):List Ev:=l.mergeSort fun x y=>!O2 y x
theorem iW (l:List Ev):(J3 l).Perm l:=List.mergeSort_perm _ _
theorem kN (l:List Ev):(J3 l).Pairwise fun x y=>O2 y x=false:=by
 have:=List.pairwise_mergeSort (le:=fun x y=>!O2 y x) (fun a b c h1 h2=>by
  simp only[Bool.not_eq_true']at h1 h2⊢;exact Ag2 h2 h1) (fun a b=>by
  simp only[Bool.or_eq_true,Bool.not_eq_true']
  cases e:O2 b a
  ·exact .inl rfl
  ·exact .inr (Ag1 e)) l
 exact this.imp fun h=>by simpa using h
theorem vE {l m:List Ev} (hp:m.Perm l) (hs:m.Pairwise fun x y=>O2 y x=false):m=J3 l:=
 (hp.trans (iW l).symm).eq_of_pairwise (fun a b _ _ h1 h2=>qB h2 h1) hs (kN l)
theorem AP5 {l m:List Ev} (hp:l.Perm m):J3 l=J3 m:=vE ((iW l).trans hp) (kN l)
theorem fI (l:List Ev):(J3 l).length=l.length:=(iW l).length_eq
theorem mU (l:List Ev) (x:Ev):x∈J3 l↔x∈l:=(iW l).mem_iff
def sk (x y:Ev):Bool:=decide (x.d=y.d) && decide (x.q=y.q)
theorem gM (x y:Ev):sk x y=true↔x.d=y.d∧x.q=y.q:=by simp[sk]
def late (x e:Ev):Bool:=decide (x.d=e.d) && ((decide (x.q<e.q) && decide (e.a<x.a)) || (decide (e.q<x.q) && decide (x.a<e.a)))
def bY (l:List Ev) (e:Ev):Bool:=!l.any fun x=>late x e
def aR (e:Ev):Bool:=decide (1≤e.q) && decide (e.q≤1048576) && decide (0≤e.a) && decide (e.a≤e.t) && decide (e.t≤4294943999)
def i3 (l:List Ev) (e:Ev):Option Ev:=l.find? fun x=>sk x e
def i4 (n:Int) (l:List Ev) (e:Ev):Int:=
 if e.d<0∨n≤e.d then 7 else if aR e=false then 1 else
 match i3 l e with
 |some x=>if x=e then 0 else 21
 |none=>if bY l e=false then 9 else if 512≤l.length then 8 else 0
def bI (n:Int) (l:List Ev) (e:Ev):Bool:=decide (i4 n l e=0) && (i3 l e).isNone
def aS (n:Int) (l:List Ev) (e:Ev):List Ev:=if bI n l e then l ++ [e]else l
end
section
structure W9 (n:Int) (l:List Ev):Prop where
 rng:∀x∈l,0≤x.d∧x.d<n∧aR x=true
 keys:∀x∈l,∀y∈l,sk x y=true→x=y
 time:∀x∈l,∀y∈l,late x y=false
 nodup:l.Nodup
 len:l.length≤512
theorem AP6 (n:Int):W9 n []:=⟨by simp,by simp,by simp,List.nodup_nil,by simp⟩
theorem iX (e:Ev):aR e=true↔1≤e.q∧e.q≤1048576∧0≤e.a∧e.a≤e.t∧e.t≤4294943999:=by simp[aR,and_assoc]
theorem vF (x e:Ev):late x e=true↔x.d=e.d∧((x.q<e.q∧e.a<x.a)∨(e.q<x.q∧x.a<e.a)):=by simp[late]
theorem mV {x e:Ev}:late x e=false↔(x.d=e.d→x.q<e.q→x.a≤e.a)∧(x.d=e.d→e.q<x.q→e.a≤x.a):=by
 cases h:late x e
 ·simp only[true_iff]
  have:¬late x e=true:=by rw[h];simp
  rw[vF]at this;exact⟨fun h1 h2=>by omega,fun h1 h2=>by omega⟩
 ·rw[vF]at h
  simp only[Bool.true_eq_false,false_iff];intro hh;obtain⟨hd,h⟩:=h;rcases h with h|h
  ·have:=hh.1 hd h.1;omega
  ·have:=hh.2 hd h.1;omega
theorem AP7 {x e:Ev} (h:late x e=false):late e x=false:=by
 rw[mV]at h⊢;exact⟨fun h1 h2=>h.2 h1.symm h2,fun h1 h2=>h.1 h1.symm h2⟩
theorem AP8 (x:Ev):late x x=false:=by rw[mV];exact⟨fun _ h=>(by omega),fun _ h=>(by omega)⟩
theorem AP9 (x:Ev):sk x x=true:=by simp[sk]
theorem AQ0 {x y:Ev} (h:sk x y=true):sk y x=true:=by rw[gM]at h⊢;exact⟨h.1.symm,h.2.symm⟩
theorem vG (l:List Ev) (e:Ev):bY l e=true↔∀x∈l,late x e=false:=by simp[bY]
theorem AQ1 (l:List Ev) (e:Ev):i3 l e=none↔∀x∈l,sk x e=false:=by simp[i3]
theorem Ag3 {n:Int} {l:List Ev} {e:Ev} (h:e.d<0∨n≤e.d):i4 n l e=7:=by unfold i4;rw[if_pos h]
theorem Ag4 {n:Int} {l:List Ev} {e:Ev} (h:¬(e.d<0∨n≤e.d)) (h2:aR e=false):i4 n l e=1:=by unfold i4;rw[if_neg h,if_pos h2]
theorem Ag5 {n:Int} {l:List Ev} {e x:Ev} (h:¬(e.d<0∨n≤e.d)) (h2:aR e=true) (h3:i3 l e=some x):i4 n l e=if x=e then 0 else 21:=by
 unfold i4;rw[if_neg h,if_neg (by rw[h2];simp),h3]
theorem Ag6 {n:Int} {l:List Ev} {e:Ev} (h:¬(e.d<0∨n≤e.d)) (h2:aR e=true) (h3:i3 l e=none) (h4:bY l e=false):i4 n l e=9:=by
 unfold i4;rw[if_neg h,if_neg (by rw[h2];simp),h3];simp[h4]
theorem Ag7 {n:Int} {l:List Ev} {e:Ev} (h:¬(e.d<0∨n≤e.d)) (h2:aR e=true) (h3:i3 l e=none) (h4:bY l e=true) (h5:512≤l.length):i4 n l e=8:=by
 unfold i4;rw[if_neg h,if_neg (by rw[h2];simp),h3];simp[h4,h5]
theorem Ag8 {n:Int} {l:List Ev} {e:Ev} (h:¬(e.d<0∨n≤e.d)) (h2:aR e=true) (h3:i3 l e=none) (h4:bY l e=true) (h5:¬512≤l.length):i4 n l e=0:=by
 unfold i4;rw[if_neg h,if_neg (by rw[h2];simp),h3];simp[h4];omega
theorem Ag9 {n:Int} {l:List Ev} {e:Ev}:bI n l e=true↔¬(e.d<0∨n≤e.d)∧aR e=true∧i3 l e=none∧bY l e=true∧¬512≤l.length:=by
 unfold bI;by_cases h:e.d<0∨n≤e.d
 ·simp[Ag3 h,h]
 ·cases h2:aR e
  ·simp[Ag4 h h2]
  ·cases h3:i3 l e with
   |some x=>simp
   |none=>
    cases h4:bY l e
    ·simp[Ag6 h h2 h3 h4]
    ·by_cases h5:512≤l.length
     ·simp[Ag7 h h2 h3 h4 h5,h5]
     ·simp[Ag8 h h2 h3 h4 h5,h,h5]
theorem Ah0 {n:Int} {l:List Ev} {e:Ev} (h:bI n l e=true):aS n l e=l ++ [e]:=by unfold aS;rw[if_pos h]
theorem vH {n:Int} {l:List Ev} {e:Ev} (h:bI n l e=false):aS n l e=l:=by unfold aS;rw[if_neg (by rw[h];simp)]
theorem Ah1 {n:Int} {l:List Ev} (hI:W9 n l) (e:Ev):W9 n (aS n l e):=by
 cases h:bI n l e
 ·rw[vH h];exact hI
 ·rw[Ah0 h]
  rw[Ag9,AQ1,vG]at h;obtain⟨h1,h2,h3,h4,h5⟩:=h;refine⟨?_,?_,?_,?_,by simp;omega⟩
  ·intro x hx
   rcases List.mem_append.1 hx with hx|hx
   ·exact hI.rng x hx
   ·simp at hx;subst hx;exact⟨by omega,by omega,h2⟩
  ·intro x hx y hy hs
   rcases List.mem_append.1 hx with hx'|hx'<;>rcases List.mem_append.1 hy with hy'|hy'
   ·exact hI.keys x hx' y hy' hs
   ·simp at hy';subst hy';rw[h3 x hx']at hs;cases hs
   ·simp at hx';subst hx';have:=h3 y hy';rw[AQ0 hs]at this;cases this
   ·simp at hx' hy';rw[hx',hy']
  ·intro x hx y hy
   rcases List.mem_append.1 hx with hx'|hx'<;>rcases List.mem_append.1 hy with hy'|hy'
   ·exact hI.time x hx' y hy'
   ·simp at hy';subst hy';exact h4 x hx'
   ·simp at hx';subst hx';exact AP7 (h4 y hy')
   ·simp at hx' hy';rw[hx',hy'];exact AP8 e
  ·rw[List.nodup_append]
   refine⟨hI.nodup,by simp,fun x hx y hy hxy=>?_⟩;simp at hy;subst hy;subst hxy;have:=h3 _ hx;rw[AP9]at this;cases this
theorem vI:∀(a b:List Int),a.Nodup→(∀x∈a,x∈b)→a.length≤b.length
 |[],b,_,_ =>by simp
 |x :: a,b,hn,hs=>by
  have hx:=hs x (by simp);have h1:=vI a (b.erase x) (List.nodup_cons.1 hn).2 (fun y hy=>by
   have hne:y≠x:=fun e=>(List.nodup_cons.1 hn).1 (e ▸ hy);exact(List.mem_erase_of_ne hne).2 (hs y (by simp[hy])))
  have h2:=List.length_erase_of_mem hx;have h3:0<b.length:=List.length_pos_of_mem hx;simp only[List.length_cons];omega
def bJ (l:List Ev) (d s:Int):Bool:=l.any fun x=>decide (x.d=d) && decide (x.q=s)
theorem mW (l:List Ev) (d s:Int):bJ l d s=true↔∃x∈l,x.d=d∧x.q=s:=by simp[bJ]
theorem AQ2 {l:List Ev} {d:Int} {m:Nat} (h:∀i:Nat,i<m→bJ l d ((i:Int)+1)=true):m≤l.length:=by
 have h1:=vI ((List.range m).map fun(i:Nat)=>(i:Int)+1) (l.map (·.q)) (by
  rw[List.nodup_iff_pairwise_ne,List.pairwise_map];exact List.nodup_range.imp fun h=>by omega) (fun x hx=>by
  obtain⟨i,hi,rfl⟩:=List.mem_map.1 hx;obtain⟨y,hy,_,hq⟩:=(mW _ _ _).1 (h i (List.mem_range.1 hi));exact List.mem_map.2 ⟨y,hy,hq⟩)
 simpa using h1
def bZ (l:List Ev) (d:Int):Nat→Nat
 |0=>0
 |f+1=>if bZ l d f<f then bZ l d f else if bJ l d ((f:Int)+1)then f+1 else f
def J9 (l:List Ev) (d:Int):Nat:=bZ l d l.length
theorem qC (l:List Ev) (d:Int):∀f,bZ l d f≤f∧(∀i,i<bZ l d f→bJ l d ((i:Int)+1)=true)∧(bZ l d f<f→bJ l d ((bZ l d f:Int)+1)=false)
 |0=>⟨Nat.le_refl _,fun i hi=>by simp[bZ]at hi,fun h=>by simp[bZ]at h⟩
 |f+1=>by
  obtain⟨h1,h2,h3⟩:=qC l d f;unfold bZ;by_cases hlt:bZ l d f<f
  ·rw[if_pos hlt];exact⟨by omega,h2,fun _ =>h3 hlt⟩
  ·have he:bZ l d f=f:=by omega
   rw[if_neg hlt]
   cases hh:bJ l d ((f:Int)+1)
   ·rw[if_neg (by simp)]
    exact⟨by omega,fun i hi=>h2 i (by omega),fun _ =>hh⟩
   ·rw[if_pos rfl]
    refine⟨by omega,fun i hi=>?_,fun h=>by omega⟩;by_cases hif:i<f
    ·exact h2 i (by omega)
    ·obtain rfl:i=f:=by omega
     exact hh
theorem qD (l:List Ev) (d:Int) (i:Nat) (h:i<J9 l d):bJ l d ((i:Int)+1)=true:=(qC l d _).2.1 i h
theorem Ah2 (l:List Ev) (d:Int):bJ l d ((J9 l d:Int)+1)=false:=by
 obtain⟨h1,h2,h3⟩:=qC l d l.length;by_cases h:bZ l d l.length<l.length
 ·exact h3 h
 ·cases hh:bJ l d ((J9 l d:Int)+1)
  ·rfl
  ·exfalso
   have:=AQ2 (l:=l) (d:=d) (m:=l.length+1) (fun i hi=>by
    by_cases hil:i<l.length
    ·exact h2 i (by omega)
    ·have e:i=J9 l d:=by unfold J9;omega
     rw[e];exact hh)
   omega
theorem Ah3 (l:List Ev) (d:Int):J9 l d≤l.length:=(qC l d _).1
def gN (n:Nat) (l:List Ev):List Int:=(List.range n).map fun(d:Nat)=>(J9 l (d:Int):Int)
theorem Ah4 (n:Nat) (l:List Ev):(gN n l).length=n:=by simp[gN]
theorem Ah5 {n d:Nat} (l:List Ev) (h:d<n):B2 (gN n l) d=J9 l (d:Int):=by
 unfold B2 gN;simp[A5,h]
end
section
def cC (l:List Ev) (d s:Int):Int:=match l.find? (fun x=>decide (x.d=d) && decide (x.q=s))with|some x=>x.a|none=>0
theorem AQ3 {n:Int} {l:List Ev} (hI:W9 n l) {x:Ev} (hx:x∈l) {d s:Int} (hd:x.d=d) (hs:x.q=s):cC l d s=x.a:=by
 unfold cC
 cases h:l.find? (fun x=>decide (x.d=d) && decide (x.q=s))with
 |none=>
  rw[List.find?_eq_none]at h
  have:=h x hx
  simp[hd,hs]at this
 |some y=>
  have h1:=List.mem_of_find?_eq_some h
  have h2:=List.find?_some (p:=fun x:Ev=>decide (x.d=d) && decide (x.q=s)) h
  simp at h2
  have:=hI.keys y h1 x hx ((gM _ _).2 ⟨by omega,by omega⟩)
  rw[this]
theorem qE {n:Int} {l:List Ev} (hI:W9 n l) {d:Int} (h:0<J9 l d):∃x∈l,x.d=d∧x.q=(J9 l d:Int)∧cC l d (J9 l d)=x.a:=by
 have h1:=qD l d (J9 l d-1) (by omega);obtain⟨x,hx,h2,h3⟩:=(mW _ _ _).1 h1;have h4:x.q=(J9 l d:Int):=by omega
 exact⟨x,hx,h2,h4,AQ3 hI hx h2 h4⟩
def j8 (l:List Ev):Nat→Int
 |0=>4294943999
 |k+1=>min (j8 l k) (cC l (k:Int) (J9 l (k:Int)))
def gO (n:Nat) (l:List Ev):Bool:=(List.range n).any fun d=>decide (J9 l (d:Int)=0)
theorem vJ (n:Nat) (l:List Ev):gO n l=true↔∃d:Nat,d<n∧J9 l (d:Int)=0:=by simp[gO]
theorem mX {n:Nat} {l:List Ev}:gO n l=false↔∀d:Nat,d<n→0<J9 l (d:Int):=by
 cases h:gO n l
 ·simp only[true_iff]
  intro d hd;rcases Nat.eq_zero_or_pos (J9 l (d:Int))with h0|h0
  ·have:=(vJ n l).2 ⟨d,hd,h0⟩;rw[h]at this;cases this
  ·exact h0
 ·obtain⟨d,hd,h0⟩:=(vJ n l).1 h
  simp only[Bool.true_eq_false,false_iff];intro hh;have:=hh d hd;omega
def hor (n:Nat) (l:List Ev):Int:=if gO n l then 0 else j8 l n
theorem AQ4 {l:List Ev} {n d:Nat} (h:d<n):j8 l n≤cC l (d:Int) (J9 l (d:Int)):=by
 induction n with
 |zero=>omega
 |succ n ih=>
  unfold j8
  by_cases hd:d<n
  ·have:=ih hd;omega
  ·obtain rfl:d=n:=by omega
   omega
theorem AQ5 {N:Int} {l:List Ev} (hI:W9 N l) {n:Nat} (h:∀d:Nat,d<n→0<J9 l (d:Int)):0≤j8 l n:=by
 induction n with
 |zero=>unfold j8;omega
 |succ n ih=>
  obtain⟨x,hx,_,_,ha⟩:=qE hI (h n (by omega))
  have h1:=(iX x).1 (hI.rng x hx).2.2
  have h2:=ih (fun d hd=>h d (by omega))
  unfold j8;omega
theorem AQ6 {N:Int} {l:List Ev} (hI:W9 N l) (n:Nat):0≤hor n l:=by
 unfold hor
 cases h:gO n l
 ·rw[if_neg (by simp)];exact AQ5 hI (mX.1 h)
 ·rw[if_pos rfl];omega
theorem Ah6 {l m:List Ev} (h:∀x∈l,x∈m) (d:Int):J9 l d≤J9 m d:=by
 rcases Nat.lt_or_ge (J9 m d) (J9 l d)with hlt|hge
 ·have h1:=qD l d _ hlt
  obtain⟨x,hx,e⟩:=(mW _ _ _).1 h1;have:=Ah2 m d;rw[(mW _ _ _).2 ⟨x,h x hx,e⟩]at this;cases this
 ·exact hge
theorem AQ7 {N:Int} {n:Nat} {l m:List Ev} (hl:W9 N l) (hm:W9 N m) (h:∀x∈l,x∈m):hor n l≤hor n m:=by
 cases h1:gO n l
 ·have hp:=mX.1 h1
  have hq:∀d:Nat,d<n→0<J9 m (d:Int):=fun d hd=>by have:=hp d hd;have:=Ah6 h (d:Int);omega
  have h2:=mX.2 hq;unfold hor;rw[h1,h2,if_neg (by simp),if_neg (by simp)];clear h1 h2;induction n with
  |zero=>exact Int.le_refl _
  |succ n ih=>
   have:=ih (fun d hd=>hp d (by omega)) (fun d hd=>hq d (by omega))
   unfold j8
   obtain⟨x,hx,x1,x2,x3⟩:=qE hl (hp n (by omega))
   obtain⟨y,hy,y1,y2,y3⟩:=qE hm (hq n (by omega))
   have hsm:=Ah6 h (n:Int)
   have:x.a≤y.a:=by
    by_cases he:J9 l (n:Int)=J9 m (n:Int)
    ·have:=hm.keys x (h x hx) y hy ((gM _ _).2 ⟨by omega,by omega⟩)
     rw[this];omega
    ·exact(mV.1 (hm.time x (h x hx) y hy)).1 (by omega) (by omega)
   omega
 ·have:=AQ6 hm n
  unfold hor;rw[h1,if_pos rfl];exact this
def eH (seen:List Int) (d:Int):Int:=if d<(seen.length:Int)then B2 seen d.toNat else 0
def t6 (seen:List Int) (x:Ev):Bool:=decide (eH seen x.d<x.q)
def mY (l:List Ev) (seen:List Int):List Ev:=J3 (l.filter (t6 seen))
theorem AQ8 {N:Int} {l:List Ev} (hI:W9 N l):mY l []=J3 l:=by
 unfold mY;rw[List.filter_eq_self.2 fun x hx=>?_];have:=(iX x).1 (hI.rng x hx).2.2;have h0:=(hI.rng x hx).1;unfold t6 eH;rw[if_neg (by simp;omega)];simp;omega
structure qF (W l:List Ev):Prop where
 sub:∀x∈l,x∈W
 nodup:l.Nodup
theorem Ah7:∀(a b:List Ev),a.Nodup→(∀x∈a,x∈b)→a.length≤b.length
 |[],b,_,_ =>by simp
 |x :: a,b,hn,hs=>by
  have hx:=hs x (by simp);have h1:=Ah7 a (b.erase x) (List.nodup_cons.1 hn).2 (fun y hy=>by
   have hne:y≠x:=fun e=>(List.nodup_cons.1 hn).1 (e ▸ hy);exact(List.mem_erase_of_ne hne).2 (hs y (by simp[hy])))
  have h2:=List.length_erase_of_mem hx;have h3:0<b.length:=List.length_pos_of_mem hx;simp only[List.length_cons];omega
theorem vK {N:Int} {W l:List Ev} (hW:W9 N W) (h:qF W l):W9 N l:=
 ⟨fun x hx=>hW.rng x (h.sub x hx),fun x hx y hy=>hW.keys x (h.sub x hx) y (h.sub y hy),fun x hx y hy=>hW.time x (h.sub x hx) y (h.sub y hy),h.nodup,by
  have:=Ah7 l W h.nodup h.sub;have:=hW.len;omega⟩
theorem AQ9 {N:Int} {n:Nat} (hN:N=n) {W l:List Ev} (hW:W9 N W) (h:qF W l) {x:Ev} (hx:x∈W) (hn:x∉l):hor n l≤x.a:=by
 have hr:=hW.rng x hx;have h1:=(iX x).1 hr.2.2;unfold hor
 cases hz:gO n l
 ·rw[if_neg (by simp)]
  have hp:=mX.1 hz;obtain⟨d,hd⟩:∃d:Nat,x.d=d:=⟨x.d.toNat,by omega⟩
  have hdn:d<n:=by omega
  obtain⟨y,hy,y1,y2,y3⟩:=qE (vK hW h) (hp d hdn);have hle:=AQ4 (l:=l) hdn;rw[y3]at hle;have hq:(J9 l (d:Int):Int)<x.q:=by
   rcases Int.lt_or_le (J9 l (d:Int):Int) x.q with h'|h'
   ·exact h'
   ·exfalso
    have:=qD l (d:Int) (x.q.toNat-1) (by omega);obtain⟨z,hz1,z1,z2⟩:=(mW _ _ _).1 this;have:=hW.keys z (h.sub z hz1) x hx ((gM _ _).2 ⟨by omega,by omega⟩);subst this;exact hn hz1
  have:=(mV.1 (hW.time y (h.sub y hy) x hx)).1 (by omega) (by omega);omega
 ·rw[if_pos rfl];omega
end
section
open Go.RowKit Go.ChangeMaps
def gP (x:Int×Int):Value:=.agg #[.int .i64 x.1,.int .i64 x.2]
theorem qG:V6 Tryz.prog 122 gP false where
 chk em w x:=by
  unfold gP;obtain⟨N,hN⟩:∃N,10000=N+2:=⟨9998,rfl⟩
  rw[hN];simp[Instr.checkKey,Sem.run_bind,run_underlying Tryz.underlying122,run_underlying Tryz.underlying3,go_sem]
 eq w x y:=by
  have hS:Tryz.prog.underlying 122=some (.struct (Tryz.prog.fieldsOf 122)):=by kernel_rfl
  have hp:Tryz.prog.stoodInHeld 122=false:=by kernel_rfl
  have u3:=Tryz.underlying3;have a3:=Tryz.isAgg3;have z3:=Tryz.sizeOf3;unfold gP;show(Op.equalIn (9999+1) _ _ _).run _ _ = _;rw[run_equalIn_struct w 9999 122 _ _ hS hp];simp only[Program.fieldsOf,Tryz.underlying122];go_simp;by_cases h1:x.1=y.1<;>by_cases h2:x.2=y.2<;>simp[h1,h2,Prod.ext_iff]
 und:=⟨_,Tryz.underlying122,fun x y=>rfl⟩
 bits x:=by
  unfold gP;rw[show(10000:Nat)=9999+1 from rfl];simp[Instr.sameBits]
def U0 (e:Ev):(Int×Int)×Value:=((e.d,e.q),e.ag)
structure R8 (w:World) (p bm:Nat) (n:Int) (l:List Ev):Prop where
 c0:w.cell? ⟨p,0,none⟩=some (.int .i64 n)
 c1:w.cell? ⟨p,1,none⟩=some (.map (some bm))
 m:F6 gP w bm (l.map U0)
theorem R8.lt {w:World} {p bm:Nat} {n:Int} {l:List Ev} (h:R8 w p bm n l):p<w.heap.size∧bm<w.heap.size:=
 ⟨World.block_lt_of_cell? w _ h.c0,(Array.getElem?_eq_some_iff.1 h.m).1⟩
theorem R8.since {w:World} {p bm:Nat} {n:Int} {l:List Ev} (h:R8 w p bm n l) (y:A6 w):R8 y.w p bm n l:=
 ⟨A6.cell h.c0 h.lt.1 y,A6.cell h.c1 h.lt.1 y,A6.heap h.m y⟩
theorem R8.to {w W:World} {p bm:Nat} {n:Int} {l:List Ev} (h:R8 w p bm n l) (hW:∃z:A6 w,W=z.w):R8 W p bm n l:=by
 obtain⟨z,rfl⟩:=hW;exact h.since z
theorem AR0 {w:World} {b o:Nat} {v:Value} {es:Array MapEntry} {c:Nat} (h:w.heap[b]? =some (.map es c)) (hc:w.cell? ⟨b,o,none⟩=some v):False:=by
 simp[World.cell?,h]at hc
theorem R8.ne {w:World} {p bm bm':Nat} {n:Int} {l:List Ev} {es:Array MapEntry} {c:Nat} (h:R8 w p bm n l) (h':w.heap[bm']? =some (.map es c)):p≠bm':=by
 rintro rfl;exact AR0 h' h.c0
theorem R8.keep {w w':World} {p bm bm':Nat} {n:Int} {l:List Ev} {es:Array MapEntry} {c:Nat} (h:R8 w p bm n l) (h':w.heap[bm']? =some (.map es c)) (hne:bm≠bm') (hg:w.grownBy w' (some bm')):R8 w' p bm n l:=by
 have hp:=hg.block p h.lt.1 (by simpa using h.ne h');have hb:=hg.block bm h.lt.2 (by simpa using hne);exact⟨by rw[World.cell?_of_block (w:=w) (a:=⟨p,0,none⟩) hp];exact h.c0,by rw[World.cell?_of_block (w:=w) (a:=⟨p,1,none⟩) hp];exact h.c1,hb.trans h.m⟩
abbrev Ah8 (w:World) (a:Option Addr) (l:List Ev):Prop:=D0 Ev.cs 9 w a l
theorem U5 (x:Ev):x.cs.length=9:=rfl
theorem qH (e:Ev):∀(l:List Ev) (i:Nat),(D8 (e.d,e.q) (l.map U0) i).map (·.2)=(i3 l e).map fun x=>x.ag
 |[],_ =>rfl
 |x :: l,i=>by
  simp only[List.map_cons,D8,i3,List.find?_cons];by_cases h:(e.d,e.q)=(U0 x).1
  ·have hs:sk x e=true:=by rw[gM];simp[U0]at h;omega
   rw[if_pos h,hs];rfl
  ·have hs:sk x e=false:=by
    cases hh:sk x e
    ·rfl
    ·rw[gM]at hh;exact(h (by simp[U0,hh.1,hh.2])).elim
   rw[if_neg h,hs];exact qH e l (i+1)
theorem AR1 {e:Ev} {l:List Ev} (h:i3 l e=none):D8 (e.d,e.q) (l.map U0) 0=none:=by
 have:=qH e l 0;rw[h]at this;simpa using this
theorem Ah9 (e:Ev) (l:List Ev):eE (e.d,e.q) (l.map U0)=(i3 l e).isSome:=by
 have:=qH e l 0;unfold eE
 cases h:i3 l e<;>rw[h]at this<;>cases h2:D8 (e.d,e.q) (l.map U0) 0<;>rw[h2]at this<;>simp_all
theorem Ai0 (e:Ev) (l:List Ev) (z:Value):N7 (e.d,e.q) (l.map U0) z=match i3 l e with|some x=>x.ag|none=>z:=by
 have:=qH e l 0;unfold N7
 cases h:i3 l e<;>rw[h]at this<;>cases h2:D8 (e.d,e.q) (l.map U0) 0<;>rw[h2]at this<;>simp_all
def iY (w:World) (n:Int) (e:Ending) (w':World):Prop:=
 if 1≤n∧n≤256 then∃(p bm:Nat) (y:A6 w),e= .returned (.tuple #[.pointer (some ⟨p,0,none⟩),.int .i64 0])∧w'=y.w∧w.heap.size≤p∧w.heap.size≤bm∧R8 y.w p bm n []
 else e= .returned (.tuple #[.pointer none,.int .i64 1])∧∃y:A6 w,w'=y.w
theorem AR2 (w:World) (x:A6 w) (n:Int):
 Calls Tryz.prog 14 #[.int .i64 n] x.w (iY w n):=by
 by_cases hn:1≤n∧n≤256
 ·have hm:iY w n=fun e w'=>∃(p bm:Nat) (y:A6 w),e= .returned (.tuple #[.pointer (some ⟨p,0,none⟩),.int .i64 0])∧w'=y.w∧w.heap.size≤p∧w.heap.size≤bm∧R8 y.w p bm n []:=by funext e w';unfold iY;rw[if_pos hn]
  obtain⟨h1,h2⟩:=hn;have HM:=A2 hm;clear hm;have hmm:=@run_makeMap Tryz.prog;go_enter Tryz.func14,Tryz.ntmps14;go_wp2_with fail;rw[HM.out];go_ret2
  obtain⟨y,e⟩:=A6.allocs x [.map #[] 0,.cells #[.int .i64 n,.map (some x.w.heap.size)] 120];simp only[List.foldl_cons,List.foldl_nil]at e;refine⟨_,_,y,rfl,e,?_,x.b.size,?_⟩
  ·have:=x.b.size;omega
  ·rw[←e]
   refine⟨by simp[go_sem],by simp[go_sem],?_⟩;show(((x.w.heap.push _).push _)[x.w.heap.size]?)= _;simp[I3,Array.getElem?_push]
 ·have hm:iY w n=fun e w'=>e= .returned (.tuple #[.pointer none,.int .i64 1])∧∃y:A6 w,w'=y.w:=by funext e w';unfold iY;rw[if_neg hn]
  have HM:=A2 hm;clear hm;rcases(by omega:n<1∨(1≤n∧256<n))with h|⟨h,h'⟩
  all_goals
   clear hn;go_enter Tryz.func14,Tryz.ntmps14;go_wp2_with fail;rw[HM.out];go_ret2
   exact⟨rfl,x,rfl⟩
end
section
open Go.RowKit Go.ChangeMaps
theorem AR3 {l:List Ev} {i:Nat} {x e:Ev} (hi:l[i]? =some x) (h:late x e=true):bY l e=false:=by
 cases hf:bY l e
 ·rfl
 ·have:=(vG l e).1 hf x (A0 hi)
  rw[h]at this;cases this
theorem AR4 {l:List Ev} {e:Ev} {seen:Array Nat} (h:∀i,i<l.length→i∈seen) (hs:∀i∈seen,∀x,l[i]? =some x→late x e=false):bY l e=true:=by
 rw[vG];intro x hx;obtain⟨i,hi⟩:=List.mem_iff_getElem?.1 hx;exact hs i (h i (A4 hi).1) x hi
theorem AR5 (w:World) (x:A6 w) (p bm:Nat) (n:Int) (l:List Ev) (e:Ev) (hR:R8 w p bm n l):
 Calls Tryz.prog 43 #[.pointer (some ⟨p,0,none⟩),e.ag] x.w fun o w'=>o= .returned (.bool (bY l e))∧∃y:A6 w,w'=y.w:=by
 have hev:e.ag= .agg #[.int .i64 e.d,.int .i64 e.q,.int .i64 e.a,.int .i64 e.t,.int .i64 e.k,.int .i64 e.b,.int .i64 e.p,.int .i64 e.r,.int .i64 e.i]:=rfl;rw[hev];go_enter Tryz.func43,Tryz.ntmps43;go_upto_region 1 with fail;obtain⟨W,bx,y0,hW,hbx,-,B8,Hup,Hbx,HB0⟩:=J8 x [.int .i64 e.d,.int .i64 e.q,.int .i64 e.a,.int .i64 e.t,.int .i64 e.k,.int .i64 e.b,.int .i64 e.p,.int .i64 e.r,.int .i64 e.i] 63;rw[hW,hbx];clear hW hbx;obtain⟨D7,D9,E3,E5,F3,I0,K9,O5,O6,hf0⟩:=j2 HB0;clear HB0;replace hR:=hR.to B8;clear B8;have hc1:∀y:A6 W,y.w.cell? ⟨p,1,none⟩=some (.map (some bm)):=fun y=>(hR.since y).c1;have hml:(l.map U0).length=l.length:=by simp
 have Hml:=A2 hml;clear hml;go_wp2_with(at_range;refine Aa3 (w0:=W) ⟨_,rfl⟩ rfl _ _ rfl Tryz.underlying118 rfl (hR.since _).m ?_;intro q r hm hit hr0 hrs hgr);have hM:=hR.m;clear hm hrs hgr;go_frame
 go_loopw [6] (fun _ wr=>∃(seen:Array Nat) (y:A6 W),wr=y.w∧L5 wr bm r (l.map U0).length seen∧o7 (l.map U0).length seen∧∀i∈seen,∀x,l[i]? =some x→late x e=false) (fun _ wr=>dK wr r)
 case atStart=>exact⟨#[],q,rfl,hit,tR _,fun i hi=>by simp at hi⟩
 case round=>
  clear hit;obtain⟨seen,y,rfl,hit,hso,hall⟩:=hrel;have iG:=A2 hall;clear hall;have Hit:=A2 hit;have Hso:=A2 hso;go_wp2_with(at_next;refine Aa4 (w0:=W) ⟨_,rfl⟩ rfl _ rfl hr0 rfl (hM.since _) hit hso ?_ ?_)
  ·intro hdone
   have hres:=A2 (AR4 hdone iG.out);clear hdone;go_wp2_with fail;go_ret;exact⟨F9 hres.out.symm,Hup.out _⟩
  ·intro i a b v q x hi hev hn hm hit2 iI hgr hen
   simp only[U0,Prod.mk.injEq]at hev;obtain⟨⟨rfl,rfl⟩,rfl⟩:=hev;simp only[gP,Ev.ag]at hen⊢;clear hm hgr;have lN:=A2 hit2;have eU:=A2 iI;clear hit2 iI;have Hi:=A2 hi;clear hi;go_upto_region 4 with fail;obtain⟨y2,e2,C5,hsz0,hlt0,HX0⟩:=L9 q [.int .i64 x.d,.int .i64 x.q,.int .i64 x.a,.int .i64 x.t,.int .i64 x.k,.int .i64 x.b,.int .i64 x.p,.int .i64 x.r,.int .i64 x.i] 63;rw[e2];obtain⟨hx0,hx1,hx2,hx3,hx4,hx5,hx6,hx7,hx8,hxf⟩:=fY HX0;have hit3:=A2 ((lN.out).to C5);clear e2 C5;generalize q.w.heap.size=g at *;obtain⟨E9,G1,J4,I9,M8,O9,S2,S9,T0,G8⟩:=j2 HX0;have I5:=A2 (And.intro hsz0 hlt0);clear hlt0 hsz0 HX0;go_wp2_with fail;all_goals first
    |(refine⟨⟨seen.push i,y2,rfl,by rw[Hml.out];exact hit3.out,by rw[Hml.out];exact eU.out,fun j hj z hz=>?_⟩,pD Hit.out (by rw[Hml.out];exact hit3.out) (by rw[Hml.out];exact eU.out)⟩;rcases Array.mem_push.1 hj with hj|rfl;(exact iG.out j hj z hz);(have hzx:=Hi.out.symm.trans hz);cases hzx;rw[mV];exact⟨fun h1 h2=>by omega,fun h1 h2=>by omega⟩)
    |(go_ret;exact⟨F9 (AR3 Hi.out ((vF x e).2 ⟨by omega,by omega⟩)).symm,by obtain⟨u,hu⟩:=Hup.out y2;exact⟨u,hu⟩⟩)
end
section
open Go.RowKit Go.ChangeMaps
def aT (w:World) (p bm:Nat) (n:Int) (l:List Ev) (e:Ev) (o:Ending) (w':World):Prop:=
 o= .returned (.tuple #[.bool (bI n l e),.int .i64 (i4 n l e)])∧w.grownBy w' (some bm)∧R8 w' p bm n (aS n l e)
theorem aT.fail {w w':World} {p bm:Nat} {n:Int} {l:List Ev} {e:Ev} (k:Int) (hk:i4 n l e=k) (hf:bI n l e=false) (hR:R8 w p bm n l) (h:∃z:A6 w,w'=z.w):aT w p bm n l e (.returned (.tuple #[.bool false,.int .i64 k])) w':=by
 obtain⟨z,rfl⟩:=h;exact⟨by rw[hk,hf],(A6.grownBy z).but _,by rw[vH hf];exact hR.since z⟩
theorem aT.done {w w5 wq:World} {p bm:Nat} {n:Int} {l:List Ev} {e:Ev} (hk:i4 n l e=0) (hf:bI n l e=true) (hq:∃z:A6 w,wq=z.w) (hR:R8 wq p bm n l) (hm:F6 gP w5 bm (l.map U0 ++ [((e.d,e.q),e.ag)])) (hg:wq.grownBy w5 (some bm)):
 aT w p bm n l e (.returned (.tuple #[.bool true,.int .i64 0])) w5:=by
 obtain⟨z,rfl⟩:=hq;have hp:=hg.block p hR.lt.1 (by simpa using hR.ne hR.m);refine⟨by rw[hk,hf],((A6.grownBy z).but (some bm)).trans hg,?_⟩;rw[Ah0 hf];refine⟨by rw[World.cell?_of_block (w:=z.w) (a:=⟨p,0,none⟩) hp];exact hR.c0,by rw[World.cell?_of_block (w:=z.w) (a:=⟨p,1,none⟩) hp];exact hR.c1,?_⟩;rw[List.map_append];exact hm
theorem kO {n:Int} {l:List Ev} {e:Ev} (h:i4 n l e≠0):bI n l e=false:=by unfold bI;simp[h]
theorem AR6 (x y:Ev) (w:World):(Op.equalIn 10000 63 x.ag y.ag).run Tryz.prog w= .ok (decide (x=y)) w:=by
 have hS:Tryz.prog.underlying 63=some (.struct (Tryz.prog.fieldsOf 63)):=by kernel_rfl
 have hp:Tryz.prog.stoodInHeld 63=false:=by kernel_rfl
 have u3:=Tryz.underlying3;have a3:=Tryz.isAgg3;have z3:=Tryz.sizeOf3;unfold Ev.ag;rw[show(10000:Nat)=9999+1 from rfl,run_equalIn_struct w 9999 63 _ _ hS hp];simp only[Program.fieldsOf,Tryz.underlying63];go_simp;rw[show decide (x=y)=decide (x.d=y.d∧x.q=y.q∧x.a=y.a∧x.t=y.t∧x.k=y.k∧x.b=y.b∧x.p=y.p∧x.r=y.r∧x.i=y.i)from by simp only[Ev.eq_iff]];by_cases h1:x.d=y.d
 ·by_cases h2:x.q=y.q
  ·by_cases h3:x.a=y.a
   ·by_cases h4:x.t=y.t
    ·by_cases h5:x.k=y.k
     ·by_cases h6:x.b=y.b
      ·by_cases h7:x.p=y.p
       ·by_cases h8:x.r=y.r
        ·by_cases h9:x.i=y.i<;>simp[h1,h2,h3,h4,h5,h6,h7,h8,h9]
        ·simp[h1,h2,h3,h4,h5,h6,h7,h8]
       ·simp[h1,h2,h3,h4,h5,h6,h7]
      ·simp[h1,h2,h3,h4,h5,h6]
     ·simp[h1,h2,h3,h4,h5]
    ·simp[h1,h2,h3,h4]
   ·simp[h1,h2,h3]
  ·simp[h1,h2]
 ·simp[h1]
theorem AR7 (op:BinOp) (a b:Operand) (xs ys:Array Value) (w:World):(eqGuard op 63 a b (.agg xs) (.agg ys)).run Tryz.prog w= .ok () w:=run_eqGuard_agg w op 63 a b xs ys (by kernel_rfl)
theorem vL (w:World):(zeroValue 63).run Tryz.prog w= .ok (⟨0,0,0,0,0,0,0,0,0⟩:Ev).ag w:=by kernel_rfl
theorem AR8 (w:World) (x:A6 w) (p bm:Nat) (n:Int) (l:List Ev) (e:Ev) (hR:R8 w p bm n l):
 Calls Tryz.prog 15 #[.pointer (some ⟨p,0,none⟩),e.ag] x.w (aT w p bm n l e):=by
 have hag:e.ag= .agg #[.int .i64 e.d,.int .i64 e.q,.int .i64 e.a,.int .i64 e.t,.int .i64 e.k,.int .i64 e.b,.int .i64 e.p,.int .i64 e.r,.int .i64 e.i]:=rfl;have hR0:=A2 hR;rw[hag];go_enter Tryz.func15,Tryz.ntmps15;go_upto_region 1 with fail;obtain⟨W,bx,y0,hW,hbx,-,B8,Hup,Hbx,HB0⟩:=J8 x [.int .i64 e.d,.int .i64 e.q,.int .i64 e.a,.int .i64 e.t,.int .i64 e.k,.int .i64 e.b,.int .i64 e.p,.int .i64 e.r,.int .i64 e.i] 63;rw[hW,hbx];clear hW hbx;obtain⟨D7,D9,E3,E5,F3,I0,K9,O5,O6,hf0⟩:=j2 HB0;clear HB0;replace hR:=hR.to B8;clear B8;have hc0:∀y:A6 W,y.w.cell? ⟨p,0,none⟩=some (.int .i64 n):=fun y=>(hR.since y).c0;have hc1:∀y:A6 W,y.w.cell? ⟨p,1,none⟩=some (.map (some bm)):=fun y=>(hR.since y).c1;by_cases lT:e.d<0∨n≤e.d
 ·have h7:=A2 (Ag3 (l:=l) lT)
  have hfr:=A2 (kO (n:=n) (l:=l) (e:=e) (by rw[h7.out];omega));have hc:(decide (e.d<0)=true∧e.d<0)∨(decide (e.d<0)=false∧0≤e.d∧n≤e.d):=by
   by_cases h:e.d<0
   ·exact .inl ⟨decide_eq_true h,h⟩
   ·exact .inr ⟨decide_eq_false h,by omega,by omega⟩
  rcases hc with⟨hd0,h⟩|⟨hd0,h,h'⟩
  all_goals
   clear lT;go_wp2_with fail;refine K6 (by kernel_rfl) (by kernel_rfl) ?_;repeat(go_big_quiet_step(fail))
   refine wpQuiet_nil ?_;rintro _ ⟨y,rfl⟩;go_wp2_with fail;go_ret2
   exact aT.fail 7 h7.out hfr.out hR0.out (Hup.out _)
 ·obtain⟨d0,d1⟩:0≤e.d∧e.d<n:=by omega
  have hd0:decide (e.d<0)=false:=decide_eq_false (by omega);by_cases oY:aR e=false
  ·have h1:=A2 (Ag4 (l:=l) lT oY)
   have hfr:=A2 (kO (n:=n) (l:=l) (e:=e) (by rw[h1.out];omega));have hc:(e.q<1)∨(1≤e.q∧1048576<e.q)∨(1≤e.q∧e.q≤1048576∧e.a<0)∨(1≤e.q∧e.q≤1048576∧0≤e.a∧e.t<e.a)∨(1≤e.q∧e.q≤1048576∧0≤e.a∧e.a≤e.t∧4294943999<e.t):=by
    have hn:¬aR e=true:=by rw[oY];simp
    rw[iX]at hn;omega
   clear oY lT;rcases hc with h|⟨h,h'⟩|⟨h,h',h''⟩|⟨h,h',h'',h3⟩|⟨h,h',h'',h3,h4⟩
   all_goals
    go_wp2_with fail;refine K6 (by kernel_rfl) (by kernel_rfl) ?_;repeat(go_big_quiet_step(fail))
    refine wpQuiet_nil ?_;rintro _ ⟨y,rfl⟩;go_wp2_with fail;go_ret2
    exact aT.fail 1 h1.out hfr.out hR0.out (Hup.out _)
  ·have hrng':aR e=true:=by cases hh:aR e;exact(oY hh).elim;rfl
   obtain⟨r0,r1,r2,r3,r4⟩:=(iX e).1 hrng';have lM:=A2 lT;have lR:=A2 hrng';clear oY hrng' lT;have hlk:∀w',A7 W w'→(Instr.lookup 118 (.map (some bm)) (.agg #[.int .i64 e.d,.int .i64 e.q]) true).run Tryz.prog w'= .ok (.tuple #[N7 (e.d,e.q) (l.map U0) (⟨0,0,0,0,0,0,0,0,0⟩:Ev).ag,.bool (eE (e.d,e.q) (l.map U0))]) w':=fun w' hw'=>by
    obtain⟨y,rfl⟩:=hw';exact bD qG (hR.since y).m Tryz.underlying118 (vL _) (e.d,e.q) true
   rw[Ai0,Ah9]at hlk
   cases hf:i3 l e with
   |some x=>
    rw[hf]at hlk
    simp only[Option.isSome_some]at hlk
    go_wp2_with fail
    refine K6 (by kernel_rfl) (by kernel_rfl) ?_
    repeat(go_big_quiet_step(fail))
    refine wpQuiet_nil ?_
    rintro _ ⟨y,rfl⟩
    go_upto_region 8 with fail
    obtain⟨y2,e2,C5,hsz0,hlt0,HX0⟩:=L9 y [.int .i64 e.d,.int .i64 e.q] 122
    rw[e2]
    obtain⟨hk0,hk1,hkf⟩:=cQ HX0
    skip
    clear e2 C5
    generalize y.w.heap.size=g at *
    obtain⟨oK,oL,By3⟩:=o8 HX0
    have By4:=A2 (And.intro hsz0 hlt0)
    clear hlt0 hsz0 HX0
    have k0:∀w',A7 y2.w w'→w'.cell? ⟨g,0,none⟩=some (.int .i64 e.d):=fun _ h=>A7.cell oK h
    have k1:∀w',A7 y2.w w'→w'.cell? ⟨g,1,none⟩=some (.int .i64 e.q):=fun _ h=>A7.cell oL h
    have p1:∀w',A7 y2.w w'→w'.cell? ⟨p,1,none⟩=some (.map (some bm)):=fun _ h=>by obtain⟨u,rfl⟩:=h;obtain⟨z,e⟩:=y2.trans u;rw[e];exact hc1 z
    have l1:∀w',A7 y2.w w'→(Instr.lookup 118 (.map (some bm)) (.agg #[.int .i64 e.d,.int .i64 e.q]) true).run Tryz.prog w'= .ok (.tuple #[.agg #[.int .i64 x.d,.int .i64 x.q,.int .i64 x.a,.int .i64 x.t,.int .i64 x.k,.int .i64 x.b,.int .i64 x.p,.int .i64 x.r,.int .i64 x.i],.bool true]) w':=fun _ h=>by obtain⟨u,rfl⟩:=h;obtain⟨z,e⟩:=y2.trans u;rw[e];exact hlk _ ⟨z,rfl⟩
    clear hlk
    go_region_held3 (fun w'=>A7 y2.w w') (first|assumption|exact A7.drew' (A7.self _)|exact A7.drew' (A7.alloc (A7.self _) _)) (fail)
    all_goals
     go_upto_region 9 with fail;obtain⟨y3,e2,C5,hsz0,hlt0,HX0⟩:=iL y2 [.int .i64 x.d,.int .i64 x.q,.int .i64 x.a,.int .i64 x.t,.int .i64 x.k,.int .i64 x.b,.int .i64 x.p,.int .i64 x.r,.int .i64 x.i] 63;rw[e2];obtain⟨hx0,hx1,hx2,hx3,hx4,hx5,hx6,hx7,hx8,hxf⟩:=fY HX0;skip;clear e2 C5;generalize y2.w.heap.size=gx at *;obtain⟨E9,G1,J4,I9,M8,O9,S2,S9,T0,G8⟩:=j2 HX0;have I5:=A2 (And.intro hsz0 hlt0);clear hlt0 hsz0 HX0;have hne:=AR6 x e;simp only[Ev.ag]at hne;have hgd:=AR7;by_cases hxe:x=e
     ·rw[decide_eq_true hxe]at hne
      have Hxe:=A2 hxe;clear hxe;have hx0:=A2 ((Ag5 (n:=n) lM.out lR.out hf).trans (if_pos Hxe.out));have hfr:bI n l e=false:=by unfold bI;rw[hf];simp
      have Hfr:=A2 hfr;clear hfr;go_wp2_with fail;go_ret2
      exact aT.fail 0 hx0.out Hfr.out hR0.out (Hup.out _)
     ·rw[decide_eq_false hxe]at hne
      have hx0:=A2 ((Ag5 (n:=n) lM.out lR.out hf).trans (if_neg hxe));have hfr:=A2 (kO (n:=n) (l:=l) (e:=e) (by rw[hx0.out];omega));clear hxe;go_wp2_with fail;go_ret2
      exact aT.fail 21 hx0.out hfr.out hR0.out (Hup.out _)
   |none=>
    rw[hf]at hlk
    simp only[Option.isSome_none]at hlk
    go_wp2_with fail
    refine K6 (by kernel_rfl) (by kernel_rfl) ?_
    repeat(go_big_quiet_step(fail))
    refine wpQuiet_nil ?_
    rintro _ ⟨y,rfl⟩
    go_upto_region 8 with fail
    obtain⟨y2,e2,C5,hsz0,hlt0,HX0⟩:=L9 y [.int .i64 e.d,.int .i64 e.q] 122
    rw[e2]
    obtain⟨hk0,hk1,hkf⟩:=cQ HX0
    skip
    clear e2 C5
    generalize y.w.heap.size=g at *
    obtain⟨oK,oL,By3⟩:=o8 HX0
    have By4:=A2 (And.intro hsz0 hlt0)
    clear hlt0 hsz0 HX0
    have k0:∀w',A7 y2.w w'→w'.cell? ⟨g,0,none⟩=some (.int .i64 e.d):=fun _ h=>A7.cell oK h
    have k1:∀w',A7 y2.w w'→w'.cell? ⟨g,1,none⟩=some (.int .i64 e.q):=fun _ h=>A7.cell oL h
    have p1:∀w',A7 y2.w w'→w'.cell? ⟨p,1,none⟩=some (.map (some bm)):=fun _ h=>by obtain⟨u,rfl⟩:=h;obtain⟨z,e⟩:=y2.trans u;rw[e];exact hc1 z
    have l1:∀w',A7 y2.w w'→(Instr.lookup 118 (.map (some bm)) (.agg #[.int .i64 e.d,.int .i64 e.q]) true).run Tryz.prog w'= .ok (.tuple #[.agg #[.int .i64 0,.int .i64 0,.int .i64 0,.int .i64 0,.int .i64 0,.int .i64 0,.int .i64 0,.int .i64 0,.int .i64 0],.bool false]) w':=fun _ h=>by obtain⟨u,rfl⟩:=h;obtain⟨z,e⟩:=y2.trans u;rw[e];exact hlk _ ⟨z,rfl⟩
    clear hlk
    go_region_held3 (fun w'=>A7 y2.w w') (first|assumption|exact A7.drew' (A7.self _)|exact A7.drew' (A7.alloc (A7.self _) _)) (fail)
    all_goals
     go_upto_region 9 with fail;obtain⟨y3,e2,C5,hsz0,hlt0,HX0⟩:=iL y2 [.int .i64 0,.int .i64 0,.int .i64 0,.int .i64 0,.int .i64 0,.int .i64 0,.int .i64 0,.int .i64 0,.int .i64 0] 63;rw[e2];obtain⟨hx0,hx1,hx2,hx3,hx4,hx5,hx6,hx7,hx8,hxf⟩:=fY HX0;(replace oK:=A6.cellTo C5 oK);(replace oL:=A6.cellTo C5 oL)
     clear e2 C5;generalize y2.w.heap.size=gx at *;obtain⟨E9,G1,J4,I9,M8,O9,S2,S9,T0,G8⟩:=j2 HX0;have I5:=A2 (And.intro hsz0 hlt0);clear hlt0 hsz0 HX0;clear k0 k1 p1 l1;have Hf:=A2 hf;clear hf;have hlen:∀(y:A6 W) (ty:TypeId),(Builtin.len_ #[118] ty #[.map (some bm)]).run Tryz.prog y.w= .ok (.int .i64 l.length) y.w:=fun y ty=>by
      have:=AH2 (hR.since y).m Tryz.underlying118 ty;rwa[List.length_map]at this
     replace D7:∀(y:A6 y3.w),y.w.cell? ⟨bx,0,none⟩=some (.int .i64 e.d):=fun y=>by obtain⟨z,e⟩:=y3.trans y;rw[e];exact D7 z
     replace D9:∀(y:A6 y3.w),y.w.cell? ⟨bx,1,none⟩=some (.int .i64 e.q):=fun y=>by obtain⟨z,e⟩:=y3.trans y;rw[e];exact D9 z
     replace E3:∀(y:A6 y3.w),y.w.cell? ⟨bx,2,none⟩=some (.int .i64 e.a):=fun y=>by obtain⟨z,e⟩:=y3.trans y;rw[e];exact E3 z
     replace E5:∀(y:A6 y3.w),y.w.cell? ⟨bx,3,none⟩=some (.int .i64 e.t):=fun y=>by obtain⟨z,e⟩:=y3.trans y;rw[e];exact E5 z
     replace F3:∀(y:A6 y3.w),y.w.cell? ⟨bx,4,none⟩=some (.int .i64 e.k):=fun y=>by obtain⟨z,e⟩:=y3.trans y;rw[e];exact F3 z
     replace I0:∀(y:A6 y3.w),y.w.cell? ⟨bx,5,none⟩=some (.int .i64 e.b):=fun y=>by obtain⟨z,e⟩:=y3.trans y;rw[e];exact I0 z
     replace K9:∀(y:A6 y3.w),y.w.cell? ⟨bx,6,none⟩=some (.int .i64 e.p):=fun y=>by obtain⟨z,e⟩:=y3.trans y;rw[e];exact K9 z
     replace O5:∀(y:A6 y3.w),y.w.cell? ⟨bx,7,none⟩=some (.int .i64 e.r):=fun y=>by obtain⟨z,e⟩:=y3.trans y;rw[e];exact O5 z
     replace O6:∀(y:A6 y3.w),y.w.cell? ⟨bx,8,none⟩=some (.int .i64 e.i):=fun y=>by obtain⟨z,e⟩:=y3.trans y;rw[e];exact O6 z
     replace hf0:∀(y:A6 y3.w) (o:Nat),y.w.frozen? ⟨bx,o,none⟩=false:=fun y o=>by obtain⟨z,e⟩:=y3.trans y;rw[e];exact hf0 z o
     replace hR:=hR.to ⟨y3,rfl⟩;replace hc1:∀y:A6 y3.w,y.w.cell? ⟨p,1,none⟩=some (.map (some bm)):=fun y=>(hR.since y).c1;replace hlen:∀(y:A6 y3.w) (ty:TypeId),(Builtin.len_ #[118] ty #[.map (some bm)]).run Tryz.prog y.w= .ok (.int .i64 l.length) y.w:=fun y ty=>by obtain⟨z,e⟩:=y3.trans y;rw[e];exact hlen z ty
     obtain⟨q3,hq0⟩:=A6.refl y3.w;rw[hq0];clear hq0;have hfc:=AR5 y3.w q3 p bm n l e hR
     cases hfit:bY l e with
     |false=>
      rw[hfit]at hfc
      have Hfc:=A2 hfc;clear hfc
      have hx0:=A2 (Ag6 (n:=n) lM.out lR.out Hf.out hfit)
      have hfr:=A2 (kO (n:=n) (l:=l) (e:=e) (by rw[hx0.out];omega))
      clear hfit
      go_wp2_with fail
      refine Hfc.out.mono ?_
      rintro _ _ ⟨rfl,y4,rfl⟩
      go_wp2_with fail
      go_ret2
      exact aT.fail 9 hx0.out hfr.out hR0.out (by obtain⟨z,e⟩:=y3.trans y4;rw[e];exact Hup.out z)
     |true=>
      rw[hfit]at hfc
      have Hfc:=A2 hfc;clear hfc
      by_cases hfull:512≤l.length
      ·have hx0:=A2 (Ag7 (n:=n) lM.out lR.out Hf.out hfit hfull)
       have hfr:=A2 (kO (n:=n) (l:=l) (e:=e) (by rw[hx0.out];omega));clear hfit;have hd:=decide_eq_true (show(512:Int)≤(l.length:Int) by omega);go_wp2_with fail;refine Hfc.out.mono ?_;rintro _ _ ⟨rfl,y4,rfl⟩;go_wp2_with fail;go_ret2
       exact aT.fail 8 hx0.out hfr.out hR0.out (by obtain⟨z,e⟩:=y3.trans y4;rw[e];exact Hup.out z)
      ·have hx0:=A2 (Ag8 (n:=n) lM.out lR.out Hf.out hfit hfull)
       have hfr:=A2 (Ag9.2 ⟨lM.out,lR.out,Hf.out,hfit,hfull⟩);clear hfit;have hd:=decide_eq_false (show¬(512:Int)≤(l.length:Int) by omega);have hl0:l.length<512:=by omega
       clear hfull;go_wp2_with fail;refine Hfc.out.mono ?_;rintro _ _ ⟨rfl,y4,rfl⟩;go_wp2_with fail;refine Ac0 (fun w'=>∃q:A6 (y3.w),w'=q.w) [] [0,1,2,3,4,5] 6 (by kernel_rfl) (by kernel_rfl) (fun _ _ _ _ _ h=>h) (A6.drew _) ?_;simp only[List.nil_append,tX,Ab7,List.getD_cons_zero,List.getD_cons_succ];repeat(go_big_quiet_step(fail))
       refine wpQuiet_nil ?_;rintro _ ⟨q,rfl⟩;simp only[List.drop_succ_cons,List.drop_zero];go_wp2_with(at_mapUpdate;refine AH7 qG rfl _ _ _ _ rfl Tryz.underlying118 rfl (e.d,e.q) rfl e.ag rfl (hR.since _).m (AR1 Hf.out) ?_;intro w5 hm5 hg5);have hq:∃z:A6 w,q.w=z.w:=by obtain⟨z,e⟩:=y3.trans q;rw[e];exact Hup.out z
       have hRq:=hR.since q;go_wp2_with fail;go_ret2
       exact aT.done hx0.out hfr.out hq hRq hm5 hg5
theorem Ai1 (w:World) (p bm:Nat) (n:Int) (l:List Ev) (e:Ev) (hR:R8 w p bm n l):
 Calls Tryz.prog 15 #[.pointer (some ⟨p,0,none⟩),e.ag] w (aT w p bm n l e):=
 AR8 w (A6.self w) p bm n l e hR
end
end Go.Proofs.YtmmlmhnjjfnpnaaGreat
