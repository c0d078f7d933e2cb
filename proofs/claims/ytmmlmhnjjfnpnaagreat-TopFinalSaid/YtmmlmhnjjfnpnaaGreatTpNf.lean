/- Texts that belong together. -/
import Derived.Test.YtmmlmhnjjfnpnaaGreatTpNa
set_option linter.all false
namespace Go.Proofs.YtmmlmhnjjfnpnaaGreat
section
open Go.RowKit
structure B3 where
 f:Int
 t:Int
deriving DecidableEq
def B3.cs (x:B3):List Value:=[.int .i64 x.f,.int .i64 x.t]
theorem B3.len (x:B3):x.cs.length=2:=rfl
theorem eF (x:B3):∀u∈x.cs,u.oneCell'=true:=by
 intro u hu;simp[B3.cs]at hu;rcases hu with h|h<;>subst h<;>rfl
instance:Inhabited B3:=⟨⟨0,0⟩⟩
abbrev P4 (w:World) (a:Option Addr) (l:List B3):Prop:=D0 B3.cs 2 w a l
structure AK6 (w:World) (b o:Nat) (e:B3):Prop where
 c0:∀y:A6 w,y.w.cell? ⟨b,o,none⟩=some (.int .i64 e.f)
 c1:∀y:A6 w,y.w.cell? ⟨b,o+1,none⟩=some (.int .i64 e.t)
theorem D0.win {w:World} {a:Option Addr} {l:List B3} (h:D0 B3.cs 2 w a l) {k:Nat} {x:B3} (hk:l[k]? =some x):∃b off,a=some ⟨b,off,none⟩∧AK6 w b (off+k*2) x:=by
 obtain⟨b,off,ha,hb,hc⟩:=h k x hk;refine⟨b,off,ha,?_⟩;have hh:∀j v,x.cs[j]? =some v→∀y:A6 w,y.w.cell? ⟨b,off+k*2+j,none⟩=some v:=fun j v hv=>A6.cell (hc j v hv) hb;exact⟨hh 0 _ rfl,hh 1 _ rfl⟩
def V7 (x:B3):Bool:=decide (0≤x.f) && decide (x.f≤x.t) && decide (x.t≤4294944000)
theorem gE (x:B3):V7 x=true↔0≤x.f∧x.f≤x.t∧x.t≤4294944000:=by simp[V7,and_assoc]
def O0 (t:Int) (x:B3):Bool:=decide (x.f≤t) && decide (t<x.t)
theorem j6 (t:Int) (x:B3):O0 t x=true↔x.f≤t∧t<x.t:=by simp[O0]
def C9 (l:List B3) (t:Int):Bool:=l.any (O0 t)
theorem fB {l:List B3} {t:Int}:C9 l t=true↔∃x∈l,x.f≤t∧t<x.t:=by simp[C9,List.any_eq_true,j6]
theorem iP (t:Int):C9 [] t=false:=rfl
theorem gF (x:B3) (l:List B3) (t:Int):C9 (x :: l) t=(O0 t x || C9 l t):=rfl
theorem fC (l m:List B3) (t:Int):C9 (l ++ m) t=(C9 l t || C9 m t):=by simp[C9]
theorem fD (x:B3) (t:Int):C9 [x] t=O0 t x:=by simp[C9]
theorem AK7 {l m:List B3} (h:l.Perm m) (t:Int):C9 l t=C9 m t:=by
 rw[Bool.eq_iff_iff,fB,fB];constructor<;>rintro⟨x,hx,hh⟩
 ·exact⟨x,h.mem_iff.1 hx,hh⟩
 ·exact⟨x,h.mem_iff.2 hx,hh⟩
structure K7 (l:List B3):Prop where
 v:∀x∈l,0≤x.f∧x.f<x.t∧x.t≤4294944000
 s:l.Pairwise fun a b=>a.t<b.f
theorem uF:K7 []:=⟨fun x h=>(by cases h),List.Pairwise.nil⟩
theorem K7.tail {x:B3} {l:List B3} (h:K7 (x :: l)):K7 l:=⟨fun y hy=>h.v y (by simp[hy]),(List.pairwise_cons.1 h.s).2⟩
theorem K7.hd {x:B3} {l:List B3} (h:K7 (x :: l)):∀y∈l,x.t<y.f:=(List.pairwise_cons.1 h.s).1
theorem K7.drop {l:List B3} (h:K7 l) (k:Nat):K7 (l.drop k):=⟨fun y hy=>h.v y (List.mem_of_mem_drop hy),h.s.sublist (List.drop_sublist k l)⟩
theorem K7.snoc {l:List B3} {x:B3} (h:K7 l) (hx:0≤x.f∧x.f<x.t∧x.t≤4294944000) (hs:∀y∈l,y.t<x.f):K7 (l ++ [x]):=
 ⟨fun y hy=>by
  rcases List.mem_append.1 hy with h1|h1
  ·exact h.v y h1
  ·simp at h1;subst h1;exact hx,List.pairwise_append.2 ⟨h.s,by simp,fun a ha b hb=>by simp at hb;subst hb;exact hs a ha⟩⟩
theorem Ad8:∀{u v:List B3},K7 u→K7 v→(∀t,C9 u t=C9 v t)→u=v
 |[],[],_,_,_ =>rfl
 |[],y :: v,_,hv,h=>by
  have:=h y.f;rw[iP,gF,show O0 y.f y=true from(j6 _ _).2 ⟨Int.le_refl _,(hv.v y (by simp)).2.1⟩]at this
  cases this
 |x :: u,[],hu,_,h=>by
  have:=h x.f;rw[iP,gF,show O0 x.f x=true from(j6 _ _).2 ⟨Int.le_refl _,(hu.v x (by simp)).2.1⟩]at this
  cases this
 |x :: u,y :: v,hu,hv,h=>by
  have vx:=hu.v x (by simp);have vy:=hv.v y (by simp);have low:∀{x:B3} {u:List B3},K7 (x :: u)→∀t,C9 (x :: u) t=true→x.f≤t:=fun{x u} hu t ht=>by
   obtain⟨z,hz,h1,h2⟩:=fB.1 ht;rcases List.mem_cons.1 hz with rfl|hz
   ·exact h1
   ·have:=hu.hd z hz
    have:=hu.v x (by simp);omega
  have gap:∀{x:B3} {u:List B3},K7 (x :: u)→C9 (x :: u) x.t=false:=fun{x u} hu=>by
   cases hh:C9 (x :: u) x.t
   ·rfl
   ·obtain⟨z,hz,h1,h2⟩:=fB.1 hh
    rcases List.mem_cons.1 hz with rfl|hz
    ·omega
    ·have:=hu.hd z hz;omega
  have ins:∀{x:B3} {u:List B3} (t:Int),x.f≤t→t<x.t→C9 (x :: u) t=true:=fun{x u} t h1 h2=>fB.2 ⟨x,by simp,h1,h2⟩;have e1:x.f=y.f:=by
   have a1:=low hv x.f (by rw[←h];exact ins _ (Int.le_refl _) vx.2.1);have a2:=low hu y.f (by rw[h];exact ins _ (Int.le_refl _) vy.2.1);omega
  have e2:x.t=y.t:=by
   rcases Int.lt_trichotomy x.t y.t with h1|h1|h1
   ·have:=gap hu
    rw[h,ins (x:=y) (u:=v) x.t (by omega) h1]at this;cases this
   ·exact h1
   ·have:=gap hv
    rw[←h,ins (x:=x) (u:=u) y.t (by omega) h1]at this;cases this
  have exy:x=y:=by cases x;cases y;simp at e1 e2;simp[e1,e2]
  subst exy;rw[Ad8 hu.tail hv.tail (fun t=>?_)];have ht:=h t;rw[gF,gF]at ht
  cases hi:O0 t x
  ·rw[hi,Bool.false_or,Bool.false_or]at ht;exact ht
  ·obtain⟨i1,i2⟩:=(j6 _ _).1 hi
   have no:∀{u:List B3},K7 (x :: u)→C9 u t=false:=fun{u} hu=>by
    cases hh:C9 u t
    ·rfl
    ·obtain⟨z,hz,h1,h2⟩:=fB.1 hh
     have:=hu.hd z hz;omega
   rw[no hu,no hv]
structure U3 (u:List B3) (S:Int→Bool):Prop where
 n:K7 u
 h:∀t,C9 u t=S t
theorem U3.unique {u v:List B3} {S:Int→Bool} (h:U3 u S) (k:U3 v S):u=v:=Ad8 h.n k.n fun t=>by rw[h.h,k.h]
structure p5 (done out:List B3):Prop where
 n:K7 out
 h:∀t,C9 out t=C9 done t
 b:∀c,(∀x∈done,x.f≤c)→∀v∈out,v.f≤c
theorem AK8:p5 [] []:=⟨uF,fun _ =>rfl,fun _ _ v h=>(by cases h)⟩
theorem p5.skip {done out:List B3} (h:p5 done out) {w:B3} (he:w.f=w.t):p5 (done ++ [w]) out:=by
 refine⟨h.n,fun t=>?_,fun c hc v hv=>h.b c (fun x hx=>hc x (by simp[hx])) v hv⟩;rw[fC,fD,h.h];have:O0 t w=false:=by
  cases hi:O0 t w
  ·rfl
  ·have:=(j6 _ _).1 hi;omega
 rw[this,Bool.or_false]
theorem p5.join {done o:List B3} {l w:B3} (h:p5 done (o ++ [l])) (hw:V7 w=true) (h1:l.f≤w.f) (h2:w.f≤l.t) (_hs:∀x∈done,x.f≤w.f):p5 (done ++ [w]) (o ++ [⟨l.f,max l.t w.t⟩]):=by
 obtain⟨v1,v2,v3⟩:=(gE w).1 hw;have hl:=h.n.v l (by simp);have hno:K7 o:=⟨fun x hx=>h.n.v x (by simp[hx]),(List.pairwise_append.1 h.n.s).1⟩
 refine⟨hno.snoc ⟨hl.1,by show l.f<max l.t w.t;omega,by show max l.t w.t≤_;omega⟩ fun y hy=>(List.pairwise_append.1 h.n.s).2.2 y hy l (by simp),fun t=>?_,fun c hc v hv=>?_⟩
 ·have:=h.h t
  rw[fC,fD]at this⊢;rw[fC,fD,←this,Bool.or_assoc];congr 1;rw[Bool.eq_iff_iff,Bool.or_eq_true,j6,j6,j6];show l.f≤t∧t<max l.t w.t↔_;omega
 ·rcases List.mem_append.1 hv with hv|hv
  ·exact h.b c (fun x hx=>hc x (by simp[hx])) v (by simp[hv])
  ·simp at hv;subst hv
   exact h.b c (fun x hx=>hc x (by simp[hx])) l (by simp)
theorem p5.new {done out:List B3} {w:B3} (h:p5 done out) (hw:V7 w=true) (hne:w.f<w.t) (hs:∀v∈out,v.t<w.f):p5 (done ++ [w]) (out ++ [w]):=by
 obtain⟨v1,v2,v3⟩:=(gE w).1 hw;refine⟨h.n.snoc ⟨v1,hne,v3⟩ hs,fun t=>by rw[fC,fC,h.h],fun c hc v hv=>?_⟩;rcases List.mem_append.1 hv with hv|hv
 ·exact h.b c (fun x hx=>hc x (by simp[hx])) v hv
 ·simp at hv;subst hv;exact hc v (by simp)
theorem p5.set {done out:List B3} (h:p5 done out):U3 out (C9 done):=⟨h.n,h.h⟩
theorem AK9 {o:List B3} {l:B3} (h:K7 (o ++ [l])) {c:Int} (hc:l.t<c):∀v∈o ++ [l],v.t<c:=fun v hv=>by
 rcases List.mem_append.1 hv with h1|h1
 ·have:=(List.pairwise_append.1 h.s).2.2 v h1 l (by simp)
  have:=h.v l (by simp);omega
 ·simp at h1;subst h1;exact hc
def T9 (l:List B3):Int:=(l.map fun x=>x.t-x.f).sum
theorem AL0 (l:List B3) (x:B3):T9 (l ++ [x])=T9 l+(x.t-x.f):=by simp[T9]
def J0 (l:List B3):Bool:=l.any fun x=>!V7 x
theorem iQ {l:List B3}:J0 l=false↔∀x∈l,V7 x=true:=by
 unfold J0;rw[List.any_eq_false];constructor
 ·intro h x hx;simpa using h x hx
 ·intro h x hx;simpa using h x hx
end
section
open Go.RowKit
def gG (a b:B3):B3:=⟨max a.f b.f,min a.t b.t⟩
theorem uG (a b:B3) (t:Int):O0 t (gG a b)=(O0 t a && O0 t b):=by
 rw[Bool.eq_iff_iff,Bool.and_eq_true,j6,j6,j6];show max a.f b.f≤t∧t<min a.t b.t↔_;omega
theorem AL1 {x:B3} (h:¬x.f<x.t) (t:Int):O0 t x=false:=by
 cases hi:O0 t x
 ·rfl
 ·have:=(j6 _ _).1 hi;omega
def R5 (out:List B3) (w:B3):List B3:=if w.f<w.t then out ++ [w]else out
theorem pK {out:List B3} {w:B3} (h:w.f<w.t):R5 out w=out ++ [w]:=if_pos h
theorem pL {out:List B3} {w:B3} (h:¬w.f<w.t):R5 out w=out:=if_neg h
theorem mJ (out:List B3) (w:B3) (t:Int):C9 (R5 out w) t=(C9 out t || O0 t w):=by
 unfold R5;split
 ·rw[fC,fD]
 ·rename_i h;rw[AL1 h,Bool.or_false]
theorem pO {out:List B3} {w:B3} (h:K7 out) (h1:0≤w.f) (h2:w.t≤4294944000) (hs:∀v∈out,v.t<w.f):K7 (R5 out w):=by
 unfold R5;split
 ·rename_i h3;exact h.snoc ⟨h1,h3,h2⟩ hs
 ·exact h
theorem mK {out:List B3} {w v:B3} (h:v∈R5 out w):v∈out∨v=w:=by
 unfold R5 at h;split at h
 ·rcases List.mem_append.1 h with h|h
  ·exact .inl h
  ·simp at h;exact .inr h
 ·exact .inl h
theorem uH {x:B3} {l:List B3} (h:K7 (x :: l)) {t:Int} (ht:t≤x.t):C9 l t=false:=by
 cases hh:C9 l t
 ·rfl
 ·obtain⟨z,hz,h1,h2⟩:=fB.1 hh
  have:=h.hd z hz;omega
structure bW (X Y x y out:List B3):Prop where
 n:K7 out
 h:∀t,(C9 X t && C9 Y t)=(C9 out t || (C9 x t && C9 y t))
 s:∀v∈out,∀a∈x,∀b∈y,v.t<max a.f b.f
 nx:K7 x
 ny:K7 y
theorem AL2 {X Y:List B3} (hX:K7 X) (hY:K7 Y):bW X Y X Y []:=
 ⟨uF,fun t=>by rw[iP,Bool.false_or],fun v h=>(by cases h),hX,hY⟩
theorem bW.done {X Y x y out:List B3} (h:bW X Y x y out) (he:x=[]∨y=[]):U3 out (fun t=>C9 X t && C9 Y t):=
 ⟨h.n,fun t=>by
  rw[h.h t];rcases he with rfl|rfl
  ·rw[iP,Bool.false_and,Bool.or_false]
  ·rw[iP,Bool.and_false,Bool.or_false]⟩
theorem bW.both {X Y x y out:List B3} {a b:B3} (h:bW X Y (a :: x) (b :: y) out):K7 (R5 out (gG a b)):=by
 have ha:=h.nx.v a (by simp);have hb:=h.ny.v b (by simp);exact pO h.n (by show 0≤max a.f b.f;omega) (by show min a.t b.t≤_;omega) fun v hv=>h.s v hv a (by simp) b (by simp)
theorem bW.left {X Y x y out:List B3} {a b:B3} (h:bW X Y (a :: x) (b :: y) out) (hlt:a.t<b.t):bW X Y x (b :: y) (R5 out (gG a b)):=by
 refine⟨h.both,fun t=>?_,fun v hv a' ha' b' hb'=>?_,h.nx.tail,h.ny⟩
 ·rw[h.h t,mJ,uG,gF a x]
  cases ha:O0 t a
  ·simp
  ·have h1:=(j6 _ _).1 ha
   have h2:C9 y t=false:=uH h.ny (by omega);rw[gF b y,h2]
   cases O0 t b<;>simp
 ·rcases mK hv with hv|rfl
  ·exact h.s v hv a' (by simp[ha']) b' hb'
  ·have:=h.nx.hd a' ha'
   show min a.t b.t < _;omega
theorem bW.right {X Y x y out:List B3} {a b:B3} (h:bW X Y (a :: x) (b :: y) out) (hle:b.t≤a.t):bW X Y (a :: x) y (R5 out (gG a b)):=by
 refine⟨h.both,fun t=>?_,fun v hv a' ha' b' hb'=>?_,h.nx,h.ny.tail⟩
 ·rw[h.h t,mJ,uG,gF b y]
  cases hb:O0 t b
  ·simp
  ·have h1:=(j6 _ _).1 hb
   have h2:C9 x t=false:=uH h.nx (by omega);rw[gF a x,h2]
   cases O0 t a<;>simp
 ·rcases mK hv with hv|rfl
  ·exact h.s v hv a' ha' b' (by simp[hb'])
  ·have:=h.ny.hd b' hb'
   show min a.t b.t < _;omega
structure kI (P:Int→Bool) (a:B3) (vd vr out:List B3):Prop where
 n:K7 out
 h:∀t,C9 out t=(P t || (O0 t a && C9 vd t))
 s:∀v∈out,v.t<a.f∨((∀b∈vr,v.t<b.f)∧v.t≤a.t)
theorem kI.step {P:Int→Bool} {a b:B3} {vd vr out:List B3} (h:kI P a vd (b :: vr) out) (ha:0≤a.f∧a.t≤4294944000) (hV:K7 (b :: vr)):kI P a (vd ++ [b]) vr (R5 out (gG a b)):=by
 refine⟨pO h.n (by show 0≤max a.f b.f;omega) (by show min a.t b.t≤_;omega) fun v hv=>?_,fun t=>?_,fun v hv=>?_⟩
 ·show v.t<max a.f b.f
  rcases h.s v hv with h1|⟨h1,_⟩
  ·omega
  ·have:=h1 b (by simp);omega
 ·rw[mJ,h.h,uG,fC,fD]
  cases P t<;>cases O0 t a<;>cases C9 vd t<;>simp
 ·rcases mK hv with hv|rfl
  ·rcases h.s v hv with h1|⟨h1,h2⟩
   ·exact .inl h1
   ·exact .inr ⟨fun c hc=>h1 c (by simp[hc]),h2⟩
  ·refine .inr ⟨fun c hc=>?_,by show min a.t b.t≤_;omega⟩
   have:=hV.hd c hc;show min a.t b.t < _;omega
structure mL (V ud ur out:List B3):Prop where
 n:K7 out
 h:∀t,C9 out t=(C9 ud t && C9 V t)
 s:∀v∈out,∀a∈ur,v.t<a.f
theorem mL.enter {V ud ur out:List B3} {a:B3} (h:mL V ud (a :: ur) out):kI (fun t=>C9 ud t && C9 V t) a [] V out:=
 ⟨h.n,fun t=>by rw[h.h,iP,Bool.and_false,Bool.or_false],fun v hv=>.inl (h.s v hv a (by simp))⟩
theorem kI.leave {V ud ur out:List B3} {a:B3} (h:kI (fun t=>C9 ud t && C9 V t) a V [] out) (hU:K7 (a :: ur)):mL V (ud ++ [a]) ur out:=by
 refine⟨h.n,fun t=>?_,fun v hv c hc=>?_⟩
 ·rw[h.h,fC,fD]
  cases C9 ud t<;>cases O0 t a<;>cases C9 V t<;>simp
 ·have h1:=hU.hd c hc
  have h2:=hU.v a (by simp);rcases h.s v hv with h3|⟨_,h3⟩<;>omega
theorem mL.set {V U out:List B3} (h:mL V U [] out):U3 out (fun t=>C9 U t && C9 V t):=⟨h.n,h.h⟩
structure cS (P B:Int→Bool) (w:B3) (at_:Int) (out:List B3):Prop where
 n:K7 out
 h:∀t,C9 out t=(P t || (decide (w.f≤t) && decide (t<min at_ w.t) && !B t))
 s:∀v∈out,v.t<at_∧v.t≤w.t
 c:w.f≤at_
def p6 (w:B3) (at_:Int) (l:List B3):Prop:=∀c∈l,c.t≤at_∨w.t≤c.f
theorem p6.mono {w:B3} {a b:Int} {l:List B3} (h:p6 w a l) (hab:a≤b):p6 w b l:=fun c hc=>by
 rcases h c hc with h1|h1
 ·exact .inl (by omega)
 ·exact .inr h1
theorem p6.snoc {w:B3} {a:Int} {l:List B3} {b:B3} (h:p6 w a l) (hb:b.t≤a∨w.t≤b.f):p6 w a (l ++ [b]):=fun c hc=>by
 rcases List.mem_append.1 hc with h1|h1
 ·exact h c h1
 ·simp at h1;subst h1;exact hb
theorem Ad9 {w:B3} {at_ t:Int} {vd vr:List B3} (hp:p6 w at_ vd) (h1:at_≤t) (h2:t<w.t) (h3:∀c∈vr,t<c.f):C9 (vd ++ vr) t=false:=by
 cases hh:C9 (vd ++ vr) t
 ·rfl
 ·obtain⟨z,hz,z1,z2⟩:=fB.1 hh
  rcases List.mem_append.1 hz with hz|hz
  ·rcases hp z hz with h4|h4<;>omega
  ·have:=h3 z hz;omega
theorem cS.hole {P:Int→Bool} {w b:B3} {at_:Int} {vd vr out:List B3} (h:cS P (C9 (vd ++ b :: vr)) w at_ out) (hp:p6 w at_ vd) (hw:0≤w.f∧w.t≤4294944000) (hV:K7 (b :: vr)) (h1:b.f<w.t):cS P (C9 (vd ++ b :: vr)) w (max at_ b.t) (R5 out ⟨at_,b.f⟩)∧p6 w (max at_ b.t) (vd ++ [b]):=by
 have hb:=hV.v b (by simp);refine⟨⟨pO h.n (by have:=h.c;show 0≤at_;omega) (by show b.f≤_;omega) fun v hv=>(h.s v hv).1,fun t=>?_,fun v hv=>?_,by have:=h.c;omega⟩,(hp.mono (by omega)).snoc (.inl (by omega))⟩
 ·rw[mJ,h.h]
  have key:O0 t ⟨at_,b.f⟩=(decide (at_≤t) && decide (t<min (max at_ b.t) w.t) && !C9 (vd ++ b :: vr) t):=by
   rw[Bool.eq_iff_iff,j6];simp only[Bool.and_eq_true,decide_eq_true_eq,Bool.not_eq_true'];constructor
   ·rintro⟨k1,k2⟩
    have k2':t<b.f:=k2;have k1':at_≤t:=k1;refine⟨⟨k1',by omega⟩,Ad9 hp k1' (by omega) fun c hc=>?_⟩;rcases List.mem_cons.1 hc with rfl|hc
    ·exact k2'
    ·have:=hV.hd c hc;omega
   ·rintro⟨⟨k1,k2⟩,k3⟩
    refine⟨k1,?_⟩;show t<b.f;rcases Int.lt_or_le t b.f with k4|k4
    ·exact k4
    ·exfalso
     have:C9 (vd ++ b :: vr) t=true:=fB.2 ⟨b,by simp,k4,by omega⟩;rw[this]at k3;cases k3
  rw[key];have hc:=h.c;by_cases k:at_≤t
  ·rw[decide_eq_true k,decide_eq_true (show w.f≤t by omega)]
   have k2:¬t<min at_ w.t:=by omega
   rw[decide_eq_false k2]
   cases P t<;>simp
  ·rw[decide_eq_false k]
   have k2:decide (t<min at_ w.t)=decide (t<min (max at_ b.t) w.t):=by rw[decide_eq_decide];omega
   rw[k2]
   cases P t<;>simp
 ·rcases mK hv with hv|rfl
  ·have:=h.s v hv;omega
  ·show b.f < _∧b.f≤_
   omega
theorem cS.fin {P:Int→Bool} {w:B3} {at_:Int} {V out:List B3} (h:cS P (C9 V) w at_ out) (hp:p6 w at_ V) (hw:0≤w.f∧w.t≤4294944000):K7 (R5 out ⟨at_,w.t⟩)∧(∀t,C9 (R5 out ⟨at_,w.t⟩) t=(P t || (O0 t w && !C9 V t)))∧∀v∈R5 out ⟨at_,w.t⟩,v.t≤w.t:=by
 refine⟨pO h.n (by have:=h.c;show 0≤at_;omega) (by exact hw.2) fun v hv=>(h.s v hv).1,fun t=>?_,fun v hv=>?_⟩
 ·rw[mJ,h.h]
  have hc:=h.c;have hi:O0 t w=(decide (w.f≤t) && decide (t<w.t)):=rfl;have hj:O0 t ⟨at_,w.t⟩=(decide (at_≤t) && decide (t<w.t)):=rfl;rw[hi,hj];by_cases k:at_≤t
  ·by_cases k2:t<w.t
   ·have hf:=Ad9 (vr:=[]) hp k k2 (fun c hc=>by cases hc)
    rw[List.append_nil]at hf;rw[hf,decide_eq_true k,decide_eq_true k2,decide_eq_true (show w.f≤t by omega)]
    cases P t<;>simp
   ·rw[decide_eq_false k2,decide_eq_false (show¬t<min at_ w.t by omega)]
    cases P t<;>simp
  ·rw[decide_eq_false k,show decide (t<min at_ w.t)=decide (t<w.t) by rw[decide_eq_decide];omega]
   cases P t<;>simp
 ·rcases mK hv with hv|rfl
  ·exact(h.s v hv).2
  ·exact Int.le_refl _
structure iR (V ud ur out:List B3):Prop where
 n:K7 out
 h:∀t,C9 out t=(C9 ud t && !C9 V t)
 s:∀v∈out,∀a∈ur,v.t<a.f
theorem AL3 (V U:List B3):iR V [] U []:=⟨uF,fun t=>by rw[iP];rfl,fun v h=>(by cases h)⟩
theorem iR.enter {V ud ur out:List B3} {w:B3} (h:iR V ud (w :: ur) out) (hw:w.f<w.t):cS (fun t=>C9 ud t && !C9 V t) (C9 V) w w.f out:=by
 refine⟨h.n,fun t=>?_,fun v hv=>?_,Int.le_refl _⟩
 ·rw[h.h]
  have:(decide (w.f≤t) && decide (t<min w.f w.t))=false:=by
   rw[Bool.and_eq_false_iff,decide_eq_false_iff_not,decide_eq_false_iff_not];omega
  rw[this,Bool.false_and,Bool.or_false]
 ·have:=h.s v hv w (by simp);omega
theorem cS.leave {V ud ur out:List B3} {w:B3} {at_:Int} (h:cS (fun t=>C9 ud t && !C9 V t) (C9 V) w at_ out) (hp:p6 w at_ V) (hU:K7 (w :: ur)):iR V (ud ++ [w]) ur (R5 out ⟨at_,w.t⟩):=by
 have hw:=hU.v w (by simp);obtain⟨h1,h2,h3⟩:=h.fin hp ⟨hw.1,hw.2.2⟩;refine⟨h1,fun t=>?_,fun v hv a ha=>?_⟩
 ·rw[h2,fC,fD]
  cases C9 ud t<;>cases O0 t w<;>cases C9 V t<;>simp
 ·have:=h3 v hv
  have:=hU.hd a ha;omega
theorem iR.set {V U out:List B3} (h:iR V U [] out):U3 out (fun t=>C9 U t && !C9 V t):=⟨h.n,h.h⟩
end
end Go.Proofs.YtmmlmhnjjfnpnaaGreat
