/- Texts that belong together. -/
import Derived.Test.YtmmlmhnjjfnpnaaGreatTpQa
set_option linter.all false
namespace Go.Proofs.YtmmlmhnjjfnpnaaGreat
section
open Go.RowKit
structure B3 where
 f:Int
 t:Int
deriving DecidableEq
def B3.cs (x:B3):List Value:=[.int .i64 x.f,.int .i64 x.t]
theorem B3.len (x:B3):x.cs.length=2:=rfl
theorem eU (x:B3):∀u∈x.cs,u.oneCell'=true:=by
 intro u hu;simp[B3.cs]at hu;rcases hu with h|h<;>subst h<;>rfl
instance:Inhabited B3:=⟨⟨0,0⟩⟩
abbrev Q7 (w:World) (a:Option Addr) (l:List B3):Prop:=D0 B3.cs 2 w a l
structure AF5 (w:World) (b o:Nat) (e:B3):Prop where
 c0:∀y:A7 w,y.w.cell? ⟨b,o,none⟩=some (.int .i64 e.f)
 c1:∀y:A7 w,y.w.cell? ⟨b,o+1,none⟩=some (.int .i64 e.t)
theorem D0.win {w:World} {a:Option Addr} {l:List B3} (h:D0 B3.cs 2 w a l) {k:Nat} {x:B3} (hk:l[k]? =some x):∃b off,a=some ⟨b,off,none⟩∧AF5 w b (off+k*2) x:=by
 obtain⟨b,off,ha,hb,hc⟩:=h k x hk;refine⟨b,off,ha,?_⟩;have hh:∀j v,x.cs[j]? =some v→∀y:A7 w,y.w.cell? ⟨b,off+k*2+j,none⟩=some v:=fun j v hv=>A7.cell (hc j v hv) hb;exact⟨hh 0 _ rfl,hh 1 _ rfl⟩
def X3 (x:B3):Bool:=decide (0≤x.f) && decide (x.f≤x.t) && decide (x.t≤4294944000)
theorem gP (x:B3):X3 x=true↔0≤x.f∧x.f≤x.t∧x.t≤4294944000:=by simp[X3,and_assoc]
def R8 (t:Int) (x:B3):Bool:=decide (x.f≤t) && decide (t<x.t)
theorem l8 (t:Int) (x:B3):R8 t x=true↔x.f≤t∧t<x.t:=by simp[R8]
def E3 (l:List B3) (t:Int):Bool:=l.any (R8 t)
theorem fQ {l:List B3} {t:Int}:E3 l t=true↔∃x∈l,x.f≤t∧t<x.t:=by simp[E3,List.any_eq_true,l8]
theorem kF (t:Int):E3 [] t=false:=rfl
theorem gQ (x:B3) (l:List B3) (t:Int):E3 (x :: l) t=(R8 t x || E3 l t):=rfl
theorem iU (l m:List B3) (t:Int):E3 (l ++ m) t=(E3 l t || E3 m t):=by simp[E3]
theorem iV (x:B3) (t:Int):E3 [x] t=R8 t x:=by simp[E3]
theorem AF6 {l m:List B3} (h:l.Perm m) (t:Int):E3 l t=E3 m t:=by
 rw[Bool.eq_iff_iff,fQ,fQ];constructor<;>rintro⟨x,hx,hh⟩
 ·exact⟨x,h.mem_iff.1 hx,hh⟩
 ·exact⟨x,h.mem_iff.2 hx,hh⟩
structure N3 (l:List B3):Prop where
 v:∀x∈l,0≤x.f∧x.f<x.t∧x.t≤4294944000
 s:l.Pairwise fun a b=>a.t<b.f
theorem tD:N3 []:=⟨fun x h=>(by cases h),List.Pairwise.nil⟩
theorem N3.tail {x:B3} {l:List B3} (h:N3 (x :: l)):N3 l:=⟨fun y hy=>h.v y (by simp[hy]),(List.pairwise_cons.1 h.s).2⟩
theorem N3.hd {x:B3} {l:List B3} (h:N3 (x :: l)):∀y∈l,x.t<y.f:=(List.pairwise_cons.1 h.s).1
theorem N3.drop {l:List B3} (h:N3 l) (k:Nat):N3 (l.drop k):=⟨fun y hy=>h.v y (List.mem_of_mem_drop hy),h.s.sublist (List.drop_sublist k l)⟩
theorem N3.snoc {l:List B3} {x:B3} (h:N3 l) (hx:0≤x.f∧x.f<x.t∧x.t≤4294944000) (hs:∀y∈l,y.t<x.f):N3 (l ++ [x]):=
 ⟨fun y hy=>by
  rcases List.mem_append.1 hy with h1|h1
  ·exact h.v y h1
  ·simp at h1;subst h1;exact hx,List.pairwise_append.2 ⟨h.s,by simp,fun a ha b hb=>by simp at hb;subst hb;exact hs a ha⟩⟩
theorem Aa6:∀{u v:List B3},N3 u→N3 v→(∀t,E3 u t=E3 v t)→u=v
 |[],[],_,_,_ =>rfl
 |[],y :: v,_,hv,h=>by
  have:=h y.f;rw[kF,gQ,show R8 y.f y=true from(l8 _ _).2 ⟨Int.le_refl _,(hv.v y (by simp)).2.1⟩]at this
  cases this
 |x :: u,[],hu,_,h=>by
  have:=h x.f;rw[kF,gQ,show R8 x.f x=true from(l8 _ _).2 ⟨Int.le_refl _,(hu.v x (by simp)).2.1⟩]at this
  cases this
 |x :: u,y :: v,hu,hv,h=>by
  have vx:=hu.v x (by simp);have vy:=hv.v y (by simp);have low:∀{x:B3} {u:List B3},N3 (x :: u)→∀t,E3 (x :: u) t=true→x.f≤t:=fun{x u} hu t ht=>by
   obtain⟨z,hz,h1,h2⟩:=fQ.1 ht;rcases List.mem_cons.1 hz with rfl|hz
   ·exact h1
   ·have:=hu.hd z hz
    have:=hu.v x (by simp);omega
  have gap:∀{x:B3} {u:List B3},N3 (x :: u)→E3 (x :: u) x.t=false:=fun{x u} hu=>by
   cases hh:E3 (x :: u) x.t
   ·rfl
   ·obtain⟨z,hz,h1,h2⟩:=fQ.1 hh
    rcases List.mem_cons.1 hz with rfl|hz
    ·omega
    ·have:=hu.hd z hz;omega
  have ins:∀{x:B3} {u:List B3} (t:Int),x.f≤t→t<x.t→E3 (x :: u) t=true:=fun{x u} t h1 h2=>fQ.2 ⟨x,by simp,h1,h2⟩;have e1:x.f=y.f:=by
   have a1:=low hv x.f (by rw[←h];exact ins _ (Int.le_refl _) vx.2.1);have a2:=low hu y.f (by rw[h];exact ins _ (Int.le_refl _) vy.2.1);omega
  have e2:x.t=y.t:=by
   rcases Int.lt_trichotomy x.t y.t with h1|h1|h1
   ·have:=gap hu
    rw[h,ins (x:=y) (u:=v) x.t (by omega) h1]at this;cases this
   ·exact h1
   ·have:=gap hv
    rw[←h,ins (x:=x) (u:=u) y.t (by omega) h1]at this;cases this
  have exy:x=y:=by cases x;cases y;simp at e1 e2;simp[e1,e2]
  subst exy;rw[Aa6 hu.tail hv.tail (fun t=>?_)];have ht:=h t;rw[gQ,gQ]at ht
  cases hi:R8 t x
  ·rw[hi,Bool.false_or,Bool.false_or]at ht;exact ht
  ·obtain⟨i1,i2⟩:=(l8 _ _).1 hi
   have no:∀{u:List B3},N3 (x :: u)→E3 u t=false:=fun{u} hu=>by
    cases hh:E3 u t
    ·rfl
    ·obtain⟨z,hz,h1,h2⟩:=fQ.1 hh
     have:=hu.hd z hz;omega
   rw[no hu,no hv]
structure X8 (u:List B3) (S:Int→Bool):Prop where
 n:N3 u
 h:∀t,E3 u t=S t
theorem X8.unique {u v:List B3} {S:Int→Bool} (h:X8 u S) (k:X8 v S):u=v:=Aa6 h.n k.n fun t=>by rw[h.h,k.h]
structure bC (done out:List B3):Prop where
 n:N3 out
 h:∀t,E3 out t=E3 done t
 b:∀c,(∀x∈done,x.f≤c)→∀v∈out,v.f≤c
theorem AF7:bC [] []:=⟨tD,fun _ =>rfl,fun _ _ v h=>(by cases h)⟩
theorem bC.skip {done out:List B3} (h:bC done out) {w:B3} (he:w.f=w.t):bC (done ++ [w]) out:=by
 refine⟨h.n,fun t=>?_,fun c hc v hv=>h.b c (fun x hx=>hc x (by simp[hx])) v hv⟩;rw[iU,iV,h.h];have:R8 t w=false:=by
  cases hi:R8 t w
  ·rfl
  ·have:=(l8 _ _).1 hi;omega
 rw[this,Bool.or_false]
theorem bC.join {done o:List B3} {l w:B3} (h:bC done (o ++ [l])) (hw:X3 w=true) (h1:l.f≤w.f) (h2:w.f≤l.t) (_hs:∀x∈done,x.f≤w.f):bC (done ++ [w]) (o ++ [⟨l.f,max l.t w.t⟩]):=by
 obtain⟨v1,v2,v3⟩:=(gP w).1 hw;have hl:=h.n.v l (by simp);have hno:N3 o:=⟨fun x hx=>h.n.v x (by simp[hx]),(List.pairwise_append.1 h.n.s).1⟩
 refine⟨hno.snoc ⟨hl.1,by show l.f<max l.t w.t;omega,by show max l.t w.t≤_;omega⟩ fun y hy=>(List.pairwise_append.1 h.n.s).2.2 y hy l (by simp),fun t=>?_,fun c hc v hv=>?_⟩
 ·have:=h.h t
  rw[iU,iV]at this⊢;rw[iU,iV,←this,Bool.or_assoc];congr 1;rw[Bool.eq_iff_iff,Bool.or_eq_true,l8,l8,l8];show l.f≤t∧t<max l.t w.t↔_;omega
 ·rcases List.mem_append.1 hv with hv|hv
  ·exact h.b c (fun x hx=>hc x (by simp[hx])) v (by simp[hv])
  ·simp at hv;subst hv
   exact h.b c (fun x hx=>hc x (by simp[hx])) l (by simp)
theorem bC.new {done out:List B3} {w:B3} (h:bC done out) (hw:X3 w=true) (hne:w.f<w.t) (hs:∀v∈out,v.t<w.f):bC (done ++ [w]) (out ++ [w]):=by
 obtain⟨v1,v2,v3⟩:=(gP w).1 hw;refine⟨h.n.snoc ⟨v1,hne,v3⟩ hs,fun t=>by rw[iU,iU,h.h],fun c hc v hv=>?_⟩;rcases List.mem_append.1 hv with hv|hv
 ·exact h.b c (fun x hx=>hc x (by simp[hx])) v hv
 ·simp at hv;subst hv;exact hc v (by simp)
theorem AF8 {o:List B3} {l:B3} (h:N3 (o ++ [l])) {c:Int} (hc:l.t<c):∀v∈o ++ [l],v.t<c:=fun v hv=>by
 rcases List.mem_append.1 hv with h1|h1
 ·have:=(List.pairwise_append.1 h.s).2.2 v h1 l (by simp)
  have:=h.v l (by simp);omega
 ·simp at h1;subst h1;exact hc
def V6 (l:List B3):Int:=(l.map fun x=>x.t-x.f).sum
theorem AF9 (l:List B3) (x:B3):V6 (l ++ [x])=V6 l+(x.t-x.f):=by simp[V6]
def L4 (l:List B3):Bool:=l.any fun x=>!X3 x
theorem iW {l:List B3}:L4 l=false↔∀x∈l,X3 x=true:=by
 unfold L4;rw[List.any_eq_false];constructor
 ·intro h x hx;simpa using h x hx
 ·intro h x hx;simpa using h x hx
end
section
open Go.RowKit
def iX (a b:B3):B3:=⟨max a.f b.f,min a.t b.t⟩
theorem Aa7 (a b:B3) (t:Int):R8 t (iX a b)=(R8 t a && R8 t b):=by
 rw[Bool.eq_iff_iff,Bool.and_eq_true,l8,l8,l8];show max a.f b.f≤t∧t<min a.t b.t↔_;omega
theorem AG0 {x:B3} (h:¬x.f<x.t) (t:Int):R8 t x=false:=by
 cases hi:R8 t x
 ·rfl
 ·have:=(l8 _ _).1 hi;omega
def U1 (out:List B3) (w:B3):List B3:=if w.f<w.t then out ++ [w]else out
theorem oV {out:List B3} {w:B3} (h:w.f<w.t):U1 out w=out ++ [w]:=if_pos h
theorem oW {out:List B3} {w:B3} (h:¬w.f<w.t):U1 out w=out:=if_neg h
theorem oX (out:List B3) (w:B3) (t:Int):E3 (U1 out w) t=(E3 out t || R8 t w):=by
 unfold U1;split
 ·rw[iU,iV]
 ·rename_i h;rw[AG0 h,Bool.or_false]
theorem tE {out:List B3} {w:B3} (h:N3 out) (h1:0≤w.f) (h2:w.t≤4294944000) (hs:∀v∈out,v.t<w.f):N3 (U1 out w):=by
 unfold U1;split
 ·rename_i h3;exact h.snoc ⟨h1,h3,h2⟩ hs
 ·exact h
theorem oY {out:List B3} {w v:B3} (h:v∈U1 out w):v∈out∨v=w:=by
 unfold U1 at h;split at h
 ·rcases List.mem_append.1 h with h|h
  ·exact .inl h
  ·simp at h;exact .inr h
 ·exact .inl h
theorem tF {x:B3} {l:List B3} (h:N3 (x :: l)) {t:Int} (ht:t≤x.t):E3 l t=false:=by
 cases hh:E3 l t
 ·rfl
 ·obtain⟨z,hz,h1,h2⟩:=fQ.1 hh
  have:=h.hd z hz;omega
structure cQ (X Y x y out:List B3):Prop where
 n:N3 out
 h:∀t,(E3 X t && E3 Y t)=(E3 out t || (E3 x t && E3 y t))
 s:∀v∈out,∀a∈x,∀b∈y,v.t<max a.f b.f
 nx:N3 x
 ny:N3 y
theorem AG1 {X Y:List B3} (hX:N3 X) (hY:N3 Y):cQ X Y X Y []:=
 ⟨tD,fun t=>by rw[kF,Bool.false_or],fun v h=>(by cases h),hX,hY⟩
theorem cQ.done {X Y x y out:List B3} (h:cQ X Y x y out) (he:x=[]∨y=[]):X8 out (fun t=>E3 X t && E3 Y t):=
 ⟨h.n,fun t=>by
  rw[h.h t];rcases he with rfl|rfl
  ·rw[kF,Bool.false_and,Bool.or_false]
  ·rw[kF,Bool.and_false,Bool.or_false]⟩
theorem cQ.both {X Y x y out:List B3} {a b:B3} (h:cQ X Y (a :: x) (b :: y) out):N3 (U1 out (iX a b)):=by
 have ha:=h.nx.v a (by simp);have hb:=h.ny.v b (by simp);exact tE h.n (by show 0≤max a.f b.f;omega) (by show min a.t b.t≤_;omega) fun v hv=>h.s v hv a (by simp) b (by simp)
theorem cQ.left {X Y x y out:List B3} {a b:B3} (h:cQ X Y (a :: x) (b :: y) out) (hlt:a.t<b.t):cQ X Y x (b :: y) (U1 out (iX a b)):=by
 refine⟨h.both,fun t=>?_,fun v hv a' ha' b' hb'=>?_,h.nx.tail,h.ny⟩
 ·rw[h.h t,oX,Aa7,gQ a x]
  cases ha:R8 t a
  ·simp
  ·have h1:=(l8 _ _).1 ha
   have h2:E3 y t=false:=tF h.ny (by omega);rw[gQ b y,h2]
   cases R8 t b<;>simp
 ·rcases oY hv with hv|rfl
  ·exact h.s v hv a' (by simp[ha']) b' hb'
  ·have:=h.nx.hd a' ha'
   show min a.t b.t < _;omega
theorem cQ.right {X Y x y out:List B3} {a b:B3} (h:cQ X Y (a :: x) (b :: y) out) (hle:b.t≤a.t):cQ X Y (a :: x) y (U1 out (iX a b)):=by
 refine⟨h.both,fun t=>?_,fun v hv a' ha' b' hb'=>?_,h.nx,h.ny.tail⟩
 ·rw[h.h t,oX,Aa7,gQ b y]
  cases hb:R8 t b
  ·simp
  ·have h1:=(l8 _ _).1 hb
   have h2:E3 x t=false:=tF h.nx (by omega);rw[gQ a x,h2]
   cases R8 t a<;>simp
 ·rcases oY hv with hv|rfl
  ·exact h.s v hv a' ha' b' (by simp[hb'])
  ·have:=h.ny.hd b' hb'
   show min a.t b.t < _;omega
structure dB (P B:Int→Bool) (w:B3) (at_:Int) (out:List B3):Prop where
 n:N3 out
 h:∀t,E3 out t=(P t || (decide (w.f≤t) && decide (t<min at_ w.t) && !B t))
 s:∀v∈out,v.t<at_∧v.t≤w.t
 c:w.f≤at_
def r6 (w:B3) (at_:Int) (l:List B3):Prop:=∀c∈l,c.t≤at_∨w.t≤c.f
theorem r6.mono {w:B3} {a b:Int} {l:List B3} (h:r6 w a l) (hab:a≤b):r6 w b l:=fun c hc=>by
 rcases h c hc with h1|h1
 ·exact .inl (by omega)
 ·exact .inr h1
theorem r6.snoc {w:B3} {a:Int} {l:List B3} {b:B3} (h:r6 w a l) (hb:b.t≤a∨w.t≤b.f):r6 w a (l ++ [b]):=fun c hc=>by
 rcases List.mem_append.1 hc with h1|h1
 ·exact h c h1
 ·simp at h1;subst h1;exact hb
theorem Aa8 {w:B3} {at_ t:Int} {vd vr:List B3} (hp:r6 w at_ vd) (h1:at_≤t) (h2:t<w.t) (h3:∀c∈vr,t<c.f):E3 (vd ++ vr) t=false:=by
 cases hh:E3 (vd ++ vr) t
 ·rfl
 ·obtain⟨z,hz,z1,z2⟩:=fQ.1 hh
  rcases List.mem_append.1 hz with hz|hz
  ·rcases hp z hz with h4|h4<;>omega
  ·have:=h3 z hz;omega
theorem dB.hole {P:Int→Bool} {w b:B3} {at_:Int} {vd vr out:List B3} (h:dB P (E3 (vd ++ b :: vr)) w at_ out) (hp:r6 w at_ vd) (hw:0≤w.f∧w.t≤4294944000) (hV:N3 (b :: vr)) (h1:b.f<w.t):dB P (E3 (vd ++ b :: vr)) w (max at_ b.t) (U1 out ⟨at_,b.f⟩)∧r6 w (max at_ b.t) (vd ++ [b]):=by
 have hb:=hV.v b (by simp);refine⟨⟨tE h.n (by have:=h.c;show 0≤at_;omega) (by show b.f≤_;omega) fun v hv=>(h.s v hv).1,fun t=>?_,fun v hv=>?_,by have:=h.c;omega⟩,(hp.mono (by omega)).snoc (.inl (by omega))⟩
 ·rw[oX,h.h]
  have key:R8 t ⟨at_,b.f⟩=(decide (at_≤t) && decide (t<min (max at_ b.t) w.t) && !E3 (vd ++ b :: vr) t):=by
   rw[Bool.eq_iff_iff,l8];simp only[Bool.and_eq_true,decide_eq_true_eq,Bool.not_eq_true'];constructor
   ·rintro⟨k1,k2⟩
    have k2':t<b.f:=k2;have k1':at_≤t:=k1;refine⟨⟨k1',by omega⟩,Aa8 hp k1' (by omega) fun c hc=>?_⟩;rcases List.mem_cons.1 hc with rfl|hc
    ·exact k2'
    ·have:=hV.hd c hc;omega
   ·rintro⟨⟨k1,k2⟩,k3⟩
    refine⟨k1,?_⟩;show t<b.f;rcases Int.lt_or_le t b.f with k4|k4
    ·exact k4
    ·exfalso
     have:E3 (vd ++ b :: vr) t=true:=fQ.2 ⟨b,by simp,k4,by omega⟩;rw[this]at k3;cases k3
  rw[key];have hc:=h.c;by_cases k:at_≤t
  ·rw[decide_eq_true k,decide_eq_true (show w.f≤t by omega)]
   have k2:¬t<min at_ w.t:=by omega
   rw[decide_eq_false k2]
   cases P t<;>simp
  ·rw[decide_eq_false k]
   have k2:decide (t<min at_ w.t)=decide (t<min (max at_ b.t) w.t):=by rw[decide_eq_decide];omega
   rw[k2]
   cases P t<;>simp
 ·rcases oY hv with hv|rfl
  ·have:=h.s v hv;omega
  ·show b.f < _∧b.f≤_
   omega
theorem dB.fin {P:Int→Bool} {w:B3} {at_:Int} {V out:List B3} (h:dB P (E3 V) w at_ out) (hp:r6 w at_ V) (hw:0≤w.f∧w.t≤4294944000):N3 (U1 out ⟨at_,w.t⟩)∧(∀t,E3 (U1 out ⟨at_,w.t⟩) t=(P t || (R8 t w && !E3 V t)))∧∀v∈U1 out ⟨at_,w.t⟩,v.t≤w.t:=by
 refine⟨tE h.n (by have:=h.c;show 0≤at_;omega) (by exact hw.2) fun v hv=>(h.s v hv).1,fun t=>?_,fun v hv=>?_⟩
 ·rw[oX,h.h]
  have hc:=h.c;have hi:R8 t w=(decide (w.f≤t) && decide (t<w.t)):=rfl;have hj:R8 t ⟨at_,w.t⟩=(decide (at_≤t) && decide (t<w.t)):=rfl;rw[hi,hj];by_cases k:at_≤t
  ·by_cases k2:t<w.t
   ·have hf:=Aa8 (vr:=[]) hp k k2 (fun c hc=>by cases hc)
    rw[List.append_nil]at hf;rw[hf,decide_eq_true k,decide_eq_true k2,decide_eq_true (show w.f≤t by omega)]
    cases P t<;>simp
   ·rw[decide_eq_false k2,decide_eq_false (show¬t<min at_ w.t by omega)]
    cases P t<;>simp
  ·rw[decide_eq_false k,show decide (t<min at_ w.t)=decide (t<w.t) by rw[decide_eq_decide];omega]
   cases P t<;>simp
 ·rcases oY hv with hv|rfl
  ·exact(h.s v hv).2
  ·exact Int.le_refl _
structure mB (V ud ur out:List B3):Prop where
 n:N3 out
 h:∀t,E3 out t=(E3 ud t && !E3 V t)
 s:∀v∈out,∀a∈ur,v.t<a.f
theorem AG2 (V U:List B3):mB V [] U []:=⟨tD,fun t=>by rw[kF];rfl,fun v h=>(by cases h)⟩
theorem mB.enter {V ud ur out:List B3} {w:B3} (h:mB V ud (w :: ur) out) (hw:w.f<w.t):dB (fun t=>E3 ud t && !E3 V t) (E3 V) w w.f out:=by
 refine⟨h.n,fun t=>?_,fun v hv=>?_,Int.le_refl _⟩
 ·rw[h.h]
  have:(decide (w.f≤t) && decide (t<min w.f w.t))=false:=by
   rw[Bool.and_eq_false_iff,decide_eq_false_iff_not,decide_eq_false_iff_not];omega
  rw[this,Bool.false_and,Bool.or_false]
 ·have:=h.s v hv w (by simp);omega
theorem dB.leave {V ud ur out:List B3} {w:B3} {at_:Int} (h:dB (fun t=>E3 ud t && !E3 V t) (E3 V) w at_ out) (hp:r6 w at_ V) (hU:N3 (w :: ur)):mB V (ud ++ [w]) ur (U1 out ⟨at_,w.t⟩):=by
 have hw:=hU.v w (by simp);obtain⟨h1,h2,h3⟩:=h.fin hp ⟨hw.1,hw.2.2⟩;refine⟨h1,fun t=>?_,fun v hv a ha=>?_⟩
 ·rw[h2,iU,iV]
  cases E3 ud t<;>cases R8 t w<;>cases E3 V t<;>simp
 ·have:=h3 v hv
  have:=hU.hd a ha;omega
end
end Go.Proofs.YtmmlmhnjjfnpnaaGreat
