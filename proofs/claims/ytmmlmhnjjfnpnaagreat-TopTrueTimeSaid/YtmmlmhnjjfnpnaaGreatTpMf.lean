/- Texts that belong together. -/
import Derived.Test.YtmmlmhnjjfnpnaaGreatTpMa
set_option linter.all false
namespace Go.Proofs.YtmmlmhnjjfnpnaaGreat
open Go.RowKit
structure Win where
 f:Int
 t:Int
deriving DecidableEq
def Win.cs (x:Win):List Value:=[.int .i64 x.f,.int .i64 x.t]
theorem Win.len (x:Win):x.cs.length=2:=rfl
theorem win_one (x:Win):∀u∈x.cs,u.oneCell'=true:=by
 intro u hu;simp[Win.cs]at hu;rcases hu with h|h<;>subst h<;>rfl
instance:Inhabited Win:=⟨⟨0,0⟩⟩
abbrev WinRow (w:World) (a:Option Addr) (l:List Win):Prop:=Els Win.cs 2 w a l
structure WinCells (w:World) (b o:Nat) (e:Win):Prop where
 c0:∀y:Since w,y.w.cell? ⟨b,o,none⟩=some (.int .i64 e.f)
 c1:∀y:Since w,y.w.cell? ⟨b,o+1,none⟩=some (.int .i64 e.t)
theorem Els.win {w:World} {a:Option Addr} {l:List Win} (h:Els Win.cs 2 w a l) {k:Nat} {x:Win} (hk:l[k]? =some x):∃b off,a=some ⟨b,off,none⟩∧WinCells w b (off+k*2) x:=by
 obtain⟨b,off,ha,hb,hc⟩:=h k x hk;refine⟨b,off,ha,?_⟩;have hh:∀j v,x.cs[j]? =some v→∀y:Since w,y.w.cell? ⟨b,off+k*2+j,none⟩=some v:=fun j v hv=>Since.cell (hc j v hv) hb;exact⟨hh 0 _ rfl,hh 1 _ rfl⟩
def vldW (x:Win):Bool:=decide (0≤x.f) && decide (x.f≤x.t) && decide (x.t≤4294944000)
theorem vldW_iff (x:Win):vldW x=true↔0≤x.f∧x.f≤x.t∧x.t≤4294944000:=by simp[vldW,and_assoc]
def inW (t:Int) (x:Win):Bool:=decide (x.f≤t) && decide (t<x.t)
theorem inW_iff (t:Int) (x:Win):inW t x=true↔x.f≤t∧t<x.t:=by simp[inW]
def hasW (l:List Win) (t:Int):Bool:=l.any (inW t)
theorem hasW_iff {l:List Win} {t:Int}:hasW l t=true↔∃x∈l,x.f≤t∧t<x.t:=by simp[hasW,List.any_eq_true,inW_iff]
theorem hasW_nil (t:Int):hasW [] t=false:=rfl
theorem hasW_cons (x:Win) (l:List Win) (t:Int):hasW (x :: l) t=(inW t x || hasW l t):=rfl
theorem hasW_append (l m:List Win) (t:Int):hasW (l ++ m) t=(hasW l t || hasW m t):=by simp[hasW]
theorem hasW_one (x:Win) (t:Int):hasW [x] t=inW t x:=by simp[hasW]
theorem hasW_perm {l m:List Win} (h:l.Perm m) (t:Int):hasW l t=hasW m t:=by
 rw[Bool.eq_iff_iff,hasW_iff,hasW_iff];constructor<;>rintro⟨x,hx,hh⟩
 ·exact⟨x,h.mem_iff.1 hx,hh⟩
 ·exact⟨x,h.mem_iff.2 hx,hh⟩
structure Norm (l:List Win):Prop where
 v:∀x∈l,0≤x.f∧x.f<x.t∧x.t≤4294944000
 s:l.Pairwise fun a b=>a.t<b.f
theorem norm_nil:Norm []:=⟨fun x h=>(by cases h),List.Pairwise.nil⟩
theorem Norm.tail {x:Win} {l:List Win} (h:Norm (x :: l)):Norm l:=⟨fun y hy=>h.v y (by simp[hy]),(List.pairwise_cons.1 h.s).2⟩
theorem Norm.hd {x:Win} {l:List Win} (h:Norm (x :: l)):∀y∈l,x.t<y.f:=(List.pairwise_cons.1 h.s).1
theorem Norm.drop {l:List Win} (h:Norm l) (k:Nat):Norm (l.drop k):=⟨fun y hy=>h.v y (List.mem_of_mem_drop hy),h.s.sublist (List.drop_sublist k l)⟩
theorem Norm.snoc {l:List Win} {x:Win} (h:Norm l) (hx:0≤x.f∧x.f<x.t∧x.t≤4294944000) (hs:∀y∈l,y.t<x.f):Norm (l ++ [x]):=
 ⟨fun y hy=>by
  rcases List.mem_append.1 hy with h1|h1
  ·exact h.v y h1
  ·simp at h1;subst h1;exact hx,List.pairwise_append.2 ⟨h.s,by simp,fun a ha b hb=>by simp at hb;subst hb;exact hs a ha⟩⟩
theorem norm_unique:∀{u v:List Win},Norm u→Norm v→(∀t,hasW u t=hasW v t)→u=v
 |[],[],_,_,_ =>rfl
 |[],y :: v,_,hv,h=>by
  have:=h y.f;rw[hasW_nil,hasW_cons,show inW y.f y=true from(inW_iff _ _).2 ⟨Int.le_refl _,(hv.v y (by simp)).2.1⟩]at this
  cases this
 |x :: u,[],hu,_,h=>by
  have:=h x.f;rw[hasW_nil,hasW_cons,show inW x.f x=true from(inW_iff _ _).2 ⟨Int.le_refl _,(hu.v x (by simp)).2.1⟩]at this
  cases this
 |x :: u,y :: v,hu,hv,h=>by
  have vx:=hu.v x (by simp);have vy:=hv.v y (by simp);have low:∀{x:Win} {u:List Win},Norm (x :: u)→∀t,hasW (x :: u) t=true→x.f≤t:=fun{x u} hu t ht=>by
   obtain⟨z,hz,h1,h2⟩:=hasW_iff.1 ht;rcases List.mem_cons.1 hz with rfl|hz
   ·exact h1
   ·have:=hu.hd z hz
    have:=hu.v x (by simp);omega
  have gap:∀{x:Win} {u:List Win},Norm (x :: u)→hasW (x :: u) x.t=false:=fun{x u} hu=>by
   cases hh:hasW (x :: u) x.t
   ·rfl
   ·obtain⟨z,hz,h1,h2⟩:=hasW_iff.1 hh
    rcases List.mem_cons.1 hz with rfl|hz
    ·omega
    ·have:=hu.hd z hz;omega
  have ins:∀{x:Win} {u:List Win} (t:Int),x.f≤t→t<x.t→hasW (x :: u) t=true:=fun{x u} t h1 h2=>hasW_iff.2 ⟨x,by simp,h1,h2⟩;have e1:x.f=y.f:=by
   have a1:=low hv x.f (by rw[←h];exact ins _ (Int.le_refl _) vx.2.1);have a2:=low hu y.f (by rw[h];exact ins _ (Int.le_refl _) vy.2.1);omega
  have e2:x.t=y.t:=by
   rcases Int.lt_trichotomy x.t y.t with h1|h1|h1
   ·have:=gap hu
    rw[h,ins (x:=y) (u:=v) x.t (by omega) h1]at this;cases this
   ·exact h1
   ·have:=gap hv
    rw[←h,ins (x:=x) (u:=u) y.t (by omega) h1]at this;cases this
  have exy:x=y:=by cases x;cases y;simp at e1 e2;simp[e1,e2]
  subst exy;rw[norm_unique hu.tail hv.tail (fun t=>?_)];have ht:=h t;rw[hasW_cons,hasW_cons]at ht
  cases hi:inW t x
  ·rw[hi,Bool.false_or,Bool.false_or]at ht;exact ht
  ·obtain⟨i1,i2⟩:=(inW_iff _ _).1 hi
   have no:∀{u:List Win},Norm (x :: u)→hasW u t=false:=fun{u} hu=>by
    cases hh:hasW u t
    ·rfl
    ·obtain⟨z,hz,h1,h2⟩:=hasW_iff.1 hh
     have:=hu.hd z hz;omega
   rw[no hu,no hv]
structure IsSet (u:List Win) (S:Int→Bool):Prop where
 n:Norm u
 h:∀t,hasW u t=S t
theorem IsSet.unique {u v:List Win} {S:Int→Bool} (h:IsSet u S) (k:IsSet v S):u=v:=norm_unique h.n k.n fun t=>by rw[h.h,k.h]
structure Mrg (done out:List Win):Prop where
 n:Norm out
 h:∀t,hasW out t=hasW done t
 b:∀c,(∀x∈done,x.f≤c)→∀v∈out,v.f≤c
theorem mrg_nil:Mrg [] []:=⟨norm_nil,fun _ =>rfl,fun _ _ v h=>(by cases h)⟩
theorem Mrg.skip {done out:List Win} (h:Mrg done out) {w:Win} (he:w.f=w.t):Mrg (done ++ [w]) out:=by
 refine⟨h.n,fun t=>?_,fun c hc v hv=>h.b c (fun x hx=>hc x (by simp[hx])) v hv⟩;rw[hasW_append,hasW_one,h.h];have:inW t w=false:=by
  cases hi:inW t w
  ·rfl
  ·have:=(inW_iff _ _).1 hi;omega
 rw[this,Bool.or_false]
theorem Mrg.join {done o:List Win} {l w:Win} (h:Mrg done (o ++ [l])) (hw:vldW w=true) (h1:l.f≤w.f) (h2:w.f≤l.t) (_hs:∀x∈done,x.f≤w.f):Mrg (done ++ [w]) (o ++ [⟨l.f,max l.t w.t⟩]):=by
 obtain⟨v1,v2,v3⟩:=(vldW_iff w).1 hw;have hl:=h.n.v l (by simp);have hno:Norm o:=⟨fun x hx=>h.n.v x (by simp[hx]),(List.pairwise_append.1 h.n.s).1⟩
 refine⟨hno.snoc ⟨hl.1,by show l.f<max l.t w.t;omega,by show max l.t w.t≤_;omega⟩ fun y hy=>(List.pairwise_append.1 h.n.s).2.2 y hy l (by simp),fun t=>?_,fun c hc v hv=>?_⟩
 ·have:=h.h t
  rw[hasW_append,hasW_one]at this⊢;rw[hasW_append,hasW_one,←this,Bool.or_assoc];congr 1;rw[Bool.eq_iff_iff,Bool.or_eq_true,inW_iff,inW_iff,inW_iff];show l.f≤t∧t<max l.t w.t↔_;omega
 ·rcases List.mem_append.1 hv with hv|hv
  ·exact h.b c (fun x hx=>hc x (by simp[hx])) v (by simp[hv])
  ·simp at hv;subst hv
   exact h.b c (fun x hx=>hc x (by simp[hx])) l (by simp)
theorem Mrg.new {done out:List Win} {w:Win} (h:Mrg done out) (hw:vldW w=true) (hne:w.f<w.t) (hs:∀v∈out,v.t<w.f):Mrg (done ++ [w]) (out ++ [w]):=by
 obtain⟨v1,v2,v3⟩:=(vldW_iff w).1 hw;refine⟨h.n.snoc ⟨v1,hne,v3⟩ hs,fun t=>by rw[hasW_append,hasW_append,h.h],fun c hc v hv=>?_⟩;rcases List.mem_append.1 hv with hv|hv
 ·exact h.b c (fun x hx=>hc x (by simp[hx])) v hv
 ·simp at hv;subst hv;exact hc v (by simp)
theorem Mrg.set {done out:List Win} (h:Mrg done out):IsSet out (hasW done):=⟨h.n,h.h⟩
theorem norm_last {o:List Win} {l:Win} (h:Norm (o ++ [l])) {c:Int} (hc:l.t<c):∀v∈o ++ [l],v.t<c:=fun v hv=>by
 rcases List.mem_append.1 hv with h1|h1
 ·have:=(List.pairwise_append.1 h.s).2.2 v h1 l (by simp)
  have:=h.v l (by simp);omega
 ·simp at h1;subst h1;exact hc
def lenW (l:List Win):Int:=(l.map fun x=>x.t-x.f).sum
theorem lenW_snoc (l:List Win) (x:Win):lenW (l ++ [x])=lenW l+(x.t-x.f):=by simp[lenW]
def badW (l:List Win):Bool:=l.any fun x=>!vldW x
theorem badW_false {l:List Win}:badW l=false↔∀x∈l,vldW x=true:=by
 unfold badW;rw[List.any_eq_false];constructor
 ·intro h x hx;simpa using h x hx
 ·intro h x hx;simpa using h x hx
end Go.Proofs.YtmmlmhnjjfnpnaaGreat
namespace Go.Proofs.YtmmlmhnjjfnpnaaGreat
open Go.RowKit
def cutW (a b:Win):Win:=⟨max a.f b.f,min a.t b.t⟩
theorem inW_cut (a b:Win) (t:Int):inW t (cutW a b)=(inW t a && inW t b):=by
 rw[Bool.eq_iff_iff,Bool.and_eq_true,inW_iff,inW_iff,inW_iff];show max a.f b.f≤t∧t<min a.t b.t↔_;omega
theorem inW_no {x:Win} (h:¬x.f<x.t) (t:Int):inW t x=false:=by
 cases hi:inW t x
 ·rfl
 ·have:=(inW_iff _ _).1 hi;omega
def addW (out:List Win) (w:Win):List Win:=if w.f<w.t then out ++ [w]else out
theorem addW_yes {out:List Win} {w:Win} (h:w.f<w.t):addW out w=out ++ [w]:=if_pos h
theorem addW_no {out:List Win} {w:Win} (h:¬w.f<w.t):addW out w=out:=if_neg h
theorem hasW_add (out:List Win) (w:Win) (t:Int):hasW (addW out w) t=(hasW out t || inW t w):=by
 unfold addW;split
 ·rw[hasW_append,hasW_one]
 ·rename_i h;rw[inW_no h,Bool.or_false]
theorem norm_add {out:List Win} {w:Win} (h:Norm out) (h1:0≤w.f) (h2:w.t≤4294944000) (hs:∀v∈out,v.t<w.f):Norm (addW out w):=by
 unfold addW;split
 ·rename_i h3;exact h.snoc ⟨h1,h3,h2⟩ hs
 ·exact h
theorem mem_add {out:List Win} {w v:Win} (h:v∈addW out w):v∈out∨v=w:=by
 unfold addW at h;split at h
 ·rcases List.mem_append.1 h with h|h
  ·exact .inl h
  ·simp at h;exact .inr h
 ·exact .inl h
theorem norm_before {x:Win} {l:List Win} (h:Norm (x :: l)) {t:Int} (ht:t≤x.t):hasW l t=false:=by
 cases hh:hasW l t
 ·rfl
 ·obtain⟨z,hz,h1,h2⟩:=hasW_iff.1 hh
  have:=h.hd z hz;omega
structure Com (X Y x y out:List Win):Prop where
 n:Norm out
 h:∀t,(hasW X t && hasW Y t)=(hasW out t || (hasW x t && hasW y t))
 s:∀v∈out,∀a∈x,∀b∈y,v.t<max a.f b.f
 nx:Norm x
 ny:Norm y
theorem com_start {X Y:List Win} (hX:Norm X) (hY:Norm Y):Com X Y X Y []:=
 ⟨norm_nil,fun t=>by rw[hasW_nil,Bool.false_or],fun v h=>(by cases h),hX,hY⟩
theorem Com.done {X Y x y out:List Win} (h:Com X Y x y out) (he:x=[]∨y=[]):IsSet out (fun t=>hasW X t && hasW Y t):=
 ⟨h.n,fun t=>by
  rw[h.h t];rcases he with rfl|rfl
  ·rw[hasW_nil,Bool.false_and,Bool.or_false]
  ·rw[hasW_nil,Bool.and_false,Bool.or_false]⟩
theorem Com.both {X Y x y out:List Win} {a b:Win} (h:Com X Y (a :: x) (b :: y) out):Norm (addW out (cutW a b)):=by
 have ha:=h.nx.v a (by simp);have hb:=h.ny.v b (by simp);exact norm_add h.n (by show 0≤max a.f b.f;omega) (by show min a.t b.t≤_;omega) fun v hv=>h.s v hv a (by simp) b (by simp)
theorem Com.left {X Y x y out:List Win} {a b:Win} (h:Com X Y (a :: x) (b :: y) out) (hlt:a.t<b.t):Com X Y x (b :: y) (addW out (cutW a b)):=by
 refine⟨h.both,fun t=>?_,fun v hv a' ha' b' hb'=>?_,h.nx.tail,h.ny⟩
 ·rw[h.h t,hasW_add,inW_cut,hasW_cons a x]
  cases ha:inW t a
  ·simp
  ·have h1:=(inW_iff _ _).1 ha
   have h2:hasW y t=false:=norm_before h.ny (by omega);rw[hasW_cons b y,h2]
   cases inW t b<;>simp
 ·rcases mem_add hv with hv|rfl
  ·exact h.s v hv a' (by simp[ha']) b' hb'
  ·have:=h.nx.hd a' ha'
   show min a.t b.t < _;omega
theorem Com.right {X Y x y out:List Win} {a b:Win} (h:Com X Y (a :: x) (b :: y) out) (hle:b.t≤a.t):Com X Y (a :: x) y (addW out (cutW a b)):=by
 refine⟨h.both,fun t=>?_,fun v hv a' ha' b' hb'=>?_,h.nx,h.ny.tail⟩
 ·rw[h.h t,hasW_add,inW_cut,hasW_cons b y]
  cases hb:inW t b
  ·simp
  ·have h1:=(inW_iff _ _).1 hb
   have h2:hasW x t=false:=norm_before h.nx (by omega);rw[hasW_cons a x,h2]
   cases inW t a<;>simp
 ·rcases mem_add hv with hv|rfl
  ·exact h.s v hv a' ha' b' (by simp[hb'])
  ·have:=h.ny.hd b' hb'
   show min a.t b.t < _;omega
structure ComI (P:Int→Bool) (a:Win) (vd vr out:List Win):Prop where
 n:Norm out
 h:∀t,hasW out t=(P t || (inW t a && hasW vd t))
 s:∀v∈out,v.t<a.f∨((∀b∈vr,v.t<b.f)∧v.t≤a.t)
theorem ComI.step {P:Int→Bool} {a b:Win} {vd vr out:List Win} (h:ComI P a vd (b :: vr) out) (ha:0≤a.f∧a.t≤4294944000) (hV:Norm (b :: vr)):ComI P a (vd ++ [b]) vr (addW out (cutW a b)):=by
 refine⟨norm_add h.n (by show 0≤max a.f b.f;omega) (by show min a.t b.t≤_;omega) fun v hv=>?_,fun t=>?_,fun v hv=>?_⟩
 ·show v.t<max a.f b.f
  rcases h.s v hv with h1|⟨h1,_⟩
  ·omega
  ·have:=h1 b (by simp);omega
 ·rw[hasW_add,h.h,inW_cut,hasW_append,hasW_one]
  cases P t<;>cases inW t a<;>cases hasW vd t<;>simp
 ·rcases mem_add hv with hv|rfl
  ·rcases h.s v hv with h1|⟨h1,h2⟩
   ·exact .inl h1
   ·exact .inr ⟨fun c hc=>h1 c (by simp[hc]),h2⟩
  ·refine .inr ⟨fun c hc=>?_,by show min a.t b.t≤_;omega⟩
   have:=hV.hd c hc;show min a.t b.t < _;omega
structure ComO (V ud ur out:List Win):Prop where
 n:Norm out
 h:∀t,hasW out t=(hasW ud t && hasW V t)
 s:∀v∈out,∀a∈ur,v.t<a.f
theorem ComO.enter {V ud ur out:List Win} {a:Win} (h:ComO V ud (a :: ur) out):ComI (fun t=>hasW ud t && hasW V t) a [] V out:=
 ⟨h.n,fun t=>by rw[h.h,hasW_nil,Bool.and_false,Bool.or_false],fun v hv=>.inl (h.s v hv a (by simp))⟩
theorem ComI.leave {V ud ur out:List Win} {a:Win} (h:ComI (fun t=>hasW ud t && hasW V t) a V [] out) (hU:Norm (a :: ur)):ComO V (ud ++ [a]) ur out:=by
 refine⟨h.n,fun t=>?_,fun v hv c hc=>?_⟩
 ·rw[h.h,hasW_append,hasW_one]
  cases hasW ud t<;>cases inW t a<;>cases hasW V t<;>simp
 ·have h1:=hU.hd c hc
  have h2:=hU.v a (by simp);rcases h.s v hv with h3|⟨_,h3⟩<;>omega
theorem ComO.set {V U out:List Win} (h:ComO V U [] out):IsSet out (fun t=>hasW U t && hasW V t):=⟨h.n,h.h⟩
structure MinI (P B:Int→Bool) (w:Win) (at_:Int) (out:List Win):Prop where
 n:Norm out
 h:∀t,hasW out t=(P t || (decide (w.f≤t) && decide (t<min at_ w.t) && !B t))
 s:∀v∈out,v.t<at_∧v.t≤w.t
 c:w.f≤at_
def Past (w:Win) (at_:Int) (l:List Win):Prop:=∀c∈l,c.t≤at_∨w.t≤c.f
theorem Past.mono {w:Win} {a b:Int} {l:List Win} (h:Past w a l) (hab:a≤b):Past w b l:=fun c hc=>by
 rcases h c hc with h1|h1
 ·exact .inl (by omega)
 ·exact .inr h1
theorem Past.snoc {w:Win} {a:Int} {l:List Win} {b:Win} (h:Past w a l) (hb:b.t≤a∨w.t≤b.f):Past w a (l ++ [b]):=fun c hc=>by
 rcases List.mem_append.1 hc with h1|h1
 ·exact h c h1
 ·simp at h1;subst h1;exact hb
theorem past_free {w:Win} {at_ t:Int} {vd vr:List Win} (hp:Past w at_ vd) (h1:at_≤t) (h2:t<w.t) (h3:∀c∈vr,t<c.f):hasW (vd ++ vr) t=false:=by
 cases hh:hasW (vd ++ vr) t
 ·rfl
 ·obtain⟨z,hz,z1,z2⟩:=hasW_iff.1 hh
  rcases List.mem_append.1 hz with hz|hz
  ·rcases hp z hz with h4|h4<;>omega
  ·have:=h3 z hz;omega
theorem MinI.hole {P:Int→Bool} {w b:Win} {at_:Int} {vd vr out:List Win} (h:MinI P (hasW (vd ++ b :: vr)) w at_ out) (hp:Past w at_ vd) (hw:0≤w.f∧w.t≤4294944000) (hV:Norm (b :: vr)) (h1:b.f<w.t):MinI P (hasW (vd ++ b :: vr)) w (max at_ b.t) (addW out ⟨at_,b.f⟩)∧Past w (max at_ b.t) (vd ++ [b]):=by
 have hb:=hV.v b (by simp);refine⟨⟨norm_add h.n (by have:=h.c;show 0≤at_;omega) (by show b.f≤_;omega) fun v hv=>(h.s v hv).1,fun t=>?_,fun v hv=>?_,by have:=h.c;omega⟩,(hp.mono (by omega)).snoc (.inl (by omega))⟩
 ·rw[hasW_add,h.h]
  have key:inW t ⟨at_,b.f⟩=(decide (at_≤t) && decide (t<min (max at_ b.t) w.t) && !hasW (vd ++ b :: vr) t):=by
   rw[Bool.eq_iff_iff,inW_iff];simp only[Bool.and_eq_true,decide_eq_true_eq,Bool.not_eq_true'];constructor
   ·rintro⟨k1,k2⟩
    have k2':t<b.f:=k2;have k1':at_≤t:=k1;refine⟨⟨k1',by omega⟩,past_free hp k1' (by omega) fun c hc=>?_⟩;rcases List.mem_cons.1 hc with rfl|hc
    ·exact k2'
    ·have:=hV.hd c hc;omega
   ·rintro⟨⟨k1,k2⟩,k3⟩
    refine⟨k1,?_⟩;show t<b.f;rcases Int.lt_or_le t b.f with k4|k4
    ·exact k4
    ·exfalso
     have:hasW (vd ++ b :: vr) t=true:=hasW_iff.2 ⟨b,by simp,k4,by omega⟩;rw[this]at k3;cases k3
  rw[key];have hc:=h.c;by_cases k:at_≤t
  ·rw[decide_eq_true k,decide_eq_true (show w.f≤t by omega)]
   have k2:¬t<min at_ w.t:=by omega
   rw[decide_eq_false k2]
   cases P t<;>simp
  ·rw[decide_eq_false k]
   have k2:decide (t<min at_ w.t)=decide (t<min (max at_ b.t) w.t):=by rw[decide_eq_decide];omega
   rw[k2]
   cases P t<;>simp
 ·rcases mem_add hv with hv|rfl
  ·have:=h.s v hv;omega
  ·show b.f < _∧b.f≤_
   omega
theorem MinI.fin {P:Int→Bool} {w:Win} {at_:Int} {V out:List Win} (h:MinI P (hasW V) w at_ out) (hp:Past w at_ V) (hw:0≤w.f∧w.t≤4294944000):Norm (addW out ⟨at_,w.t⟩)∧(∀t,hasW (addW out ⟨at_,w.t⟩) t=(P t || (inW t w && !hasW V t)))∧∀v∈addW out ⟨at_,w.t⟩,v.t≤w.t:=by
 refine⟨norm_add h.n (by have:=h.c;show 0≤at_;omega) (by exact hw.2) fun v hv=>(h.s v hv).1,fun t=>?_,fun v hv=>?_⟩
 ·rw[hasW_add,h.h]
  have hc:=h.c;have hi:inW t w=(decide (w.f≤t) && decide (t<w.t)):=rfl;have hj:inW t ⟨at_,w.t⟩=(decide (at_≤t) && decide (t<w.t)):=rfl;rw[hi,hj];by_cases k:at_≤t
  ·by_cases k2:t<w.t
   ·have hf:=past_free (vr:=[]) hp k k2 (fun c hc=>by cases hc)
    rw[List.append_nil]at hf;rw[hf,decide_eq_true k,decide_eq_true k2,decide_eq_true (show w.f≤t by omega)]
    cases P t<;>simp
   ·rw[decide_eq_false k2,decide_eq_false (show¬t<min at_ w.t by omega)]
    cases P t<;>simp
  ·rw[decide_eq_false k,show decide (t<min at_ w.t)=decide (t<w.t) by rw[decide_eq_decide];omega]
   cases P t<;>simp
 ·rcases mem_add hv with hv|rfl
  ·exact(h.s v hv).2
  ·exact Int.le_refl _
structure MinO (V ud ur out:List Win):Prop where
 n:Norm out
 h:∀t,hasW out t=(hasW ud t && !hasW V t)
 s:∀v∈out,∀a∈ur,v.t<a.f
theorem minO_start (V U:List Win):MinO V [] U []:=⟨norm_nil,fun t=>by rw[hasW_nil];rfl,fun v h=>(by cases h)⟩
theorem MinO.enter {V ud ur out:List Win} {w:Win} (h:MinO V ud (w :: ur) out) (hw:w.f<w.t):MinI (fun t=>hasW ud t && !hasW V t) (hasW V) w w.f out:=by
 refine⟨h.n,fun t=>?_,fun v hv=>?_,Int.le_refl _⟩
 ·rw[h.h]
  have:(decide (w.f≤t) && decide (t<min w.f w.t))=false:=by
   rw[Bool.and_eq_false_iff,decide_eq_false_iff_not,decide_eq_false_iff_not];omega
  rw[this,Bool.false_and,Bool.or_false]
 ·have:=h.s v hv w (by simp);omega
theorem MinI.leave {V ud ur out:List Win} {w:Win} {at_:Int} (h:MinI (fun t=>hasW ud t && !hasW V t) (hasW V) w at_ out) (hp:Past w at_ V) (hU:Norm (w :: ur)):MinO V (ud ++ [w]) ur (addW out ⟨at_,w.t⟩):=by
 have hw:=hU.v w (by simp);obtain⟨h1,h2,h3⟩:=h.fin hp ⟨hw.1,hw.2.2⟩;refine⟨h1,fun t=>?_,fun v hv a ha=>?_⟩
 ·rw[h2,hasW_append,hasW_one]
  cases hasW ud t<;>cases inW t w<;>cases hasW V t<;>simp
 ·have:=h3 v hv
  have:=hU.hd a ha;omega
theorem MinO.set {V U out:List Win} (h:MinO V U [] out):IsSet out (fun t=>hasW U t && !hasW V t):=⟨h.n,h.h⟩
end Go.Proofs.YtmmlmhnjjfnpnaaGreat
