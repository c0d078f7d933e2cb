/- Texts that belong together. -/
import Derived.WalkKit
import Derived.WalkSpells
import Derived.WalkLawsBesides
import Derived.Lib.Hide
import Derived.BigQuiet
import Derived.StillTailTactics
import Derived.Deep.DeepCutAuto
import Derived.Laws.IdiomCopy
import Derived.ProofKit
import Derived.LaidMore
import Derived.OpenShut
import Derived.ShutString
import Derived.ChangeOld
import Derived.MakeChecks
import Derived.Deep.RegionHeld3
import Derived.Deep.AppendLies
import Derived.Laws.OwnMore
set_option linter.all false
namespace Go.Proofs.YtmmlmhnjjfnpnaaGreat
section
open Go.RowKit
def B0 (l:List Int) (i:Nat):Int:=l.getD i 0
def U0 (n:Int):Prop:=-9223372036854775808≤n∧n≤9223372036854775807
def N0 (w:World) (a:Option Addr) (n:Nat) (x:Nat→Value):Prop:=
 ∀i,i<n→∃b off,a=some ⟨b,off,none⟩∧b<w.heap.size∧w.cell? ⟨b,off+i,none⟩=some (x i)
abbrev S9 (w:World) (a:Option Addr) (l:List Int):Prop:=N0 w a l.length fun i=>.int .i64 (B0 l i)
theorem N0.below {B:Nat} {w w':World} {a n x} (h:N0 w a n x) (hb:Below B w w') (hB:w.heap.size≤B):N0 w' a n x:=by
 intro i hi;obtain⟨b,off,ha,hlt,hc⟩:=h i hi;exact⟨b,off,ha,Nat.lt_of_lt_of_le hlt hb.size,by rw[hb.cell (p:=⟨b,off+i,none⟩) (Nat.lt_of_lt_of_le hlt hB)];exact hc⟩
theorem AA6 (w:World) (o:Obj):Below w.heap.size w (w.alloc o):=(Below.refl w.heap.size w).alloc (Nat.le_refl _) o
theorem D5 {k:IntKind} {a b:Int} (h:a=b):Ending.returned (.int k a)= .returned (.int k b):=by rw[h]
theorem I1 {a b:Bool} (h:a=b):Ending.returned (.bool a)= .returned (.bool b):=by rw[h]
theorem N0.two {w:World} {b off n:Nat} {f:Nat→Value} (h:N0 w (some ⟨b,off,none⟩) n f) (i:Nat) (hi:i<n):b<w.heap.size∧w.cell? ⟨b,off+i,none⟩=some (f i):=by
 obtain⟨b',off',he,hb,hc⟩:=h i hi;simp at he;obtain⟨rfl,rfl⟩:=he;exact⟨hb,hc⟩
def aY (a:Option Addr) (l m s:Nat):Option Addr:=if m=l then a else a.map (·.add (l*s))
@[go_sem] theorem BA9 (a:Option Addr) (m s:Nat):aY a 0 m s=a:=by
 unfold aY;split
 ·rfl
 ·cases a<;>simp[Addr.add]
section
variable {P:Program} (w:World) (t:TypeId) (a:Option Addr) (len cap:Nat) (ht:P.underlying t=some (.slice (P.elem t)))
include ht
@[go_sem] theorem BB0 (lo hi mx:Option Value):
 (Instr.slice t (.slice a len cap) lo hi mx).run P w =
  ((Instr.sliceBounds true len cap lo hi mx).run P w).andThen fun b w=>((sizeOf (P.elem t)).run P w).andThen fun s w=>.ok (.slice (aY a b.1 b.2.2 s) (b.2.1-b.1) (b.2.2-b.1)) w:=by
 simp only[Instr.slice,Sem.run_bind,run_underlying ht,Result.andThen]
 cases(Instr.sliceBounds true len cap lo hi mx).run P w<;>simp[aY]
end
theorem N0.cut {w:World} {a:Option Addr} {n:Nat} {f:Nat→Value} (h:N0 w a n f) (l m:Nat) (hm:n≤m):N0 w (aY a l m 1) (n-l) (fun i=>f (l+i)):=by
 intro i hi;obtain⟨b,off,rfl,hb,hc⟩:=h (l+i) (by omega);refine⟨b,off+l,?_,hb,by rw[Nat.add_assoc];exact hc⟩;unfold aY;rw[if_neg (by omega)];simp only[Option.map_some,Addr.add];split
 ·have:l=0:=by omega
  subst this;rfl
 ·simp
structure A7 (w0:World) where
 w:World
 b:Below w0.heap.size w0 w
instance (w0:World):Nonempty (A7 w0):=⟨⟨w0,Below.refl _ _⟩⟩
theorem A7.refl (w0:World):∃y:A7 w0,w0=y.w:=⟨⟨w0,Below.refl _ _⟩,rfl⟩
def A7.self (w:World):A7 w:=⟨w,Below.refl _ _⟩
theorem A7.cell {w0:World} {b o:Nat} {v:Value} (h:w0.cell? ⟨b,o,none⟩=some v) (hb:b<w0.heap.size) (x:A7 w0):x.w.cell? ⟨b,o,none⟩=some v:=by
 rw[x.b.cell (p:=⟨b,o,none⟩) hb];exact h
theorem A7.free {w0:World} {b o:Nat} (h:w0.frozen? ⟨b,o,none⟩=false) (hb:b<w0.heap.size) (x:A7 w0):x.w.frozen? ⟨b,o,none⟩=false:=by
 rw[x.b.frozen (p:=⟨b,o,none⟩) hb];exact h
theorem A7.row {w0:World} {a n f} (h:N0 w0 a n f) (y:A7 w0):N0 y.w a n f:=h.below y.b (Nat.le_refl _)
theorem A7.at {w0:World} {b off n:Nat} {f:Nat→Value} (h:N0 w0 (some ⟨b,off,none⟩) n f) (i:Nat) (hi:i<n) (y:A7 w0):y.w.cell? ⟨b,off+i,none⟩=some (f i):=
 (N0.two (A7.row h y) i hi).2
theorem A7.step {w0:World} (x:A7 w0) {w:World} (h:Below x.w.heap.size x.w w):∃y:A7 w0,w=y.w:=⟨⟨w,x.b.trans (h.mono x.b.size)⟩,rfl⟩
theorem A7.trans {w0:World} (x:A7 w0) (y:A7 x.w):∃z:A7 w0,y.w=z.w:=x.step y.b
theorem A7.alloc {w0:World} (x:A7 w0) (o:Obj):∃y:A7 w0,x.w.alloc o=y.w:=x.step (AA6 _ _)
theorem A7.allocs {w0:World} (x:A7 w0):∀l:List Obj,∃y:A7 w0,l.foldl World.alloc x.w=y.w
 |[]=>⟨x,rfl⟩
 |o :: l=>by obtain⟨y,e⟩:=x.alloc o;rw[List.foldl_cons,e];exact y.allocs l
theorem A7.lift {w0:World} (x:A7 w0) {w:World} (h:∃y:A7 x.w,w=y.w):∃y:A7 w0,w=y.w:=by
 obtain⟨y,rfl⟩:=h;exact x.trans y
theorem A7.up {w0 w1:World} (h:∃y:A7 w0,w1=y.w) (z:A7 w1):∃y:A7 w0,z.w=y.w:=by
 obtain⟨y,rfl⟩:=h;exact y.trans z
theorem N0.to {w W:World} {a n f} (h:N0 w a n f) (hW:∃z:A7 w,W=z.w):N0 W a n f:=by
 obtain⟨z,rfl⟩:=hW;exact A7.row h z
theorem A7.set {w0:World} (x:A7 w0) (a:Addr) (h:w0.heap.size≤a.block) (v:Value):∃y:A7 w0,x.w.setCell a v=y.w:=
 ⟨⟨_,x.b.setCell h v⟩,rfl⟩
theorem A7.drawn (w:World):∃y:A7 w,{w with drawn:=w.drawn+1}=y.w:=⟨⟨{w with drawn:=w.drawn+1},⟨rfl,rfl,rfl,Nat.le_refl _,fun _ _ =>rfl⟩⟩,rfl⟩
theorem A7.drew {w0:World} (x:A7 w0):∃y:A7 w0,x.w.drew=y.w:=⟨⟨_,x.b.drew⟩,rfl⟩
theorem A7.grown {w0:World} (x:A7 w0) {w':World} {row:Option Nat} (hg:x.w.grownBy w' row) (hr:∀k,row=some k→w0.heap.size≤k):∃y:A7 w0,w'=y.w:=
 ⟨⟨w',x.b.grown hg x.b.size hr⟩,rfl⟩
theorem N0.set {w:World} {a n f} (h:N0 w a n f) (p:Addr) (v:Value) (hp:∀b,a=some b→b.block≠p.block):N0 (w.setCell p v) a n f:=by
 intro i hi;obtain⟨b,off,ha,hb,hc⟩:=h i hi;refine⟨b,off,ha,by simpa[World.setCell]using hb,?_⟩;rw[World.cell?_of_block (w:=w) (a:=⟨b,off+i,none⟩) (Below.heap_setCell _ _ _ _ (by have:=hp _ ha;exact this))];exact hc
structure M6 (P:Program) (t e:TypeId) (z:Value) (size bytes:Nat):Prop where
 t:P.underlying t=some (.slice e)
 e:∃i,P.info? e=some i∧i.zero=some z∧i.size=size∧i.bytes=bytes
 z:z.cells.size=size
 s:0<size
theorem M6.mk' {P:Program} {t e:TypeId} {z:Value} {size bytes:Nat} (h1:P.underlying t=some (.slice e)) (h2:(P.info? e).map (fun i=>(i.zero,i.size,i.bytes))=some (some z,size,bytes)) (h3:z.cells.size=size) (h4:0<size):M6 P t e z size bytes:=by
 obtain⟨i,hi,hz0,hz1,hz2⟩:=info_parts h2;exact⟨h1,⟨i,hi,hz0,hz1,hz2⟩,h3,h4⟩
theorem oH {w:World} {base:Nat} {e:TypeId} {v:Value} {n:Nat} {xs:List Value} (h:w.ownsRow base e 1 v n xs):
 ∃a cap,v= .slice a n cap∧n≤cap∧N0 w a n (fun i=>xs.getD i undef)∧(∀b,a=some b→base≤b.block):=by
 obtain⟨hl,h|⟨g,cap,cur,rfl,hg,hh,hn,hm,hs,ht⟩⟩:=h
 ·obtain⟨rfl,rfl⟩:=h
  exact⟨none,0,rfl,Nat.le_refl _,fun i hi=>(by omega),fun b hb=>by cases hb⟩
 ·refine⟨some ⟨g,0,none⟩,cap,rfl,hn,fun i hi=>?_,fun b hb=>by cases hb;exact hg⟩
  refine⟨g,0,rfl,(Array.getElem?_eq_some_iff.1 hh).1,?_⟩;rw[←ht];simp only[Nat.mul_one]at hs⊢;simp[World.cell?,hh,List.getD_eq_getElem?_getD,hi];rw[Array.getElem?_eq_getElem (by omega)];rfl
theorem aZ {w:World} {base:Nat} {e:TypeId} {s:Nat} {v:Value} {n:Nat} {xs:List Value} (h:w.ownsRow base e s v n xs):∀k,v.ownBlock=some k→base≤k:=by
 obtain⟨hl,h|⟨g,cap,cur,rfl,hg,hh,hn,hm,hs,ht⟩⟩:=h
 ·obtain⟨rfl,rfl⟩:=h;intro k hk;cases hk
 ·intro k hk;cases hk;exact hg
theorem AA7 {w w':World} {base:Nat} {e:TypeId} {s:Nat} {v:Value} {n:Nat} {xs:List Value} (h:w.ownsRow base e s v n xs) (hb:Below w.heap.size w w'):w'.ownsRow base e s v n xs:=by
 obtain⟨hl,h|⟨g,cap,cur,rfl,hg,hh,r⟩⟩:=h
 ·exact⟨hl,.inl h⟩
 ·exact⟨hl,.inr ⟨g,cap,cur,rfl,hg,by rw[hb.block g (Array.getElem?_eq_some_iff.1 hh).1];exact hh,r⟩⟩
theorem AA8 {P:Program} {ops:Array Oper} {rest:List Oper} {o:Oper} {a:Act} {Q:Exit→Act→World→Prop} {w0 w:World} (hw:∃y:A7 w0,w=y.w) (hgd:o.guard=none) (s x:Operand) (t:TypeId)
 (ho:o.op= .call {callee:=.builtin .append,args:=#[s,x],argTypes:=#[t,t]})
 (base:Nat) (hbase:w0.heap.size≤base) (hbase':base≤w.heap.size) (e:TypeId) (z:Value) (bytes:Nat) (ht:M6 P t e z 1 bytes) (v:Value) (n:Nat) (xs:List Value) (hs:a.eval s=v) (hown:w.ownsRow base e 1 v n xs)
 (u:Value) (h1:u.oneCell'=true) (ad:Addr) (c:Nat) (hx:a.eval x= .slice (some ad) 1 c) (hc:w.cell? ad=some u)
 (h63:n+1≤maxLen) (hbytes:(n+1)*bytes≤140737488355328)
 (h:∀v' (q:A7 w0),q.w.ownsRow base e 1 v' (n+1) (xs ++ [u])→base≤q.w.heap.size→wpList P ops Q rest (a.put o.dst v') q.w):wpList P ops Q (o :: rest) a w:=by
 obtain⟨y,rfl⟩:=hw;obtain⟨i,hi,hz,hsize,hby⟩:=ht.e;refine wpList_append_own y.w hgd s x t ho base e i z 1 bytes ht.t hi hz hsize hby ht.z ht.s v n xs hs hown ad 1 c [u] hx rfl ?_ (by simpa using h1) h63 hbytes hbase' ?_
 ·intro j v' hv
  cases j with
  |zero=>simp at hv;subst hv;simpa[Addr.add]using hc
  |succ j=>simp at hv
 ·intro v' w' hown' hg _
  obtain⟨q,rfl⟩:=y.grown hg (fun k hk=>Nat.le_trans hbase (aZ hown k hk));exact h v' q hown' (Nat.le_trans hbase' hg.size)
theorem AA9 {P:Program} {ops:Array Oper} {rest:List Oper} {o:Oper} {a:Act} {Q:Exit→Act→World→Prop} {w0 w:World} (hw:∃y:A7 w0,w=y.w) (hgd:o.guard=none) (l c:Operand) (t:TypeId) (hop:o.op=Op.makeSlice t l c)
 (base:Nat) (hbase':base≤w.heap.size) (e:TypeId) (z:Value) (size bytes:Nat) (ht:M6 P t e z size bytes) (kl kc:IntKind) (n:Nat) (hl:a.eval l= .int kl 0) (hc:a.eval c= .int kc (n:Int)) (b2:bytes*n≤281474976710656) (b3:n≤maxLen)
 (h:∀v (q:A7 w0),q.w.ownsRow base e size v 0 []→base≤q.w.heap.size→wpList P ops Q rest (a.put o.dst v) q.w):wpList P ops Q (o :: rest) a w:=by
 obtain⟨y,rfl⟩:=hw;obtain⟨i,hi,hz,hsize,hby⟩:=ht.e;refine wpList_make_own y.w hgd l c t hop base e i z size ht.t hi hz hsize kl kc n n hl hc rfl (by rw[hby];exact b2) b3 hbase' ?_;intro w' hown hg;obtain⟨q,rfl⟩:=y.grown hg (fun k hk=>by cases hk);exact h _ q hown (Nat.le_trans hbase' hg.size)
theorem AB0 (w:World) (cs:List Value) (e:TypeId) (n:Nat) (f:Nat→Value) (h:∀i,i<n→cs[i]? =some (f i)):N0 (w.alloc (.cells cs.toArray e)) (some ⟨w.heap.size,0,none⟩) n f:=by
 intro i hi;refine⟨_,_,rfl,by simp,?_⟩;have hh:(w.alloc (.cells cs.toArray e)).heap[w.heap.size]? =some (.cells cs.toArray e):=by show(w.heap.push _)[w.heap.size]? = _;simp
 simp only[World.cell?,hh];simpa using h i hi
theorem L5 {P:Program} {id:Nat} {Q:Exit→Act→World→Prop} {a:Act} {w0:World} {x:A7 w0} {l:List Oper} (hm:P.follows .mixedOrders=true) (hB:Region.lexB .any l.toArray=true)
 (h:wpQuiet P l.toArray (fun w'=>∃y:A7 w0,w'=y.w) (fun a'=>∀w',(∃y:A7 w0,w'=y.w)→Q .normal a' w') l a):(Code.region id l.toArray true).wp P Q a x.w:=
 wp_region_quiet (C:=fun w'=>∃y:A7 w0,w'=y.w) hm hB (x.step ⟨rfl,rfl,rfl,Nat.le_refl _,fun _ _ =>rfl⟩) (by simpa using h)
end
section
open Go.RowKit
section
variable {α:Type} (enc:α→List Value) (k:Nat)
def D0 (w:World) (a:Option Addr) (l:List α):Prop:=
 ∀i x,l[i]? =some x→∃b off,a=some ⟨b,off,none⟩∧b<w.heap.size∧∀j v,(enc x)[j]? =some v→w.cell? ⟨b,off+i*k+j,none⟩=some v
def B4 (l:List α):List Value:=l.flatMap enc
theorem AB1:B4 enc []=[]:=rfl
theorem U6 (l m:List α):B4 enc (l ++ m)=B4 enc l ++ B4 enc m:=by simp[B4]
theorem Y1 (x:α):B4 enc [x]=enc x:=by simp[B4]
variable {enc k}
theorem U7 (hk:∀x,(enc x).length=k) (l:List α):(B4 enc l).length=l.length*k:=by
 induction l with
 |nil=>simp[B4]
 |cons x l ih=>
  have:B4 enc (x :: l)=enc x ++ B4 enc l:=by simp[B4]
  rw[this,List.length_append,ih,hk,List.length_cons,Nat.succ_mul];omega
theorem H7 (hk:∀x,(enc x).length=k):∀(l:List α) (i:Nat) (x:α) (j:Nat) (v:Value),l[i]? =some x→(enc x)[j]? =some v→(B4 enc l)[i*k+j]? =some v
 |[],i,x,j,v,h,_ =>by simp at h
 |y :: l,0,x,j,v,h,hv=>by
  simp at h;subst h;have:B4 enc (y :: l)=enc y ++ B4 enc l:=by simp[B4]
  rw[this,Nat.zero_mul,Nat.zero_add,List.getElem?_append_left (List.getElem?_eq_some_iff.1 hv).1];exact hv
 |y :: l,i+1,x,j,v,h,hv=>by
  have:B4 enc (y :: l)=enc y ++ B4 enc l:=by simp[B4]
  rw[this,List.getElem?_append_right (by rw[hk,Nat.succ_mul];omega),hk,show(i+1)*k+j-k=i*k+j by rw[Nat.succ_mul];omega];exact H7 hk l i x j v (by simpa using h) hv
theorem oI (hk:∀x,(enc x).length=k):∀(l:List α) (m:Nat),(B4 enc l).take (m*k)=B4 enc (l.take m)
 |[],m=>by simp[B4]
 |x :: l,0=>by simp[B4]
 |x :: l,m+1=>by
  have e1:B4 enc (x :: l)=enc x ++ B4 enc l:=by simp[B4]
  have e2:B4 enc ((x :: l).take (m+1))=enc x ++ B4 enc (l.take m):=by simp[B4]
  rw[e1,e2,List.take_append,hk,List.take_of_length_le (by rw[hk,Nat.succ_mul];omega),show(m+1)*k-k=m*k by rw[Nat.succ_mul];omega,oI hk l m]
theorem D0.below {B:Nat} {w w':World} {a l} (h:D0 enc k w a l) (hb:Below B w w') (hB:w.heap.size≤B):D0 enc k w' a l:=by
 intro i x hx;obtain⟨b,off,ha,hlt,hc⟩:=h i x hx;exact⟨b,off,ha,Nat.lt_of_lt_of_le hlt hb.size,fun j v hv=>by rw[hb.cell (p:=⟨b,off+i*k+j,none⟩) (Nat.lt_of_lt_of_le hlt hB)];exact hc j v hv⟩
theorem A7.els {w0:World} {a l} (h:D0 enc k w0 a l) (y:A7 w0):D0 enc k y.w a l:=h.below y.b (Nat.le_refl _)
theorem D0.to {w W:World} {a l} (h:D0 enc k w a l) (hW:∃z:A7 w,W=z.w):D0 enc k W a l:=by
 obtain⟨z,rfl⟩:=hW;exact A7.els h z
theorem fL (w:World) (a:Option Addr):D0 enc k w a []:=fun i x h=>by simp at h
theorem D0.keep {w w':World} {a l} (h:D0 enc k w a l) (hs:w.heap.size≤w'.heap.size) (hb:∀b off,a=some ⟨b,off,none⟩→b<w.heap.size→w'.heap[b]? =w.heap[b]?):D0 enc k w' a l:=by
 intro i x hx;obtain⟨b,off,ha,hlt,hc⟩:=h i x hx;exact⟨b,off,ha,by omega,fun j v hv=>by rw[World.cell?_of_block (w:=w) (a:=⟨b,off+i*k+j,none⟩) (hb b off ha hlt)];exact hc j v hv⟩
theorem D0.cut {w:World} {a:Option Addr} {l:List α} (h:D0 enc k w a l) (u m:Nat) (hm:l.length≤m):D0 enc k w (aY a u m k) (l.drop u):=by
 intro i x hx;rw[List.getElem?_drop]at hx;obtain⟨b,off,rfl,hb,hc⟩:=h (u+i) x hx;have hlt:u+i<l.length:=(List.getElem?_eq_some_iff.1 hx).1;refine⟨b,off+u*k,?_,hb,fun j v hv=>?_⟩
 ·unfold aY
  rw[if_neg (by omega)];simp only[Option.map_some,Addr.add];split
  ·rename_i h0;rw[h0];rfl
  ·rfl
 ·have:=hc j v hv
  rw[show off+u*k+i*k+j=off+(u+i)*k+j by rw[Nat.add_mul];omega];exact this
theorem O9 (hk:∀x,(enc x).length=k) (h0:0<k) {w:World} {base:Nat} {e:TypeId} {v:Value} {n:Nat} {l:List α} (h:w.ownsRow base e k v n (B4 enc l)):
 n=l.length∧∃a cap,v= .slice a l.length cap∧l.length≤cap∧D0 enc k w a l∧(∀b,a=some b→base≤b.block)∧(∀b,a=some b→v.ownBlock=some b.block):=by
 have hn:n=l.length:=by
  have:=h.1;rw[U7 hk]at this;exact(Nat.eq_of_mul_eq_mul_right h0 this).symm
 subst hn;refine⟨rfl,?_⟩;obtain⟨hl,h|⟨g,cap,cur,rfl,hg,hh,hn,hm,hs,ht⟩⟩:=h
 ·obtain⟨rfl,hz⟩:=h
  have:l=[]:=List.eq_nil_of_length_eq_zero hz;subst this;exact⟨none,0,rfl,Nat.le_refl _,fL _ _,fun b hb=>(by cases hb),fun b hb=>(by cases hb)⟩
 ·refine⟨some ⟨g,0,none⟩,cap,rfl,hn,fun i x hx=>?_,fun b hb=>by cases hb;exact hg,fun b hb=>by cases hb;rfl⟩
  refine⟨g,0,rfl,(Array.getElem?_eq_some_iff.1 hh).1,fun j v hv=>?_⟩;have hf:=H7 hk l i x j v hx hv;rw[←ht,List.getElem?_take]at hf;split at hf
  ·simp only[World.cell?,hh]
   simpa using hf
  ·cases hf
theorem Z6 (w:World) (cs:List Value) (T:TypeId) (j:Nat) (u:Value) (h:cs[j]? =some u):(w.alloc (.cells cs.toArray T)).cell? ((⟨w.heap.size,0,none⟩:Addr).add j)=some u:=by
 have hh:(w.alloc (.cells cs.toArray T)).heap[w.heap.size]? =some (.cells cs.toArray T):=by show(w.heap.push _)[w.heap.size]? = _;simp
 rw[Addr.add_lit];simp only[World.cell?,hh,Nat.zero_add];simpa using h
theorem J8 {w W:World} {base:Nat} {e:TypeId} {s:Nat} {v:Value} {n:Nat} {xs:List Value} (h:w.ownsRow base e s v n xs) (hW:∃z:A7 w,W=z.w):W.ownsRow base e s v n xs:=by
 obtain⟨z,rfl⟩:=hW;exact AA7 h z.b
theorem lM {w w':World} {base:Nat} {e:TypeId} {s:Nat} {v:Value} {n:Nat} {xs:List Value} {row:Option Nat} (h:w.ownsRow base e s v n xs) (hg:w.grownBy w' row) (hr:∀b,v.ownBlock=some b→some b≠row):w'.ownsRow base e s v n xs:=by
 obtain⟨hl,h|⟨g,cap,cur,rfl,hb,hh,r⟩⟩:=h
 ·exact⟨hl,.inl h⟩
 ·exact⟨hl,.inr ⟨g,cap,cur,rfl,hb,by rw[hg.block g (Array.getElem?_eq_some_iff.1 hh).1 (hr g rfl)];exact hh,r⟩⟩
theorem oJ {w:World} {base:Nat} {e:TypeId} {s:Nat} {v:Value} {n:Nat} {xs:List Value} {r:Nat} {o:Obj} (h:w.ownsRow base e s v n xs) (hr:w.heap[r]? =some o) (ho:∀c t f,o≠.cells c t f):∀b,v.ownBlock=some b→b≠r:=by
 obtain⟨hl,⟨rfl,_⟩|⟨g,cap,cur,rfl,hb,hh,_⟩⟩:=h
 ·intro b hb;cases hb
 ·intro b hb' e
  cases hb';change g=r at e;subst e;rw[hr]at hh;exact ho _ _ _ (Option.some.inj hh)
theorem fM {P:Program} {ops:Array Oper} {rest:List Oper} {o:Oper} {a:Act} {Q:Exit→Act→World→Prop} {w0 w:World} (hw:∃y:A7 w0,w=y.w) (hgd:o.guard=none) (s x:Operand) (t:TypeId)
 (ho:o.op= .call {callee:=.builtin .append,args:=#[s,x],argTypes:=#[t,t]})
 (base:Nat) (hbase:w0.heap.size≤base) (hbase':base≤w.heap.size) (e:TypeId) (z:Value) (bytes:Nat) (ht:M6 P t e z k bytes) (v:Value) (n:Nat) (xs:List Value) (hs:a.eval s=v) (hown:w.ownsRow base e k v n xs)
 (ad:Addr) (m c:Nat) (news:List Value) (hx:a.eval x= .slice (some ad) m c) (hn:news.length=m*k) (hc:∀j u,news[j]? =some u→w.cell? (ad.add j)=some u) (h1:∀u∈news,u.oneCell'=true)
 (h63:n+m≤maxLen) (hbytes:(n+m)*bytes≤140737488355328)
 (h:∀v' (q:A7 w0),q.w.ownsRow base e k v' (n+m) (xs ++ news)→base≤q.w.heap.size→w.grownBy q.w v.ownBlock→wpList P ops Q rest (a.put o.dst v') q.w):wpList P ops Q (o :: rest) a w:=by
 obtain⟨y,rfl⟩:=hw;obtain⟨i,hi,hz,hsize,hby⟩:=ht.e;refine wpList_append_own y.w hgd s x t ho base e i z k bytes ht.t hi hz hsize hby ht.z ht.s v n xs hs hown ad m c news hx hn hc h1 h63 hbytes hbase' ?_;intro v' w' hown' hg _;obtain⟨q,rfl⟩:=y.grown hg (fun k hk=>Nat.le_trans hbase (aZ hown k hk));exact h v' q hown' (Nat.le_trans hbase' hg.size) hg
theorem oK (hk:∀x,(enc x).length=k) (h0:0<k):∀(l:List α) (j:Nat) (u:Value),(B4 enc l)[j]? =some u→∃x,l[j/k]? =some x∧(enc x)[j % k]? =some u
 |[],j,u,h=>by simp[B4]at h
 |y :: l,j,u,h=>by
  have e:B4 enc (y :: l)=enc y ++ B4 enc l:=by simp[B4]
  rw[e]at h;by_cases hj:j<k
  ·rw[List.getElem?_append_left (by rw[hk];exact hj)]at h
   exact⟨y,by rw[Nat.div_eq_of_lt hj];rfl,by rw[Nat.mod_eq_of_lt hj];exact h⟩
  ·rw[List.getElem?_append_right (by rw[hk];omega),hk]at h
   obtain⟨x,h1,h2⟩:=oK hk h0 l (j-k) u h;have e1:j/k=(j-k)/k+1:=by
    have:=Nat.add_div_right (j-k) h0;rw[show j-k+k=j by omega]at this;exact this
   have e2:j % k=(j-k) % k:=by
    have:=Nat.add_mod_right (j-k) k;rw[show j-k+k=j by omega]at this;exact this
   exact⟨x,by rw[e1];simpa using h1,by rw[e2];exact h2⟩
theorem cY {P:Program} {ops:Array Oper} {rest:List Oper} {o:Oper} {a:Act} {Q:Exit→Act→World→Prop} {w0 w:World} (hk:∀x,(enc x).length=k) (h0:0<k) (h1:∀x,∀u∈enc x,u.oneCell'=true) (hw:∃y:A7 w0,w=y.w) (hgd:o.guard=none) (s x:Operand) (t:TypeId)
 (ho:o.op= .call {callee:=.builtin .append,args:=#[s,x],argTypes:=#[t,t]})
 (base:Nat) (hbase:w0.heap.size≤base) (hbase':base≤w.heap.size) (e:TypeId) (z:Value) (bytes:Nat) (ht:M6 P t e z k bytes) (v:Value) (n:Nat) (xs:List Value) (hs:a.eval s=v) (hown:w.ownsRow base e k v n xs)
 (ao:Option Addr) (us:List α) (c:Nat) (hx:a.eval x= .slice ao us.length c) (hels:D0 enc k w ao us) (hnil:ao=none→c=0)
 (h63:n+us.length≤maxLen) (hbytes:(n+us.length)*bytes≤140737488355328)
 (h:∀v' (q:A7 w0),q.w.ownsRow base e k v' (n+us.length) (xs ++ B4 enc us)→base≤q.w.heap.size→w.grownBy q.w v.ownBlock→wpList P ops Q rest (a.put o.dst v') q.w):wpList P ops Q (o :: rest) a w:=by
 cases ao with
 |none=>
  have hus:us=[]:=by
   cases us with
   |nil=>rfl
   |cons y us=>
    obtain⟨b,off,hb,_⟩:=hels 0 y rfl
    cases hb
  subst hus
  obtain rfl:=hnil rfl
  obtain⟨y,rfl⟩:=hw
  obtain⟨i,hi,hz,hsize,hby⟩:=ht.e
  refine wpList_plain hgd fun K hK'=>?_
  have hrun:=run_append_owned_none (P:=P) y.w base t o.type e i k ht.t hi v n xs hown
  unfold Oper.wp
  simp[execOp,ho,resolve,invoke,builtin,hs,hx,hrun,Result.andThen]
  exact hK' _ _ (h v y (by simpa[B4]using hown) hbase' (World.grownBy.refl _ _))
 |some ad=>
  refine fM hw hgd s x t ho base hbase hbase' e z bytes ht v n xs hs hown ad us.length c (B4 enc us) hx (U7 hk us) ?_ ?_ h63 hbytes h
  ·intro j u hu
   obtain⟨y,hy,hr⟩:=oK hk h0 us j u hu;obtain⟨b,off,hb,_,hc⟩:=hels _ y hy;have hb':ad=⟨b,off,none⟩:=Option.some.inj hb;subst hb';have:=hc _ u hr;rw[Addr.add_lit,show off+j=off+j/k*k+j % k by rw[Nat.add_assoc,Nat.mul_comm,Nat.div_add_mod]];exact this
  ·intro u hu
   obtain⟨y,_,hy⟩:=List.mem_flatMap.1 hu;exact h1 y u hy
end
end
section
open Go.RowKit
section
variable {P:Program}
theorem yN (w:World) (dT sT ty elem:TypeId) (k b o dLen dCap:Nat) (a:Addr) (sLen sCap:Nat) (cs:List Value)
 (hu:P.underlying dT=some (.slice elem)) (hs:(P.info? elem).map (·.size)=some k) (hn:cs.length=Nat.min sLen dLen*k)
 (hsrc:∀j v,cs[j]? =some v→w.cell? (a.add j)=some v) (hc:∀j,j<cs.length→(w.cell? ⟨b,o+j,none⟩).isSome=true) (hf:∀j,j<cs.length→w.frozen? ⟨b,o+j,none⟩=false) (h1:∀v∈cs,v.oneCell'=true):
 (Builtin.copy_ #[dT,sT] ty #[.slice (some ⟨b,o,none⟩) dLen dCap,.slice (some a) sLen sCap]).run P w= .ok (goInt (Nat.min sLen dLen:Nat)) (w.setCells b o cs):=by
 have hl:=run_loadCells_list (P:=P) w a cs hsrc;have hst:=run_storeCells_cells (P:=P) b o cs 0 w (by simpa using hc) (by simpa using hf) h1
 cases hq:P.info? elem with
 |none=>simp[hq]at hs
 |some i=>
  have hi:i.size=k:=by simpa[hq]using hs
  simp[Builtin.copy_,run_underlying hu,Builtin.lenOf,Builtin.firstCells,sizeOf,typeInfo,hq,hi,←hn,hl,hst]
theorem yO (w:World) (dT sT ty elem:TypeId) (k:Nat) (d a:Option Addr) (dLen dCap sLen sCap:Nat) (hu:P.underlying dT=some (.slice elem)) (hs:(P.info? elem).map (·.size)=some k) (hn:Nat.min sLen dLen=0):
 (Builtin.copy_ #[dT,sT] ty #[.slice d dLen dCap,.slice a sLen sCap]).run P w= .ok (goInt 0) w:=by
 cases hq:P.info? elem with
 |none=>simp[hq]at hs
 |some i=>
  have hl:∀(x:Addr),(loadCells x 0).run P w= .ok #[] w:=fun x=>by simpa using run_loadCells_list (P:=P) w x [] (by simp)
  cases d<;>cases a<;>simp[Builtin.copy_,run_underlying hu,Builtin.lenOf,Builtin.firstCells,sizeOf,typeInfo,hq,hn,storeCells,hl]
end
theorem yP (g:Nat) (e:TypeId) (fr:Nat×Nat):∀(vs:List Value) (o:Nat) (w:World) (cur:Array Value),w.heap[g]? =some (.cells cur e fr)→∃cur',(w.setCells g o vs).heap[g]? =some (.cells cur' e fr)∧cur'.size=cur.size
 |[],_,_,cur,h=>⟨cur,h,rfl⟩
 |v :: vs,o,w,cur,h=>by
  have h1:(w.setCell ⟨g,o,none⟩ v).heap[g]? =some (.cells (cur.setIfInBounds o v) e fr):=by
   simp[World.setCell,Array.getElem?_modify,h]
  obtain⟨cur',h2,h3⟩:=yP g e fr vs (o+1) _ _ h1;exact⟨cur',h2,by rw[h3];simp⟩
theorem yQ (g:Nat) (vs:List Value) (o:Nat) (w:World):w.grownBy (w.setCells g o vs) (some g):=by
 have hs:∀(vs:List Value) (o:Nat) (w:World),(w.setCells g o vs).os=w.os∧(w.setCells g o vs).tape=w.tape∧(w.setCells g o vs).output=w.output∧(w.setCells g o vs).heap.size=w.heap.size∧∀j,j≠g→(w.setCells g o vs).heap[j]? =w.heap[j]? :=by
  intro vs;induction vs with
  |nil=>intro o w;exact⟨rfl,rfl,rfl,rfl,fun _ _ =>rfl⟩
  |cons v vs ih=>
   intro o w
   obtain⟨h1,h2,h3,h4,h5⟩:=ih (o+1) (w.setCell ⟨g,o,none⟩ v)
   exact⟨h1,h2,h3,h4.trans (by simp[World.setCell]),fun j hj=>(h5 j hj).trans (Below.heap_setCell w ⟨g,o,none⟩ v j hj)⟩
 obtain⟨h1,h2,h3,h4,h5⟩:=hs vs o w;exact⟨h1,h2,h3,Nat.le_of_eq h4.symm,fun j _ hj=>h5 j (fun e=>hj (by rw[e]))⟩
section
variable {α:Type} {enc:α→List Value} {k:Nat}
theorem AB2 {w:World} {base:Nat} {e:TypeId} {g n cap:Nat} {xs:List Value} (h:w.ownsRow base e k (.slice (some ⟨g,0,none⟩) n cap) n xs) (cs:List Value) (hl:cs.length=n*k):(w.setCells g 0 cs).ownsRow base e k (.slice (some ⟨g,0,none⟩) n cap) n cs:=by
 obtain⟨_,⟨hbad,_⟩|⟨g',cap',cur,he,hb,hh,h1,h2,h3,h4⟩⟩:=h
 ·cases hbad
 ·obtain⟨rfl,rfl⟩:g=g'∧cap=cap':=by simpa using he
  obtain⟨cur',hh',hsz⟩:=yP g e (0,0) cs 0 w cur hh;have hle:n*k≤cap*k:=Nat.mul_le_mul_right k h1;refine⟨hl,.inr ⟨g,cap,cur',rfl,hb,hh',h1,h2,by rw[hsz,h3],?_⟩⟩;apply List.ext_getElem?;intro j;by_cases hj:j<n*k
  ·rw[List.getElem?_take,if_pos hj]
   have hc:=World.cell?_setCells_in g cs 0 w (fun i hi=>by
    simp only[World.cell?,hh,Nat.zero_add];have:i<cur.size:=by omega
    simp[this]) j (by omega)
   simp only[World.cell?,hh',Nat.zero_add]at hc;rw[List.getElem?_eq_getElem (show j<cs.length by omega),←hc];simp
  ·rw[List.getElem?_eq_none (by simp;omega),List.getElem?_eq_none (by omega)]
theorem iR {w:World} {base:Nat} {e:TypeId} {g n cap:Nat} {xs:List Value} (h:w.ownsRow base e k (.slice (some ⟨g,0,none⟩) n cap) n xs) {j:Nat} (_hj:j<xs.length) (u:Value):(w.setCell ⟨g,j,none⟩ u).ownsRow base e k (.slice (some ⟨g,0,none⟩) n cap) n (xs.set j u):=by
 obtain⟨hl,⟨hbad,_⟩|⟨g',cap',cur,he,hb,hh,h1,h2,h3,h4⟩⟩:=h
 ·cases hbad
 ·obtain⟨rfl,rfl⟩:g=g'∧cap=cap':=by simpa using he
  have h5:(w.setCell ⟨g,j,none⟩ u).heap[g]? =some (.cells (cur.setIfInBounds j u) e (0,0)):=by
   simp[World.setCell,Array.getElem?_modify,hh]
  refine⟨by simpa using hl,.inr ⟨g,cap,cur.setIfInBounds j u,rfl,hb,h5,h1,h2,by simpa using h3,?_⟩⟩;rw[Array.toList_setIfInBounds,List.take_set,h4]
theorem P6 {w:World} {base:Nat} {e:TypeId} {g n cap:Nat} {xs:List Value} (h:w.ownsRow base e k (.slice (some ⟨g,0,none⟩) n cap) n xs) {j:Nat} {u:Value} (hj:xs[j]? =some u):(∀y:A7 w,y.w.cell? ⟨g,j,none⟩=some u)∧(∀y:A7 w,y.w.frozen? ⟨g,j,none⟩=false)∧base≤g:=by
 obtain⟨hl,⟨hbad,_⟩|⟨g',cap',cur,he,hb,hh,h1,h2,h3,h4⟩⟩:=h
 ·cases hbad
 ·obtain⟨rfl,rfl⟩:g=g'∧cap=cap':=by simpa using he
  have hlt:g<w.heap.size:=(Array.getElem?_eq_some_iff.1 hh).1;rw[←h4,List.getElem?_take]at hj;split at hj
  ·refine⟨fun y=>A7.cell ?_ hlt y,fun y=>A7.free ?_ hlt y,hb⟩
   ·simp only[World.cell?,hh]
    simpa using hj
   ·simp[World.frozen?,hh]
  ·cases hj
theorem eQ {w:World} {base:Nat} {e:TypeId} {v:Value} {n:Nat} {xs:List Value} (h:w.ownsRow base e k v n xs) (hn:0<n):∃g cap,v= .slice (some ⟨g,0,none⟩) n cap∧base≤g∧n≤cap:=by
 obtain⟨_,⟨rfl,hz⟩|⟨g,cap,cur,rfl,hg,_,h1,_⟩⟩:=h
 ·omega
 ·exact⟨g,cap,rfl,hg,h1⟩
theorem yR {P:Program} {w0:World} (y:A7 w0) (hk:∀x,(enc x).length=k) (h0:0<k) (h1:∀x,∀u∈enc x,u.oneCell'=true) (t ty:TypeId)
 (base:Nat) (hbase:w0.heap.size≤base) (e:TypeId) (z:Value) (bytes:Nat) (ht:M6 P t e z k bytes) (v:Value) (n:Nat) (xs:List Value) (hown:y.w.ownsRow base e k v n xs)
 (ao:Option Addr) (us:List α) (c:Nat) (hels:D0 enc k y.w ao us) (hlen:us.length=n):
 ∃q:A7 w0,(Builtin.copy_ #[t,t] ty #[v,.slice ao us.length c]).run P y.w= .ok (goInt (n:Nat)) q.w∧q.w.ownsRow base e k v n (B4 enc us)∧y.w.grownBy q.w v.ownBlock:=by
 obtain⟨i,hi,hz,hsize,hby⟩:=ht.e;have hsz:(P.info? e).map (·.size)=some k:=by rw[hi];simp[hsize]
 by_cases hn:n=0
 ·subst hn
  have hus:us=[]:=List.eq_nil_of_length_eq_zero hlen;subst hus;have hv:∃p cap,v= .slice p 0 cap:=by
   obtain⟨_,⟨rfl,_⟩|⟨g,cap,cur,rfl,_⟩⟩:=hown
   ·exact⟨none,0,rfl⟩
   ·exact⟨_,cap,rfl⟩
  obtain⟨p,cap,rfl⟩:=hv;have hrun:=yO (P:=P) y.w t t ty e k p ao 0 cap 0 c ht.t hsz rfl;have hxs:xs=[]:=by have:=hown.1;simpa using this
  exact⟨y,hrun,by rw[AB1,←hxs];exact hown,World.grownBy.refl _ _⟩
 ·obtain⟨b,off,rfl,hb,_⟩:=hels 0 (us[0]'(by omega)) (List.getElem?_eq_getElem (by omega))
  have hown':=hown;obtain⟨_,⟨rfl,hz0⟩|⟨g,cap,cur,rfl,hg,hh,h2,h3,h4,h5⟩⟩:=hown'
  ·exact(hn hz0).elim
  have hfl:(B4 enc us).length=n*k:=by rw[U7 hk,hlen]
  have hle:n*k≤cap*k:=Nat.mul_le_mul_right k h2;have hrun:=yN (P:=P) y.w t t ty e k g 0 n cap ⟨b,off,none⟩ us.length c (B4 enc us) ht.t hsz (by rw[hfl,hlen];simp) (fun j u hu=>by
   obtain⟨x,hx',hr⟩:=oK hk h0 us j u hu;obtain⟨b',off',hb',_,hc⟩:=hels _ x hx';simp only[Option.some.injEq,Addr.mk.injEq,and_true]at hb';obtain⟨rfl,rfl⟩:=hb';have:=hc _ u hr;rw[Addr.add_lit,show off+j=off+j/k*k+j % k by rw[Nat.add_assoc,Nat.mul_comm,Nat.div_add_mod]];exact this) (fun j hj=>by
   have:j<cur.size:=by omega
   simp[World.cell?,hh,this]) (fun j hj=>by simp[World.frozen?,hh]) (fun u hu=>by
   obtain⟨x,_,hx'⟩:=List.mem_flatMap.1 hu;exact h1 x u hx')
  rw[show Nat.min us.length n=n by rw[hlen];exact Nat.min_self n]at hrun;have hgr:=yQ g (B4 enc us) 0 y.w;have hown2:=AB2 hown (B4 enc us) hfl;obtain⟨q,hq⟩:=y.grown hgr (fun k hk=>by cases hk;omega);rw[hq]at hgr hown2 hrun;exact⟨q,hrun,hown2,hgr⟩
end
end
section
open Go.RowKit
section
variable {α:Type} {enc:α→List Value} {k:Nat}
theorem yS (hk:∀x,(enc x).length=k):∀(l:List α) (i:Nat) (y:α),i<l.length→B4 enc (l.set i y)=(B4 enc l).take (i*k) ++ enc y ++ (B4 enc l).drop (i*k+k)
 |[],i,y,h=>by simp at h
 |x :: l,0,y,_ =>by
  have e1:B4 enc (x :: l)=enc x ++ B4 enc l:=rfl;have e2:B4 enc ((x :: l).set 0 y)=enc y ++ B4 enc l:=rfl;rw[e1,e2,Nat.zero_mul,List.take_zero,List.nil_append,Nat.zero_add,List.drop_append,hk,List.drop_of_length_le (by rw[hk];exact Nat.le_refl _),Nat.sub_self,List.drop_zero,List.nil_append]
 |x :: l,i+1,y,h=>by
  have e1:B4 enc (x :: l)=enc x ++ B4 enc l:=rfl;have e2:B4 enc ((x :: l).set (i+1) y)=enc x ++ B4 enc (l.set i y):=rfl;have ih:=yS hk l i y (by simpa using h);rw[e1,e2,ih,Nat.succ_mul,List.take_append,List.drop_append,hk,List.take_of_length_le (l:=enc x) (by rw[hk];omega),List.drop_of_length_le (l:=enc x) (by rw[hk];omega)];rw[show i*k+k-k=i*k by omega,show i*k+k+k-k=i*k+k by omega];simp
theorem oL {base:Nat} {e:TypeId} {g n cap:Nat}:∀(vs:List Value) (xs:List Value) (j:Nat) (w:World),w.ownsRow base e k (.slice (some ⟨g,0,none⟩) n cap) n xs→j+vs.length≤xs.length→(w.setCells g j vs).ownsRow base e k (.slice (some ⟨g,0,none⟩) n cap) n (xs.take j ++ vs ++ xs.drop (j+vs.length))
 |[],xs,j,w,h,_ =>by
  show w.ownsRow _ _ _ _ _ _;simpa using h
 |v :: vs,xs,j,w,h,hj=>by
  simp only[List.length_cons]at hj;have h1:=iR h (j:=j) (by omega) v;have h2:=oL vs (xs.set j v) (j+1) _ h1 (by rw[List.length_set];omega);have e:(xs.set j v).take (j+1) ++ vs ++ (xs.set j v).drop (j+1+vs.length)=xs.take j ++ (v :: vs) ++ xs.drop (j+(v :: vs).length):=by
   rw[List.drop_set_of_lt (by omega),List.take_set,List.take_add_one,List.getElem?_eq_getElem (by omega),List.length_cons,show j+1+vs.length=j+(vs.length+1) by omega];rw[List.set_append_right _ _ (by rw[List.length_take];omega),List.length_take,show j-min j xs.length=0 by omega];simp
  rw[e]at h2;exact h2
theorem AB3 (hk:∀x,(enc x).length=k) {w:World} {base:Nat} {e:TypeId} {g n cap:Nat} {l:List α} (h:w.ownsRow base e k (.slice (some ⟨g,0,none⟩) n cap) n (B4 enc l)) {i:Nat} (hi:i<l.length) (y:α):(w.setCells g (i*k) (enc y)).ownsRow base e k (.slice (some ⟨g,0,none⟩) n cap) n (B4 enc (l.set i y)):=by
 have hb:(i+1)*k≤l.length*k:=Nat.mul_le_mul_right k hi;rw[Nat.succ_mul]at hb;have:=oL (enc y) (B4 enc l) (i*k) w h (by rw[hk,U7 hk];exact hb);rw[hk]at this;rw[yS hk l i y hi];exact this
theorem yT (hk:∀x,(enc x).length=k) {w:World} {base:Nat} {e:TypeId} {g n cap:Nat} {l:List α} (h:w.ownsRow base e k (.slice (some ⟨g,0,none⟩) n cap) n (B4 enc l)) (hn:n=l.length) {m:Nat} (hm:m≤l.length):w.ownsRow base e k (.slice (some ⟨g,0,none⟩) m cap) m (B4 enc (l.take m)):=by
 subst hn;obtain⟨hl,⟨hbad,_⟩|⟨g',cap',cur,he,hb,hh,h1,h2,h3,h4⟩⟩:=h
 ·cases hbad
 ·obtain⟨rfl,rfl⟩:g=g'∧cap=cap':=by simpa using he
  refine⟨by rw[U7 hk,List.length_take,Nat.min_eq_left hm],.inr ⟨g,cap,cur,rfl,hb,hh,by omega,h2,h3,?_⟩⟩;rw[←oI hk l m,←h4,List.take_take,Nat.min_eq_left (Nat.mul_le_mul_right k hm)]
theorem AB4 (hk:∀x,(enc x).length=k) {w:World} {base:Nat} {e:TypeId} {g n cap:Nat} {l:List α} (h:w.ownsRow base e k (.slice (some ⟨g,0,none⟩) n cap) n (B4 enc l)) (hn:n=l.length) {m:Nat} (hm:m≤l.length) (vs:List Value) (hv:vs.length=(l.length-m)*k):(w.setCells g (m*k) vs).ownsRow base e k (.slice (some ⟨g,0,none⟩) m cap) m (B4 enc (l.take m)):=by
 subst hn;have e1:m*k+(l.length-m)*k=l.length*k:=by rw[←Nat.add_mul];congr 1;omega
 have h1:=oL vs (B4 enc l) (m*k) w h (by rw[hv,U7 hk];omega);obtain⟨hl,⟨hbad,_⟩|⟨g',cap',cur,he,hb,hh,c1,c2,c3,c4⟩⟩:=h1
 ·cases hbad
 ·obtain⟨rfl,rfl⟩:g=g'∧cap=cap':=by simpa using he
  refine⟨by rw[U7 hk,List.length_take,Nat.min_eq_left hm],.inr ⟨g,cap,cur,rfl,hb,hh,by omega,c2,c3,?_⟩⟩;have:(cur.toList.take (l.length*k)).take (m*k)=cur.toList.take (m*k):=by rw[List.take_take,Nat.min_eq_left (Nat.mul_le_mul_right k hm)]
  rw[←this,c4,←oI hk l m,List.append_assoc,List.take_append_of_le_length (by rw[List.length_take,U7 hk];omega),List.take_take,Nat.min_self]
theorem AB5 {P:Program} (w:World) (t ty e:TypeId) (z:Value) (hu:P.underlying t=some (.slice e)) (hz:(zeroValue e).run P w= .ok z w) (b o n c:Nat) (hn:0<n)
 (hc:∀j,j<n*z.cells.size→(w.cell? ⟨b,o+j,none⟩).isSome=true) (hf:∀j,j<n*z.cells.size→w.frozen? ⟨b,o+j,none⟩=false) (h1:∀v∈(Builtin.zeroCells z.cells n).toList,v.oneCell'=true):
 (Builtin.clear_ #[t] ty #[.slice (some ⟨b,o,none⟩) n c]).run P w= .ok (.tuple #[]) (w.setCells b o (Builtin.zeroCells z.cells n).toList):=by
 have hs:(Builtin.zeroCells z.cells n).toList.length=n*z.cells.size:=by rw[Array.length_toList];exact size_zeroCells _ _
 have hst:=run_storeCells_cells (P:=P) b o (Builtin.zeroCells z.cells n).toList 0 w (by rw[hs];simpa using hc) (by rw[hs];simpa using hf) h1;obtain⟨m,rfl⟩:∃m,n=m+1:=⟨n-1,by omega⟩
 simp[Builtin.clear_,run_underlying hu,hz,Result.andThen];rw[show(storeCells ⟨b,o,none⟩ (Builtin.zeroCells z.cells (m+1)).toList).run P w= .ok () (w.setCells b o (Builtin.zeroCells z.cells (m+1)).toList)from by simpa using hst]
end
end
section
open Go.ChangeShapes Go.WideShapes Go.ChangeAt Go.RowKit
section
variable {H:Type} {enc:TypeId×Value→H} {P:Program}
theorem yU (hl:laidOutB P=true) {W W':World} (hb:Below W.heap.size W W'):∀(ts:List TypeId) (vs:List Value) (ds:List (DataW H)) (ps:List MemPlace),
 (ts.all fun t=>P.readableRec t && decide (t<P.types.size))=true→DataW.TrodAll enc P W 0 (fun _ =>true) true ts vs ds ps→DataW.TrodAll enc P W' 0 (fun b=>decide (b<W.heap.size)) true ts vs ds ps
 |[],vs,ds,ps,_,h=>by
  obtain⟨rfl,rfl,rfl⟩:=trodAll_nil h;exact trodAll_mk0
 |t :: ts,vs,ds,ps,hr,h=>by
  obtain⟨v,vs',d,ds',p,q,rfl,rfl,rfl,h0,r0⟩:=trodAll_cons h;simp only[List.all_cons,Bool.and_eq_true,decide_eq_true_eq]at hr;have lt0:∀x∈p,x.block<W.heap.size:=by obtain⟨m,hm⟩:=h0;exact DataW.trod_lt m _ _ _ hm
  exact trodAll_cons_mk (Below.trod hl hr.1.1 hr.1.2 h0 hb lt0) (yU hl hb ts vs' ds' q hr.2 r0)
theorem AB6 {fn:Func} {s:ChangeSpec} {W W':World} {args:Array Value} {ds gs:List (DataW H)} {before:List MemPlace} {e:Ending} {T:TypeId} (hl:laidOutB P=true)
 (hrd:(fn.params.toList.all fun t=>P.readableRec t && decide (t<P.types.size))=true) (hT:fn.resultTypes=#[T]) (hTb:P.underlying T=some .bool) (hvars:s.vars=[])
 (hW:DataW.Whole enc P fn.params.toList s.vars false W args.toList ds gs before) (hs:s.fn H (ds ++ gs)={results:=[.lit (.bool true)],args:=ds}) (hy:e= .returned (.bool true)∧∃y:A7 W,W'=y.w):
 ∃v,e= .returned v∧s.post enc P fn false true false false W args v W':=by
 obtain⟨rfl,y,rfl⟩:=hy;have hW':=hW;obtain⟨p,q,hA,hV,rfl,hfz,hnd⟩:=hW;rw[hvars]at hV;obtain⟨rfl,rfl⟩:=trodVars_none hV;refine⟨_,rfl,ds,[],_,[],p,[],hW',?_,?_,?_,y.b.frame _,fun h=>by cases h⟩
 ·rw[hs,hT]
  exact trodAll_mk1 (shut_bool hTb _)
 ·rw[hs]
  exact yU hl y.b _ _ _ _ hrd hA
 ·rw[hs,hvars]
  rfl
theorem yV {w:World} {base n:Nat} {spare:Nat→Bool} {held:Bool} {t e:TypeId} {k:IntKind} {c:Value} {y:DataW H×List MemPlace} (ht:P.underlying t=some (.slice e)) (he:P.underlying e=some (.int k)) (hc:P.cellsOf e=1)
 (h:DataW.trod enc P w base spare held n t [c]=some y):
 ∃a l cap,c= .slice a l.length cap∧l.length≤cap∧cap≤9223372036854775807∧(N0 w a l.length fun i=>.int k (B0 l i))∧∀z∈l,(Lit.int k z).wf=true:=by
 rcases open_ints ht he hc h with⟨hcs,_⟩|⟨x,len,cap,zs,hcs,_,hl,hm,hz,_,hcell,hwz⟩
 ·simp at hcs;subst hcs
  exact⟨none,[],0,rfl,Nat.le_refl _,by decide,fun i hi=>(by simp at hi),fun z hz=>(by simp at hz)⟩
 ·simp at hcs;subst hcs
  have hlz:len≤zs.length:=by rw[hz];split<;>omega
  have hlen:(zs.take len).length=len:=by simp;omega
  refine⟨some x,zs.take len,cap,by rw[hlen],by rw[hlen];exact hl,hm,?_,fun z hz=>hwz z (List.mem_of_mem_take hz)⟩;intro i hi;rw[hlen]at hi;obtain⟨b,off,spot⟩:=x;have hc0:=hcell i (by omega);have hs0:=hcell 0 (by omega);have hspot:spot=none:=by simpa[Addr.add]using World.cell?_spot hs0
  subst hspot;have hblk:=World.block_lt_of_cell? w _ hc0;have hadd:Addr.add ⟨b,off,none⟩ i=⟨b,off+i,none⟩:=by
   unfold Addr.add;split
   ·rename_i h;subst h;rfl
   ·rfl
  rw[hadd]at hc0 hblk;refine⟨b,off,rfl,hblk,?_⟩;rw[hc0];have:zs.getD i 0=B0 (zs.take len) i:=by
   unfold B0;simp[List.getD_eq_getElem?_getD,hi]
  rw[this]
end
theorem yX {n:Int} (h:(Lit.int .i64 n).wf=true):U0 n:=by
 have h1:(decide ((-9223372036854775808:Int)≤n) && decide (n≤9223372036854775807))=true:=h;simpa[U0]using h1
end
section
open Go.ChangeShapes Go.WideShapes Go.ChangeAt Go.RowKit
section
variable {H:Type} {enc:TypeId×Value→H} {P:Program}
end
end
section
open Go.ChangeShapes Go.WideShapes Go.ChangeAt Go.RowKit
section
variable {H:Type} {enc:TypeId×Value→H} {P:Program}
def sK (P:Program) (fs:Array Field):Prop:=∀(i:Nat) (f:Field),fs[i]? =some f→f.offset=i∧P.cellsOf f.type=1∧P.underlying f.type=some (.int .i64)
theorem yY {w:World} {base fuel:Nat} {spare:Nat→Bool} {held:Bool} {t:TypeId} {fs:Array Field} {cs:List Value} {x:DataW H×List MemPlace} (ht:P.underlying t=some (.struct fs)) (hf:sK P fs) (hc:P.cellsOf t=fs.size) (h:DataW.trod enc P w base spare held fuel t cs=some x):
 ∃ns:List Int,cs=ns.map (Value.int .i64)∧ns.length=fs.size∧∀z∈ns,U0 z:=by
 obtain⟨xs,n,_,_,hlen,hxs,hel⟩:=DataW.trod_struct ht h;rw[hc]at hlen;have hk:∀i,i<cs.length→∃k:Int,cs[i]? =some (.int .i64 k)∧U0 k:=fun i hi=>by
  have hif:i<fs.size:=by omega
  have hfi:fs[i]? =some fs[i]:=by simp[hif]
  obtain⟨h1,h2,h3⟩:=hf i _ hfi;have:=hel i _ hfi;rw[h1,h2]at this;have hxi:xs[i]? =some (xs[i]'(by omega)):=List.getElem?_eq_getElem (by omega);rw[hxi]at this;obtain⟨k,hcs,_,hwf⟩:=DataW.trod_int h3 this;refine⟨k,?_,yX hwf⟩;have h0:((cs.drop i).take 1)[0]? =some (.int .i64 k):=by rw[hcs];rfl
  simpa using h0
 refine⟨cs.map intOf,?_,by rw[List.length_map];exact hlen,fun z hz=>?_⟩
 ·apply List.ext_getElem (by simp)
  intro i h1 h2;obtain⟨k,hk1,_⟩:=hk i h1;rw[List.getElem?_eq_getElem h1]at hk1;have hk2:=Option.some.inj hk1;simp[hk2,intOf]
 ·obtain⟨v,hv,rfl⟩:=List.mem_map.1 hz
  obtain⟨i,hi⟩:=List.mem_iff_getElem?.1 hv;obtain⟨k,hk1,hk2⟩:=hk i (List.getElem?_eq_some_iff.1 hi).1;rw[hi]at hk1
  cases hk1;exact hk2
end
end
section
open Go.ChangeShapes Go.WideShapes Go.ChangeAt Go.RowKit
section
variable {H:Type} {enc:TypeId×Value→H} {P:Program}
theorem oM (b off i:Nat):Addr.add ⟨b,off,none⟩ i=⟨b,off+i,none⟩:=by
 unfold Addr.add;split
 ·rename_i h;subst h;rfl
 ·rfl
theorem yZ {α:Type} {n:Nat} {R:Nat→α→Prop} (h:∀i,i<n→∃x,R i x):∃l:List α,l.length=n∧∀i x,l[i]? =some x→R i x:=by
 induction n with
 |zero=>exact⟨[],rfl,fun i x hx=>by simp at hx⟩
 |succ n ih=>
  obtain⟨l,hl,hr⟩:=ih (fun i hi=>h i (by omega))
  obtain⟨x,hx⟩:=h n (by omega)
  refine⟨l ++ [x],by simp[hl],fun i y hy=>?_⟩
  by_cases hi:i<l.length
  ·rw[List.getElem?_append_left hi]at hy;exact hr i y hy
  ·rw[List.getElem?_append_right (by omega)]at hy
   have:i=n:=by
    rcases Nat.lt_or_ge (i-l.length) 1 with h1|h1
    ·omega
    ·rw[List.getElem?_eq_none (by simpa using h1)]at hy;cases hy
   subst this;rw[hl,Nat.sub_self]at hy;simp at hy;subst hy;exact hx
theorem AB7 {α:Type} {encA:α→List Value} {dec:List Int→α} {w:World} {base b0:Nat} {r:Reach} {spare:Nat→Bool} {held:Bool} {t e:TypeId} {fs:Array Field} {v:Value} {d:DataW H} {p:List MemPlace} (ht:P.underlying t=some (.slice e)) (he:P.underlying e=some (.struct fs)) (hf:sK P fs) (hc:P.cellsOf e=fs.size) (h0:0<fs.size)
 (hdec:∀ns:List Int,ns.length=fs.size→encA (dec ns)=ns.map (Value.int .i64)) (hv:Value.okWide P w r b0 t v) (h:DataW.Trod enc P w base spare held t v d p):
 ∃(a:Option Addr) (l:List α) (cap:Nat),v= .slice a l.length cap∧l.length≤cap∧cap≤9223372036854775807∧(a=none→cap=0)∧D0 encA fs.size w a l∧∀x∈l,∃ns:List Int,ns.length=fs.size∧x=dec ns∧∀z∈ns,U0 z:=by
 obtain⟨a0,n0,c0,rfl⟩:=okWide_slice ht hv;obtain⟨fuel,hfu⟩:=h;rcases DataW.trod_slice ht (show DataW.trod enc P w base spare held fuel t [.slice a0 n0 c0]=some (d,p)from hfu)with⟨hcs,_⟩|⟨a,len,cap,elems,rest,n,_,hcs,_,_,hl,hm,hlen,hel,_,_⟩
 ·simp at hcs
  obtain⟨rfl,rfl,rfl⟩:=hcs;exact⟨none,[],0,rfl,Nat.le_refl _,by decide,fun _ =>rfl,fL _ _,fun x hx=>(by cases hx)⟩
 ·simp at hcs
  obtain⟨rfl,rfl,rfl⟩:=hcs;by_cases hn0:n0=0
  ·subst hn0
   exact⟨some a,[],c0,rfl,by simp,hm,fun hh=>(by cases hh),fL _ _,fun x hx=>(by cases hx)⟩
  have hspot:a.spot=none:=by
   have h1:=hel 0 (by omega);rw[hc,Nat.zero_mul]at h1;have hx:elems[0]? =some (elems[0]'(by omega)):=List.getElem?_eq_getElem (by omega);rw[hx,Option.bind_eq_some_iff]at h1;obtain⟨cs,h2,h3⟩:=h1;obtain⟨_,hcl,hg⟩:=World.cells?_some h2;have:=hg 0 h0;rw[List.getElem?_eq_getElem (by omega)]at this;have:=World.cell?_spot this;simpa[Addr.add]using this
  obtain⟨b,off,spot⟩:=a;simp only at hspot;subst hspot;have hcell:∀i,i<n0→∃x:α,(∀j u,(encA x)[j]? =some u→w.cell? ⟨b,off+i*fs.size+j,none⟩=some u)∧∃ns:List Int,ns.length=fs.size∧x=dec ns∧∀z∈ns,U0 z:=fun i hi=>by
   have h1:=hel i hi;rw[hc]at h1;have hx:elems[i]? =some (elems[i]'(by omega)):=List.getElem?_eq_getElem (by omega);rw[hx,Option.bind_eq_some_iff]at h1;obtain⟨cs,h2,h3⟩:=h1;obtain⟨_,hcl,hg⟩:=World.cells?_some h2;obtain⟨ns,hns,hnl,hni⟩:=yY he hf hc h3;refine⟨dec ns,fun j u hu=>?_,ns,hnl,rfl,hni⟩;rw[hdec ns hnl,←hns]at hu;have hj:j<fs.size:=by have:=(List.getElem?_eq_some_iff.1 hu).1;omega
   have:=hg j hj;rw[hu,oM,oM]at this;exact this
  obtain⟨l,hll,hr⟩:=yZ hcell;subst hll;refine⟨some ⟨b,off,none⟩,l,c0,rfl,hl,hm,fun hh=>(by cases hh),fun i x hx=>?_,fun x hx=>?_⟩
  ·have hcs:=(hr i x hx).1
   obtain⟨ns,hnl,rfl,_⟩:=(hr i x hx).2;have hsome:∃u,(encA (dec ns))[0]? =some u:=by
    rw[hdec ns hnl];exact⟨_,List.getElem?_eq_getElem (by simp;omega)⟩
   obtain⟨u,hu⟩:=hsome;exact⟨b,off,rfl,World.block_lt_of_cell? w _ (hcs 0 u hu),fun j v hj=>hcs j v hj⟩
  ·obtain⟨i,hi⟩:=List.mem_iff_getElem?.1 hx
   exact(hr i x hi).2
end
end
section
open Go.ChangeShapes Go.WideShapes Go.ChangeAt Go.RowKit
section
variable {H:Type} {enc:TypeId×Value→H} {P:Program}
theorem lN {α:Type} {encA:α→List Value} {Q:α→Prop} {w:World} {base fuel nc:Nat} {spare:Nat→Bool} {held:Bool} {t e:TypeId} {c:Value} {y:DataW H×List MemPlace} (ht:P.underlying t=some (.slice e)) (hc:P.cellsOf e=nc) (h0:0<nc) (hlen:∀x,(encA x).length=nc)
 (hE:∀fuel cs y,DataW.trod enc P w base spare held fuel e cs=some y→∃x,cs=encA x∧Q x) (h:DataW.trod enc P w base spare held fuel t [c]=some y):
 ∃(a:Option Addr) (l:List α) (cap:Nat),c= .slice a l.length cap∧l.length≤cap∧cap≤9223372036854775807∧(a=none→cap=0)∧D0 encA nc w a l∧∀x∈l,Q x:=by
 rcases DataW.trod_slice ht h with⟨hcs,_⟩|⟨a,len,cap,elems,rest,n,_,hcs,_,_,hl,hm,hlen',hel,_,_⟩
 ·simp at hcs
  subst hcs;exact⟨none,[],0,rfl,Nat.le_refl _,by decide,fun _ =>rfl,fL _ _,fun x hx=>(by cases hx)⟩
 ·simp at hcs
  subst hcs;by_cases hn0:len=0
  ·subst hn0
   exact⟨some a,[],cap,rfl,by simp,hm,fun hh=>(by cases hh),fL _ _,fun x hx=>(by cases hx)⟩
  have hspot:a.spot=none:=by
   have h1:=hel 0 (by omega);rw[hc,Nat.zero_mul]at h1;have hx:elems[0]? =some (elems[0]'(by omega)):=List.getElem?_eq_getElem (by omega);rw[hx,Option.bind_eq_some_iff]at h1;obtain⟨cs,h2,h3⟩:=h1;obtain⟨_,hcl,hg⟩:=World.cells?_some h2;have:=hg 0 h0;rw[List.getElem?_eq_getElem (by omega)]at this;have:=World.cell?_spot this;simpa[Addr.add]using this
  obtain⟨b,off,spot⟩:=a;simp only at hspot;subst hspot;have hcell:∀i,i<len→∃x:α,(∀j u,(encA x)[j]? =some u→w.cell? ⟨b,off+i*nc+j,none⟩=some u)∧Q x:=fun i hi=>by
   have h1:=hel i hi;rw[hc]at h1;have hx:elems[i]? =some (elems[i]'(by omega)):=List.getElem?_eq_getElem (by omega);rw[hx,Option.bind_eq_some_iff]at h1;obtain⟨cs,h2,h3⟩:=h1;obtain⟨_,hcl,hg⟩:=World.cells?_some h2;obtain⟨x,rfl,hq⟩:=hE _ _ _ h3;refine⟨x,fun j u hu=>?_,hq⟩;have hj:j<nc:=by have:=(List.getElem?_eq_some_iff.1 hu).1;rw[hlen]at this;exact this
   have:=hg j hj;rw[hu,oM,oM]at this;exact this
  obtain⟨l,hll,hr⟩:=yZ hcell;subst hll;refine⟨some ⟨b,off,none⟩,l,cap,rfl,hl,hm,fun hh=>(by cases hh),fun i x hx=>?_,fun x hx=>?_⟩
  ·have hcs:=(hr i x hx).1
   have hsome:∃u,(encA x)[0]? =some u:=⟨_,List.getElem?_eq_getElem (by rw[hlen];exact h0)⟩
   obtain⟨u,hu⟩:=hsome;exact⟨b,off,rfl,World.block_lt_of_cell? w _ (hcs 0 u hu),fun j v hj=>hcs j v hj⟩
  ·obtain⟨i,hi⟩:=List.mem_iff_getElem?.1 hx
   exact(hr i x hi).2
theorem jV {w:World} {base fuel:Nat} {spare:Nat→Bool} {held:Bool} {t:TypeId} {fs:Array Field} {cs:List Value} {y:DataW H×List MemPlace} {L:List (Nat×TypeId)} (ht:P.underlying t=some (.struct fs)) (hL:(fs.toList.map fun f=>(f.offset,f.type))=L) (h:DataW.trod enc P w base spare held fuel t cs=some y):
 cs.length=P.cellsOf t∧∀(i:Nat) (p:Nat×TypeId),L[i]? =some p→∃n z,DataW.trod enc P w base spare held n p.2 ((cs.drop p.1).take (P.cellsOf p.2))=some z:=by
 obtain⟨xs,n,_,_,hlen,hxs,hel⟩:=DataW.trod_struct ht h;refine⟨hlen,fun i p hp=>?_⟩;subst hL;rw[List.getElem?_map]at hp
 cases hf:fs.toList[i]? with
 |none=>rw[hf]at hp;cases hp
 |some f=>
  rw[hf]at hp
  have hp:=Option.some.inj hp
  subst hp
  have hf':fs[i]? =some f:=by rw[←Array.getElem?_toList];exact hf
  have hi:i<fs.size:=(Array.getElem?_eq_some_iff.1 hf').1
  have:=hel i f hf'
  rw[List.getElem?_eq_getElem (show i<xs.length by omega)]at this
  exact⟨n,_,this⟩
end
end
section
open Go.RowKit
def A8 (W w:World):Prop:=∃y:A7 W,w=y.w
theorem A8.of {W:World} (y:A7 W):A8 W y.w:=⟨y,rfl⟩
theorem A8.drew {W:World} (y:A7 W):A8 W y.w.drew:=y.drew
theorem A8.self (W:World):A8 W W:=⟨A7.self W,rfl⟩
theorem A8.alloc {W w:World} (h:A8 W w) (o:Obj):A8 W (w.alloc o):=by
 obtain⟨y,rfl⟩:=h;exact y.alloc o
theorem A8.drew' {W w:World} (h:A8 W w):A8 W w.drew:=by
 obtain⟨y,rfl⟩:=h;exact y.drew
theorem A8.set {W w:World} (h:A8 W w) (a:Addr) (ha:W.heap.size≤a.block) (v:Value):A8 W (w.setCell a v):=by
 obtain⟨y,rfl⟩:=h;exact y.set a ha v
theorem A8.size {W w:World} (h:A8 W w):W.heap.size≤w.heap.size:=by
 obtain⟨y,rfl⟩:=h;exact y.b.size
theorem A8.cell {W w:World} {a:Addr} {v:Value} (h:∀y:A7 W,y.w.cell? a=some v) (hw:A8 W w):w.cell? a=some v:=by
 obtain⟨y,rfl⟩:=hw;exact h y
theorem A7.cellTo {Y W:World} (hst:∃zz:A7 Y,W=zz.w) {a:Addr} {v:Value} (h:∀q:A7 Y,q.w.cell? a=some v):∀q:A7 W,q.w.cell? a=some v:=fun q=>by
 obtain⟨zz,rfl⟩:=hst;obtain⟨z,e⟩:=zz.trans q;rw[e];exact h z
end
section
open Go.RowKit
section
variable {α:Type} {enc:α→List Value} {k:Nat}
theorem jW {w:World} {g base:Nat} {e:TypeId} (h:w.heap[g]? =some (.cells #[] e)) (hb:base≤g):w.ownsRow base e k (.slice (some ⟨g,0,none⟩) 0 0) 0 []:=
 ⟨by simp,.inr ⟨g,0,#[],rfl,hb,h,Nat.le_refl _,by decide,by simp,by simp⟩⟩
end
theorem gL {k:Nat} {P:Program} {ops:Array Oper} {rest:List Oper} {o:Oper} {a:Act} {Q:Exit→Act→World→Prop} {w0 w:World} (hw:∃y:A7 w0,w=y.w) (hgd:o.guard=none) (s x:Operand) (t:TypeId)
 (ho:o.op= .call {callee:=.builtin .append,args:=#[s,x],argTypes:=#[t,t]})
 (base:Nat) (hbase:w0.heap.size≤base) (hbase':base≤w.heap.size) (e:TypeId) (z:Value) (bytes:Nat) (ht:M6 P t e z k bytes) (v:Value) (n:Nat) (xs:List Value) (hs:a.eval s=v) (hown:w.ownsRow base e k v n xs)
 (ad:Addr) (m c:Nat) (news:List Value) (hx:a.eval x= .slice (some ad) m c) (hn:news.length=m*k) (hc:∀j u,news[j]? =some u→w.cell? (ad.add j)=some u) (h1:∀u∈news,u.oneCell'=true) (hm:0<m)
 (h63:n+m≤maxLen) (hbytes:(n+m)*bytes≤140737488355328)
 (h:∀v' (q:A7 w0),q.w.ownsRow base e k v' (n+m) (xs ++ news)→w.grownBy q.w v.ownBlock→(∀b,v'.ownBlock=some b→v.ownBlock=some b∨b=w.heap.size)→wpList P ops Q rest (a.put o.dst v') q.w):wpList P ops Q (o :: rest) a w:=by
 obtain⟨y,rfl⟩:=hw;obtain⟨i,hi,hz,hsize,hby⟩:=ht.e;refine wpList_append_lies y.w hgd s x t ho base e i z k bytes ht.t hi hz hsize hby ht.z ht.s v n xs hs hown ad m c news hx hn hc h1 hm h63 hbytes hbase' y.w.heap.size rfl ?_;intro g cap w' hown' hg hl _;obtain⟨q,rfl⟩:=y.grown hg (fun k hk=>Nat.le_trans hbase (aZ hown k hk));exact h _ q hown' hg fun b hb=>by
  have hb':g=b:=by simpa[Value.ownBlock]using hb
  subst hb';exact hl
structure eR (w:World) (g:Nat) (c0 c1:Value) (v:Value):Prop where
 lt:g<w.heap.size
 a0:w.cell? ⟨g,0,none⟩=some c0
 a1:w.cell? ⟨g,1,none⟩=some c1
 ne:∀b,v.ownBlock=some b→b≠g
theorem eR.to {w W:World} {g:Nat} {c0 c1 v:Value} (h:eR w g c0 c1 v) (hW:∃z:A7 w,W=z.w):eR W g c0 c1 v:=by
 obtain⟨z,rfl⟩:=hW;exact⟨Nat.lt_of_lt_of_le h.lt z.b.size,A7.cell h.a0 h.lt z,A7.cell h.a1 h.lt z,h.ne⟩
theorem eR.app {w w':World} {g:Nat} {c0 c1 v v':Value} (h:eR w g c0 c1 v) (hg:w.grownBy w' v.ownBlock) (hl:∀b,v'.ownBlock=some b→v.ownBlock=some b∨b=w.heap.size):eR w' g c0 c1 v':=by
 have hr:some g≠v.ownBlock:=fun e=>h.ne g e.symm rfl;have hb:=hg.block g h.lt hr;refine⟨Nat.lt_of_lt_of_le h.lt hg.size,by rw[World.cell?_of_block (w:=w) (a:=⟨g,0,none⟩) hb];exact h.a0,by rw[World.cell?_of_block (w:=w) (a:=⟨g,1,none⟩) hb];exact h.a1,fun b hb=>?_⟩;rcases hl b hb with h1|h1
 ·exact h.ne b h1
 ·have:=h.lt;omega
def cZ (w:World) (g:Nat) (o:Obj):Prop:=w.heap[g]? =some o
theorem cZ.new (w:World) (o:Obj):cZ (w.alloc o) w.heap.size o:=by show(w.heap.push _)[w.heap.size]? = _;simp
theorem cZ.cells {w:World} {g:Nat} {cs:List Value} {e:TypeId} (h:cZ w g (.cells cs.toArray e)):∀j u,cs[j]? =some u→w.cell? ((⟨g,0,none⟩:Addr).add j)=some u:=fun j u hu=>by
 unfold cZ at h;rw[Addr.add_lit];simp only[World.cell?,h,Nat.zero_add];simpa using hu
theorem fN {w:World} {base:Nat} {e:TypeId} {s:Nat} {v:Value} {n:Nat} {xs:List Value} {o:Obj} (h:w.ownsRow base e s v n xs):(w.alloc o).ownsRow base e s v n xs:=J8 h (A8.alloc (A8.self _) _)
end
section
open Go.RowKit
def AB8 (W w:World) (R:Ending→Prop) (o:Ending) (w':World):Prop:=R o∧∃z:A7 W,w'=z.w∧∃v:A7 w,z.w=v.w
theorem later {P:Program} {F:FuncId} {args:Array Value} {W w':World} {R:Ending→Prop} (hw:A8 W w') (h:∀x:A7 w',Calls P F args x.w (fun o w''=>R o∧∃y:A7 w',w''=y.w)):Calls P F args w' (AB8 W w' R):=by
 refine(h (A7.self w')).mono ?_;rintro o _ ⟨ho,y,rfl⟩;obtain⟨z,hz⟩:=hw;subst hz;obtain⟨v,hv⟩:=z.trans y;exact⟨ho,v,hv,y,hv.symm⟩
theorem A8.trans {a b c:World} (h:A8 a b) (k:A8 b c):A8 a c:=by
 obtain⟨y,rfl⟩:=h;obtain⟨z,rfl⟩:=k;exact y.trans z
theorem sL {α:Type} {enc:α→List Value} {k:Nat} (hk:∀x,(enc x).length=k) (w:World) (l:List α) (T:TypeId):D0 enc k (w.alloc (.cells (B4 enc l).toArray T)) (some ⟨w.heap.size,0,none⟩) l:=by
 intro i x hx;refine⟨w.heap.size,0,rfl,by simp,fun j v hv=>?_⟩;have:=Z6 w (B4 enc l) T (i*k+j) v (H7 hk l i x j v hx hv);rw[Addr.add_lit]at this;rw[show 0+i*k+j=0+(i*k+j) by omega];exact this
end
section
open Go.RowKit
theorem sM {P:Program} {t e:TypeId} {z:Value} {bytes:Nat} (ht:M6 P t e z 1 bytes) (hz:z.cells=#[z]) (n:Nat) (hb:bytes*n≤281474976710656) (h63:n≤9223372036854775807) (w:World):
 (Instr.makeSlice t (.int .i64 (n:Int)) (.int .i64 (n:Int))).run P w= .ok (.slice (some ⟨w.heap.size,0,none⟩) n n) (w.alloc (.cells (List.replicate n z).toArray e)):=by
 obtain⟨i,hi,hz0,hsz,hby⟩:=ht.e;subst hby;have hb':(i.bytes:Int)*(n:Int)≤281474976710656:=by
  have h:((i.bytes*n:Nat):Int)≤281474976710656:=by omega
  rwa[Int.natCast_mul]at h
 have hr:=run_make (P:=P) w t e i z ht.t hi hz0 .i64 .i64 n n (by omega) (Int.le_refl _) hb' (by omega);simp only[Int.toNat_natCast]at hr;rw[hr,hsz,hz,Nat.mul_one];have:=toList_madeCells_one z n;rw[←this]
structure K6 (w:World) (g:Nat) (n:Nat) (f:Nat→Value):Prop where
 lt:g<w.heap.size
 c:∀j,j<n→w.cell? ⟨g,j,none⟩=some (f j)
 f:∀j,j<n→w.frozen? ⟨g,j,none⟩=false
theorem K6.new (w:World) (cs:List Value) (e:TypeId) (n:Nat) (f:Nat→Value) (h:∀i,i<n→cs[i]? =some (f i)):K6 (w.alloc (.cells cs.toArray e)) w.heap.size n f:=by
 have hh:(w.alloc (.cells cs.toArray e)).heap[w.heap.size]? =some (.cells cs.toArray e):=by show(w.heap.push _)[w.heap.size]? = _;simp
 refine⟨by simp,fun j hj=>?_,fun j hj=>by simp only[World.frozen?,hh];rfl⟩;simp only[World.cell?,hh];simpa using h j hj
theorem K6.since {w:World} {g n:Nat} {f:Nat→Value} (h:K6 w g n f) (y:A7 w):K6 y.w g n f:=
 ⟨Nat.lt_of_lt_of_le h.lt y.b.size,fun j hj=>A7.cell (h.c j hj) h.lt y,fun j hj=>A7.free (h.f j hj) h.lt y⟩
theorem K6.to {w W:World} {g n:Nat} {f:Nat→Value} (h:K6 w g n f) (hW:∃z:A7 w,W=z.w):K6 W g n f:=by
 obtain⟨z,rfl⟩:=hW;exact h.since z
theorem K6.set {w:World} {g n k:Nat} {f f':Nat→Value} (h:K6 w g n f) (hk:k<n) (v:Value) (hv:f' k=v) (ho:∀j,j<n→j≠k→f' j=f j):K6 (w.setCell ⟨g,k,none⟩ v) g n f':=by
 refine⟨by simpa[World.setCell]using h.lt,fun j hj=>?_,fun j hj=>?_⟩
 ·by_cases hjk:j=k
  ·subst hjk
   rw[World.cell?_setCell_same _ _ _ (h.c j hj),hv]
  ·show((w.setCells g k [v]).cell? _)= _
   rw[World.cell?_setCells_out g [v] k w ⟨g,j,none⟩ (fun _ _ =>by simp;omega),h.c j hj,ho j hj hjk]
 ·rw[World.frozen?_setCell];exact h.f j hj
theorem K6.setOther {w:World} {g n:Nat} {f:Nat→Value} (h:K6 w g n f) (p:Addr) (hp:p.block≠g) (v:Value):K6 (w.setCell p v) g n f:=by
 have hh:=Below.heap_setCell w p v g (fun e=>hp e.symm);refine⟨by simpa[World.setCell]using h.lt,fun j hj=>?_,fun j hj=>by rw[World.frozen?_setCell];exact h.f j hj⟩;rw[World.cell?_of_block (w:=w) (a:=⟨g,j,none⟩) hh];exact h.c j hj
theorem K6.keep {w w':World} {g n:Nat} {f:Nat→Value} (h:K6 w g n f) (hs:w.heap.size≤w'.heap.size) (hb:w'.heap[g]? =w.heap[g]?):K6 w' g n f:=
 ⟨Nat.lt_of_lt_of_le h.lt hs,fun j hj=>by rw[World.cell?_of_block (w:=w) (a:=⟨g,j,none⟩) hb];exact h.c j hj,fun j hj=>by rw[World.frozen?_of_block (w:=w) (a:=⟨g,j,none⟩) hb];exact h.f j hj⟩
theorem K6.congr {w:World} {g n:Nat} {f f':Nat→Value} (h:K6 w g n f) (he:∀j,j<n→f j=f' j):K6 w g n f':=
 ⟨h.lt,fun j hj=>by rw[h.c j hj,he j hj],h.f⟩
theorem K6.row {w:World} {g n:Nat} {f:Nat→Value} (h:K6 w g n f):N0 w (some ⟨g,0,none⟩) n f:=
 fun i hi=>⟨g,0,rfl,h.lt,by rw[Nat.zero_add];exact h.c i hi⟩
end
theorem A0 {α : Type} {l : List α} {i : Nat} {a : α} (h : l[i]? = some a) : a ∈ l := List.mem_of_getElem? h
theorem A3 {p : Prop} (h : p) : Go.RowKit.Hid p := Lib.hid h
theorem A4 {α : Type} {l : List α} {i : Nat} (h : i < l.length) : l[i]? = some l[i] := List.getElem?_eq_getElem h
theorem A5 {α : Type} {l : List α} {i : Nat} {a : α} (h : l[i]? = some a) : ∃ h : i < l.length, l[i] = a := List.getElem?_eq_some_iff.1 h
theorem A6 {α : Type} {l : List α} {i : Nat} {a : α} : l.getD i a = l[i]?.getD a := List.getD_eq_getElem?_getD
end Go.Proofs.YtmmlmhnjjfnpnaaGreat
