/- Small facts on slices that are read, on worlds that are later than a first one, and one law for a statement that draws its order and whose calls make memory: generic, no program in sight. -/
import Derived.WalkKit
import Derived.WalkSpells
import Derived.WalkLawsBesides
import Derived.Lib.Hide
import Derived.BigQuiet
import Derived.StillTailTactics
import Derived.Deep.DeepCutAuto
set_option linter.all false
namespace Go.Proofs.YtnkmngkinjjbfaaDoor
open Go.RowKit

/-- element i of a list of numbers -/
def at0 (l : List Int) (i : Nat) : Int := l.getD i 0
/-- n fits an int -/
def I64 (n : Int) : Prop := -9223372036854775808 ≤ n ∧ n ≤ 9223372036854775807
/-- a slice with n one-cell elements reads as x -/
def Row (w : World) (a : Option Addr) (n : Nat) (x : Nat → Value) : Prop :=
  ∀ i, i < n → ∃ b off, a = some ⟨b, off, none⟩ ∧ b < w.heap.size ∧ w.cell? ⟨b, off + i, none⟩ = some (x i)
abbrev IntRow (w : World) (a : Option Addr) (l : List Int) : Prop := Row w a l.length fun i => .int .i64 (at0 l i)

theorem Row.below {B : Nat} {w w' : World} {a n x} (h : Row w a n x) (hb : Below B w w') (hB : w.heap.size ≤ B) : Row w' a n x := by
  intro i hi
  obtain ⟨b, off, ha, hlt, hc⟩ := h i hi
  exact ⟨b, off, ha, Nat.lt_of_lt_of_le hlt hb.size, by rw [hb.cell (p := ⟨b, off + i, none⟩) (Nat.lt_of_lt_of_le hlt hB)]; exact hc⟩
theorem below_new (w : World) (o : Obj) : Below w.heap.size w (w.alloc o) := (Below.refl w.heap.size w).alloc (Nat.le_refl _) o
theorem ret_int {k : IntKind} {a b : Int} (h : a = b) : Ending.returned (.int k a) = .returned (.int k b) := by rw [h]
theorem ret_bool {a b : Bool} (h : a = b) : Ending.returned (.bool a) = .returned (.bool b) := by rw [h]

theorem Row.two {w : World} {b off n : Nat} {f : Nat → Value} (h : Row w (some ⟨b, off, none⟩) n f) (i : Nat) (hi : i < n) : b < w.heap.size ∧ w.cell? ⟨b, off + i, none⟩ = some (f i) := by
  obtain ⟨b', off', he, hb, hc⟩ := h i hi
  simp at he; obtain ⟨rfl, rfl⟩ := he; exact ⟨hb, hc⟩

/-- where a slice of a slice begins: s[l:m], elements of s cells -/
def cutA (a : Option Addr) (l m s : Nat) : Option Addr := if m = l then a else a.map (·.add (l * s))
@[go_sem] theorem cutA_zero (a : Option Addr) (m s : Nat) : cutA a 0 m s = a := by
  unfold cutA; split
  · rfl
  · cases a <;> simp [Addr.add]
section
variable {P : Program} (w : World) (t : TypeId) (a : Option Addr) (len cap : Nat) (ht : P.underlying t = some (.slice (P.elem t)))
include ht
@[go_sem] theorem run_cut (lo hi mx : Option Value) :
    (Instr.slice t (.slice a len cap) lo hi mx).run P w =
      ((Instr.sliceBounds true len cap lo hi mx).run P w).andThen fun b w => ((sizeOf (P.elem t)).run P w).andThen fun s w => .ok (.slice (cutA a b.1 b.2.2 s) (b.2.1 - b.1) (b.2.2 - b.1)) w := by
  simp only [Instr.slice, Sem.run_bind, run_underlying ht, Result.andThen]
  cases (Instr.sliceBounds true len cap lo hi mx).run P w <;> simp [cutA]
end
theorem Row.cut {w : World} {a : Option Addr} {n : Nat} {f : Nat → Value} (h : Row w a n f) (l m : Nat) (hm : n ≤ m) : Row w (cutA a l m 1) (n - l) (fun i => f (l + i)) := by
  intro i hi
  obtain ⟨b, off, rfl, hb, hc⟩ := h (l + i) (by omega)
  refine ⟨b, off + l, ?_, hb, by rw [Nat.add_assoc]; exact hc⟩
  unfold cutA
  rw [if_neg (by omega)]
  simp only [Option.map_some, Addr.add]
  split
  · have : l = 0 := by omega
    subst this; rfl
  · simp

/-- A world in which all that w0 has is as it was: new memory may have come. -/
structure Since (w0 : World) where
  w : World
  b : Below w0.heap.size w0 w

instance (w0 : World) : Nonempty (Since w0) := ⟨⟨w0, Below.refl _ _⟩⟩
theorem Since.refl (w0 : World) : ∃ y : Since w0, w0 = y.w := ⟨⟨w0, Below.refl _ _⟩, rfl⟩
/-- w is later than itself -/
def Since.self (w : World) : Since w := ⟨w, Below.refl _ _⟩
theorem Since.cell {w0 : World} {b o : Nat} {v : Value} (h : w0.cell? ⟨b, o, none⟩ = some v) (hb : b < w0.heap.size) (x : Since w0) : x.w.cell? ⟨b, o, none⟩ = some v := by
  rw [x.b.cell (p := ⟨b, o, none⟩) hb]; exact h
theorem Since.free {w0 : World} {b o : Nat} (h : w0.frozen? ⟨b, o, none⟩ = false) (hb : b < w0.heap.size) (x : Since w0) : x.w.frozen? ⟨b, o, none⟩ = false := by
  rw [x.b.frozen (p := ⟨b, o, none⟩) hb]; exact h
theorem Since.row {w0 : World} {a n f} (h : Row w0 a n f) (y : Since w0) : Row y.w a n f := h.below y.b (Nat.le_refl _)
theorem Since.at {w0 : World} {b off n : Nat} {f : Nat → Value} (h : Row w0 (some ⟨b, off, none⟩) n f) (i : Nat) (hi : i < n) (y : Since w0) : y.w.cell? ⟨b, off + i, none⟩ = some (f i) :=
  (Row.two (Since.row h y) i hi).2
theorem Since.step {w0 : World} (x : Since w0) {w : World} (h : Below x.w.heap.size x.w w) : ∃ y : Since w0, w = y.w := ⟨⟨w, x.b.trans (h.mono x.b.size)⟩, rfl⟩
theorem Since.trans {w0 : World} (x : Since w0) (y : Since x.w) : ∃ z : Since w0, y.w = z.w := x.step y.b
theorem Since.alloc {w0 : World} (x : Since w0) (o : Obj) : ∃ y : Since w0, x.w.alloc o = y.w := x.step (below_new _ _)
theorem Since.allocs {w0 : World} (x : Since w0) : ∀ l : List Obj, ∃ y : Since w0, l.foldl World.alloc x.w = y.w
  | [] => ⟨x, rfl⟩
  | o :: l => by obtain ⟨y, e⟩ := x.alloc o; rw [List.foldl_cons, e]; exact y.allocs l
theorem Since.lift {w0 : World} (x : Since w0) {w : World} (h : ∃ y : Since x.w, w = y.w) : ∃ y : Since w0, w = y.w := by
  obtain ⟨y, rfl⟩ := h; exact x.trans y
/-- every later world of a world that is later than w0 is later than w0 -/
theorem Since.up {w0 w1 : World} (h : ∃ y : Since w0, w1 = y.w) (z : Since w1) : ∃ y : Since w0, z.w = y.w := by
  obtain ⟨y, rfl⟩ := h; exact y.trans z
theorem Row.to {w W : World} {a n f} (h : Row w a n f) (hW : ∃ z : Since w, W = z.w) : Row W a n f := by
  obtain ⟨z, rfl⟩ := hW; exact Since.row h z

theorem Since.set {w0 : World} (x : Since w0) (a : Addr) (h : w0.heap.size ≤ a.block) (v : Value) : ∃ y : Since w0, x.w.setCell a v = y.w :=
  ⟨⟨_, x.b.setCell h v⟩, rfl⟩
theorem Since.drawn (w : World) : ∃ y : Since w, { w with drawn := w.drawn + 1 } = y.w := ⟨⟨{ w with drawn := w.drawn + 1 }, ⟨rfl, rfl, rfl, Nat.le_refl _, fun _ _ => rfl⟩⟩, rfl⟩
theorem Since.drew {w0 : World} (x : Since w0) : ∃ y : Since w0, x.w.drew = y.w := ⟨⟨_, x.b.drew⟩, rfl⟩
theorem Since.grown {w0 : World} (x : Since w0) {w' : World} {row : Option Nat} (hg : x.w.grownBy w' row) (hr : ∀ k, row = some k → w0.heap.size ≤ k) : ∃ y : Since w0, w' = y.w :=
  ⟨⟨w', x.b.grown hg x.b.size hr⟩, rfl⟩
theorem Row.set {w : World} {a n f} (h : Row w a n f) (p : Addr) (v : Value) (hp : ∀ b, a = some b → b.block ≠ p.block) : Row (w.setCell p v) a n f := by
  intro i hi
  obtain ⟨b, off, ha, hb, hc⟩ := h i hi
  refine ⟨b, off, ha, by simpa [World.setCell] using hb, ?_⟩
  rw [World.cell?_of_block (w := w) (a := ⟨b, off + i, none⟩) (Below.heap_setCell _ _ _ _ (by have := hp _ ha; exact this))]
  exact hc

/-- slices of type t with elements e whose zero is z, of 'size' cells and 'bytes' bytes -/
structure SliceOf (P : Program) (t e : TypeId) (z : Value) (size bytes : Nat) : Prop where
  t : P.underlying t = some (.slice e)
  e : ∃ i, P.info? e = some i ∧ i.zero = some z ∧ i.size = size ∧ i.bytes = bytes
  z : z.cells.size = size
  s : 0 < size
theorem SliceOf.mk' {P : Program} {t e : TypeId} {z : Value} {size bytes : Nat} (h1 : P.underlying t = some (.slice e)) (h2 : (P.info? e).map (fun i => (i.zero, i.size, i.bytes)) = some (some z, size, bytes)) (h3 : z.cells.size = size) (h4 : 0 < size) : SliceOf P t e z size bytes := by
  obtain ⟨i, hi, hz0, hz1, hz2⟩ := info_parts h2
  exact ⟨h1, ⟨i, hi, hz0, hz1, hz2⟩, h3, h4⟩

/-- what a slice of the call's own reads as: its address, its capacity -/
theorem own_row {w : World} {base : Nat} {e : TypeId} {v : Value} {n : Nat} {xs : List Value} (h : w.ownsRow base e 1 v n xs) :
    ∃ a cap, v = .slice a n cap ∧ n ≤ cap ∧ Row w a n (fun i => xs.getD i undef) ∧ (∀ b, a = some b → base ≤ b.block) := by
  obtain ⟨hl, h | ⟨g, cap, cur, rfl, hg, hh, hn, hm, hs, ht⟩⟩ := h
  · obtain ⟨rfl, rfl⟩ := h
    exact ⟨none, 0, rfl, Nat.le_refl _, fun i hi => (by omega), fun b hb => by cases hb⟩
  · refine ⟨some ⟨g, 0, none⟩, cap, rfl, hn, fun i hi => ?_, fun b hb => by cases hb; exact hg⟩
    refine ⟨g, 0, rfl, (Array.getElem?_eq_some_iff.1 hh).1, ?_⟩
    rw [← ht]
    simp only [Nat.mul_one] at hs ⊢
    simp [World.cell?, hh, List.getD_eq_getElem?_getD, hi]
    rw [Array.getElem?_eq_getElem (by omega)]; rfl
theorem own_block {w : World} {base : Nat} {e : TypeId} {s : Nat} {v : Value} {n : Nat} {xs : List Value} (h : w.ownsRow base e s v n xs) : ∀ k, v.ownBlock = some k → base ≤ k := by
  obtain ⟨hl, h | ⟨g, cap, cur, rfl, hg, hh, hn, hm, hs, ht⟩⟩ := h
  · obtain ⟨rfl, rfl⟩ := h; intro k hk; cases hk
  · intro k hk; cases hk; exact hg

theorem own_new (w : World) (base : Nat) (hb : base ≤ w.heap.size) (e : TypeId) (cs : List Value) (hm : cs.length ≤ maxLen) : (w.alloc (.cells cs.toArray e)).ownsRow base e 1 (.slice (some ⟨w.heap.size, 0, none⟩) cs.length cs.length) cs.length cs := by
  refine ⟨by omega, .inr ⟨w.heap.size, cs.length, cs.toArray, rfl, hb, ?_, Nat.le_refl _, hm, by simp, by simp⟩⟩
  show (w.heap.push _)[w.heap.size]? = _
  simp
theorem own_since {w w' : World} {base : Nat} {e : TypeId} {s : Nat} {v : Value} {n : Nat} {xs : List Value} (h : w.ownsRow base e s v n xs) (hb : Below w.heap.size w w') : w'.ownsRow base e s v n xs := by
  obtain ⟨hl, h | ⟨g, cap, cur, rfl, hg, hh, r⟩⟩ := h
  · exact ⟨hl, .inl h⟩
  · exact ⟨hl, .inr ⟨g, cap, cur, rfl, hg, by rw [hb.block g (Array.getElem?_eq_some_iff.1 hh).1]; exact hh, r⟩⟩
/-- 'append(v, u)': v is nil or the call's own -/
theorem wpList_append1 {P : Program} {ops : Array Oper} {rest : List Oper} {o : Oper} {a : Act} {Q : Exit → Act → World → Prop} {w0 w : World} (hw : ∃ y : Since w0, w = y.w) (hgd : o.guard = none) (s x : Operand) (t : TypeId)
    (ho : o.op = .call { callee := .builtin .append, args := #[s, x], argTypes := #[t, t] })
    (base : Nat) (hbase : w0.heap.size ≤ base) (hbase' : base ≤ w.heap.size) (e : TypeId) (z : Value) (bytes : Nat) (ht : SliceOf P t e z 1 bytes) (v : Value) (n : Nat) (xs : List Value) (hs : a.eval s = v) (hown : w.ownsRow base e 1 v n xs)
    (u : Value) (h1 : u.oneCell' = true) (ad : Addr) (c : Nat) (hx : a.eval x = .slice (some ad) 1 c) (hc : w.cell? ad = some u)
    (h63 : n + 1 ≤ maxLen) (hbytes : (n + 1) * bytes ≤ 140737488355328)
    (h : ∀ v' (q : Since w0), q.w.ownsRow base e 1 v' (n + 1) (xs ++ [u]) → base ≤ q.w.heap.size → wpList P ops Q rest (a.put o.dst v') q.w) : wpList P ops Q (o :: rest) a w := by
  obtain ⟨y, rfl⟩ := hw
  obtain ⟨i, hi, hz, hsize, hby⟩ := ht.e
  refine wpList_append_own y.w hgd s x t ho base e i z 1 bytes ht.t hi hz hsize hby ht.z ht.s v n xs hs hown ad 1 c [u] hx rfl ?_ (by simpa using h1) h63 hbytes hbase' ?_
  · intro j v' hv
    cases j with
    | zero => simp at hv; subst hv; simpa [Addr.add] using hc
    | succ j => simp at hv
  · intro v' w' hown' hg _
    obtain ⟨q, rfl⟩ := y.grown hg (fun k hk => Nat.le_trans hbase (own_block hown k hk))
    exact h v' q hown' (Nat.le_trans hbase' hg.size)

/-- 'make([]T, 0, n)' -/
theorem wpList_make0 {P : Program} {ops : Array Oper} {rest : List Oper} {o : Oper} {a : Act} {Q : Exit → Act → World → Prop} {w0 w : World} (hw : ∃ y : Since w0, w = y.w) (hgd : o.guard = none) (l c : Operand) (t : TypeId) (hop : o.op = Op.makeSlice t l c)
    (base : Nat) (hbase' : base ≤ w.heap.size) (e : TypeId) (z : Value) (size bytes : Nat) (ht : SliceOf P t e z size bytes) (kl kc : IntKind) (n : Nat) (hl : a.eval l = .int kl 0) (hc : a.eval c = .int kc (n : Int)) (b2 : bytes * n ≤ 281474976710656) (b3 : n ≤ maxLen)
    (h : ∀ v (q : Since w0), q.w.ownsRow base e size v 0 [] → base ≤ q.w.heap.size → wpList P ops Q rest (a.put o.dst v) q.w) : wpList P ops Q (o :: rest) a w := by
  obtain ⟨y, rfl⟩ := hw
  obtain ⟨i, hi, hz, hsize, hby⟩ := ht.e
  refine wpList_make_own y.w hgd l c t hop base e i z size ht.t hi hz hsize kl kc n n hl hc rfl (by rw [hby]; exact b2) b3 hbase' ?_
  intro w' hown hg
  obtain ⟨q, rfl⟩ := y.grown hg (fun k hk => by cases hk)
  exact h _ q hown (Nat.le_trans hbase' hg.size)

theorem row_new (w : World) (cs : List Value) (e : TypeId) (n : Nat) (f : Nat → Value) (h : ∀ i, i < n → cs[i]? = some (f i)) : Row (w.alloc (.cells cs.toArray e)) (some ⟨w.heap.size, 0, none⟩) n f := by
  intro i hi
  refine ⟨_, _, rfl, by simp, ?_⟩
  have hh : (w.alloc (.cells cs.toArray e)).heap[w.heap.size]? = some (.cells cs.toArray e) := by show (w.heap.push _)[w.heap.size]? = _; simp
  simp only [World.cell?, hh]
  simpa using h i hi
theorem ints_new (w : World) (l : List Int) (e : TypeId) : IntRow (w.alloc (.cells (l.map (Value.int .i64)).toArray e)) (some ⟨w.heap.size, 0, none⟩) l :=
  row_new w _ e _ _ fun i hi => by simp [at0, List.getD_eq_getElem?_getD, hi]

/-- A statement that draws its order, whose operations read and whose calls only make memory: one walk of the text's order serves. -/
theorem wp_region_since {P : Program} {id : Nat} {Q : Exit → Act → World → Prop} {a : Act} {w0 : World} {x : Since w0} {l : List Oper} (hm : P.follows .mixedOrders = true) (hB : Region.lexB .any l.toArray = true)
    (h : wpQuiet P l.toArray (fun w' => ∃ y : Since w0, w' = y.w) (fun a' => ∀ w', (∃ y : Since w0, w' = y.w) → Q .normal a' w') l a) : (Code.region id l.toArray true).wp P Q a x.w :=
  wp_region_quiet (C := fun w' => ∃ y : Since w0, w' = y.w) hm hB (x.step ⟨rfl, rfl, rfl, Nat.le_refl _, fun _ _ => rfl⟩) (by simpa using h)
end Go.Proofs.YtnkmngkinjjbfaaDoor
