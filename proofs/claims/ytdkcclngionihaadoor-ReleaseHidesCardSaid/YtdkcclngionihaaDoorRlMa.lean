/- Small facts on slices that are read, on worlds that are later than a first one, and one law for a statement that draws its order and whose calls make memory: generic, no program in sight. -/
import Derived.WalkKit
import Derived.WalkSpells
import Derived.WalkLawsBesides
import Derived.Lib.Hide
import Derived.BigQuiet
import Derived.StillTailTactics
import Derived.Deep.DeepCutAuto
import Derived.Laws.IdiomCopy
import Derived.ProofKit
import Derived.LaidMore
import Derived.OpenShut
import Derived.ShutString
import Derived.ChangeOld
import Derived.MakeChecks
import Derived.Deep.RegionHeld3
import Derived.Deep.AppendLies
import Derived.Laws.OwnMore
import Derived.Maps.RangeRun
import Derived.Maps.OwnSet
set_option linter.all false
namespace Go.Proofs.YtdkcclngionihaaDoor
open Go.RowKit

/-- element i of a list of numbers -/
def at0 (l : List Int) (i : Nat) : Int := l.getD i 0
/-- n fits an int -/
def I64 (n : Int) : Prop := -9223372036854775808 ≤ n ∧ n ≤ 9223372036854775807
/-- a slice with n one-cell elements reads as x -/
def Row (w : World) (a : Option Addr) (n : Nat) (x : Nat → Value) : Prop :=
  ∀ i, i < n → ∃ b off, a = some ⟨b, off, none⟩ ∧ b < w.heap.size ∧ w.cell? ⟨b, off + i, none⟩ = some (x i)
abbrev IntRow (w : World) (a : Option Addr) (l : List Int) : Prop := Row w a l.length fun i => .int .i64 (at0 l i)

theorem Row.below {B : Nat} {w w' : World} {a n x} (h : Row w a n x) (hb : Below B w w') (hB : w.heap.size ≤ B) : Row w' a n x := by
  intro i hi
  obtain ⟨b, off, ha, hlt, hc⟩ := h i hi
  exact ⟨b, off, ha, Nat.lt_of_lt_of_le hlt hb.size, by rw [hb.cell (p := ⟨b, off + i, none⟩) (Nat.lt_of_lt_of_le hlt hB)]; exact hc⟩
theorem below_new (w : World) (o : Obj) : Below w.heap.size w (w.alloc o) := (Below.refl w.heap.size w).alloc (Nat.le_refl _) o
theorem ret_int {k : IntKind} {a b : Int} (h : a = b) : Ending.returned (.int k a) = .returned (.int k b) := by rw [h]
theorem ret_bool {a b : Bool} (h : a = b) : Ending.returned (.bool a) = .returned (.bool b) := by rw [h]

theorem Row.two {w : World} {b off n : Nat} {f : Nat → Value} (h : Row w (some ⟨b, off, none⟩) n f) (i : Nat) (hi : i < n) : b < w.heap.size ∧ w.cell? ⟨b, off + i, none⟩ = some (f i) := by
  obtain ⟨b', off', he, hb, hc⟩ := h i hi
  simp at he; obtain ⟨rfl, rfl⟩ := he; exact ⟨hb, hc⟩

/-- where a slice of a slice begins: s[l:m], elements of s cells -/
def cutA (a : Option Addr) (l m s : Nat) : Option Addr := if m = l then a else a.map (·.add (l * s))
@[go_sem] theorem cutA_zero (a : Option Addr) (m s : Nat) : cutA a 0 m s = a := by
  unfold cutA; split
  · rfl
  · cases a <;> simp [Addr.add]
section
variable {P : Program} (w : World) (t : TypeId) (a : Option Addr) (len cap : Nat) (ht : P.underlying t = some (.slice (P.elem t)))
include ht
@[go_sem] theorem run_cut (lo hi mx : Option Value) :
    (Instr.slice t (.slice a len cap) lo hi mx).run P w =
      ((Instr.sliceBounds true len cap lo hi mx).run P w).andThen fun b w => ((sizeOf (P.elem t)).run P w).andThen fun s w => .ok (.slice (cutA a b.1 b.2.2 s) (b.2.1 - b.1) (b.2.2 - b.1)) w := by
  simp only [Instr.slice, Sem.run_bind, run_underlying ht, Result.andThen]
  cases (Instr.sliceBounds true len cap lo hi mx).run P w <;> simp [cutA]
end
/-- A world in which all that w0 has is as it was: new memory may have come. -/
structure Since (w0 : World) where
  w : World
  b : Below w0.heap.size w0 w

instance (w0 : World) : Nonempty (Since w0) := ⟨⟨w0, Below.refl _ _⟩⟩
theorem Since.refl (w0 : World) : ∃ y : Since w0, w0 = y.w := ⟨⟨w0, Below.refl _ _⟩, rfl⟩
/-- w is later than itself -/
def Since.self (w : World) : Since w := ⟨w, Below.refl _ _⟩
theorem Since.cell {w0 : World} {b o : Nat} {v : Value} (h : w0.cell? ⟨b, o, none⟩ = some v) (hb : b < w0.heap.size) (x : Since w0) : x.w.cell? ⟨b, o, none⟩ = some v := by
  rw [x.b.cell (p := ⟨b, o, none⟩) hb]; exact h
theorem Since.free {w0 : World} {b o : Nat} (h : w0.frozen? ⟨b, o, none⟩ = false) (hb : b < w0.heap.size) (x : Since w0) : x.w.frozen? ⟨b, o, none⟩ = false := by
  rw [x.b.frozen (p := ⟨b, o, none⟩) hb]; exact h
theorem Since.row {w0 : World} {a n f} (h : Row w0 a n f) (y : Since w0) : Row y.w a n f := h.below y.b (Nat.le_refl _)
theorem Since.at {w0 : World} {b off n : Nat} {f : Nat → Value} (h : Row w0 (some ⟨b, off, none⟩) n f) (i : Nat) (hi : i < n) (y : Since w0) : y.w.cell? ⟨b, off + i, none⟩ = some (f i) :=
  (Row.two (Since.row h y) i hi).2
theorem Since.step {w0 : World} (x : Since w0) {w : World} (h : Below x.w.heap.size x.w w) : ∃ y : Since w0, w = y.w := ⟨⟨w, x.b.trans (h.mono x.b.size)⟩, rfl⟩
theorem Since.trans {w0 : World} (x : Since w0) (y : Since x.w) : ∃ z : Since w0, y.w = z.w := x.step y.b
theorem Since.alloc {w0 : World} (x : Since w0) (o : Obj) : ∃ y : Since w0, x.w.alloc o = y.w := x.step (below_new _ _)
theorem Since.allocs {w0 : World} (x : Since w0) : ∀ l : List Obj, ∃ y : Since w0, l.foldl World.alloc x.w = y.w
  | [] => ⟨x, rfl⟩
  | o :: l => by obtain ⟨y, e⟩ := x.alloc o; rw [List.foldl_cons, e]; exact y.allocs l
/-- every later world of a world that is later than w0 is later than w0 -/
theorem Since.up {w0 w1 : World} (h : ∃ y : Since w0, w1 = y.w) (z : Since w1) : ∃ y : Since w0, z.w = y.w := by
  obtain ⟨y, rfl⟩ := h; exact y.trans z
theorem Row.to {w W : World} {a n f} (h : Row w a n f) (hW : ∃ z : Since w, W = z.w) : Row W a n f := by
  obtain ⟨z, rfl⟩ := hW; exact Since.row h z

theorem Since.set {w0 : World} (x : Since w0) (a : Addr) (h : w0.heap.size ≤ a.block) (v : Value) : ∃ y : Since w0, x.w.setCell a v = y.w :=
  ⟨⟨_, x.b.setCell h v⟩, rfl⟩
theorem Since.drawn (w : World) : ∃ y : Since w, { w with drawn := w.drawn + 1 } = y.w := ⟨⟨{ w with drawn := w.drawn + 1 }, ⟨rfl, rfl, rfl, Nat.le_refl _, fun _ _ => rfl⟩⟩, rfl⟩
theorem Since.drew {w0 : World} (x : Since w0) : ∃ y : Since w0, x.w.drew = y.w := ⟨⟨_, x.b.drew⟩, rfl⟩
theorem Since.grown {w0 : World} (x : Since w0) {w' : World} {row : Option Nat} (hg : x.w.grownBy w' row) (hr : ∀ k, row = some k → w0.heap.size ≤ k) : ∃ y : Since w0, w' = y.w :=
  ⟨⟨w', x.b.grown hg x.b.size hr⟩, rfl⟩
theorem Row.set {w : World} {a n f} (h : Row w a n f) (p : Addr) (v : Value) (hp : ∀ b, a = some b → b.block ≠ p.block) : Row (w.setCell p v) a n f := by
  intro i hi
  obtain ⟨b, off, ha, hb, hc⟩ := h i hi
  refine ⟨b, off, ha, by simpa [World.setCell] using hb, ?_⟩
  rw [World.cell?_of_block (w := w) (a := ⟨b, off + i, none⟩) (Below.heap_setCell _ _ _ _ (by have := hp _ ha; exact this))]
  exact hc

/-- slices of type t with elements e whose zero is z, of 'size' cells and 'bytes' bytes -/
structure SliceOf (P : Program) (t e : TypeId) (z : Value) (size bytes : Nat) : Prop where
  t : P.underlying t = some (.slice e)
  e : ∃ i, P.info? e = some i ∧ i.zero = some z ∧ i.size = size ∧ i.bytes = bytes
  z : z.cells.size = size
  s : 0 < size
theorem SliceOf.mk' {P : Program} {t e : TypeId} {z : Value} {size bytes : Nat} (h1 : P.underlying t = some (.slice e)) (h2 : (P.info? e).map (fun i => (i.zero, i.size, i.bytes)) = some (some z, size, bytes)) (h3 : z.cells.size = size) (h4 : 0 < size) : SliceOf P t e z size bytes := by
  obtain ⟨i, hi, hz0, hz1, hz2⟩ := info_parts h2
  exact ⟨h1, ⟨i, hi, hz0, hz1, hz2⟩, h3, h4⟩

/-- what a slice of the call's own reads as: its address, its capacity -/
theorem own_row {w : World} {base : Nat} {e : TypeId} {v : Value} {n : Nat} {xs : List Value} (h : w.ownsRow base e 1 v n xs) :
    ∃ a cap, v = .slice a n cap ∧ n ≤ cap ∧ Row w a n (fun i => xs.getD i undef) ∧ (∀ b, a = some b → base ≤ b.block) := by
  obtain ⟨hl, h | ⟨g, cap, cur, rfl, hg, hh, hn, hm, hs, ht⟩⟩ := h
  · obtain ⟨rfl, rfl⟩ := h
    exact ⟨none, 0, rfl, Nat.le_refl _, fun i hi => (by omega), fun b hb => by cases hb⟩
  · refine ⟨some ⟨g, 0, none⟩, cap, rfl, hn, fun i hi => ?_, fun b hb => by cases hb; exact hg⟩
    refine ⟨g, 0, rfl, (Array.getElem?_eq_some_iff.1 hh).1, ?_⟩
    rw [← ht]
    simp only [Nat.mul_one] at hs ⊢
    simp [World.cell?, hh, List.getD_eq_getElem?_getD, hi]
    rw [Array.getElem?_eq_getElem (by omega)]; rfl
theorem own_block {w : World} {base : Nat} {e : TypeId} {s : Nat} {v : Value} {n : Nat} {xs : List Value} (h : w.ownsRow base e s v n xs) : ∀ k, v.ownBlock = some k → base ≤ k := by
  obtain ⟨hl, h | ⟨g, cap, cur, rfl, hg, hh, hn, hm, hs, ht⟩⟩ := h
  · obtain ⟨rfl, rfl⟩ := h; intro k hk; cases hk
  · intro k hk; cases hk; exact hg

theorem own_since {w w' : World} {base : Nat} {e : TypeId} {s : Nat} {v : Value} {n : Nat} {xs : List Value} (h : w.ownsRow base e s v n xs) (hb : Below w.heap.size w w') : w'.ownsRow base e s v n xs := by
  obtain ⟨hl, h | ⟨g, cap, cur, rfl, hg, hh, r⟩⟩ := h
  · exact ⟨hl, .inl h⟩
  · exact ⟨hl, .inr ⟨g, cap, cur, rfl, hg, by rw [hb.block g (Array.getElem?_eq_some_iff.1 hh).1]; exact hh, r⟩⟩
theorem row_new (w : World) (cs : List Value) (e : TypeId) (n : Nat) (f : Nat → Value) (h : ∀ i, i < n → cs[i]? = some (f i)) : Row (w.alloc (.cells cs.toArray e)) (some ⟨w.heap.size, 0, none⟩) n f := by
  intro i hi
  refine ⟨_, _, rfl, by simp, ?_⟩
  have hh : (w.alloc (.cells cs.toArray e)).heap[w.heap.size]? = some (.cells cs.toArray e) := by show (w.heap.push _)[w.heap.size]? = _; simp
  simp only [World.cell?, hh]
  simpa using h i hi
theorem ints_new (w : World) (l : List Int) (e : TypeId) : IntRow (w.alloc (.cells (l.map (Value.int .i64)).toArray e)) (some ⟨w.heap.size, 0, none⟩) l :=
  row_new w _ e _ _ fun i hi => by simp [at0, List.getD_eq_getElem?_getD, hi]

/-- A statement that draws its order, whose operations read and whose calls only make memory: one walk of the text's order serves. -/
theorem wp_region_since {P : Program} {id : Nat} {Q : Exit → Act → World → Prop} {a : Act} {w0 : World} {x : Since w0} {l : List Oper} (hm : P.follows .mixedOrders = true) (hB : Region.lexB .any l.toArray = true)
    (h : wpQuiet P l.toArray (fun w' => ∃ y : Since w0, w' = y.w) (fun a' => ∀ w', (∃ y : Since w0, w' = y.w) → Q .normal a' w') l a) : (Code.region id l.toArray true).wp P Q a x.w :=
  wp_region_quiet (C := fun w' => ∃ y : Since w0, w' = y.w) hm hB (x.step ⟨rfl, rfl, rfl, Nat.le_refl _, fun _ _ => rfl⟩) (by simpa using h)
end Go.Proofs.YtdkcclngionihaaDoor
/- Slices whose elements have several cells: how they read, how they grow: generic, no program in sight. -/
namespace Go.Proofs.YtdkcclngionihaaDoor
open Go.RowKit

section
variable {α : Type} (enc : α → List Value) (k : Nat)
/-- the slice at a reads as the list l: element i lies in k cells -/
def Els (w : World) (a : Option Addr) (l : List α) : Prop :=
  ∀ i x, l[i]? = some x → ∃ b off, a = some ⟨b, off, none⟩ ∧ b < w.heap.size ∧ ∀ j v, (enc x)[j]? = some v → w.cell? ⟨b, off + i * k + j, none⟩ = some v
/-- all cells of a list of elements -/
def flat (l : List α) : List Value := l.flatMap enc
theorem flat_append (l m : List α) : flat enc (l ++ m) = flat enc l ++ flat enc m := by simp [flat]
theorem flat_one (x : α) : flat enc [x] = enc x := by simp [flat]
variable {enc k}
theorem flat_length (hk : ∀ x, (enc x).length = k) (l : List α) : (flat enc l).length = l.length * k := by
  induction l with
  | nil => simp [flat]
  | cons x l ih =>
    have : flat enc (x :: l) = enc x ++ flat enc l := by simp [flat]
    rw [this, List.length_append, ih, hk, List.length_cons, Nat.succ_mul]; omega
theorem flat_at (hk : ∀ x, (enc x).length = k) : ∀ (l : List α) (i : Nat) (x : α) (j : Nat) (v : Value), l[i]? = some x → (enc x)[j]? = some v → (flat enc l)[i * k + j]? = some v
  | [], i, x, j, v, h, _ => by simp at h
  | y :: l, 0, x, j, v, h, hv => by
    simp at h; subst h
    have : flat enc (y :: l) = enc y ++ flat enc l := by simp [flat]
    rw [this, Nat.zero_mul, Nat.zero_add, List.getElem?_append_left (List.getElem?_eq_some_iff.1 hv).1]
    exact hv
  | y :: l, i + 1, x, j, v, h, hv => by
    have : flat enc (y :: l) = enc y ++ flat enc l := by simp [flat]
    rw [this, List.getElem?_append_right (by rw [hk, Nat.succ_mul]; omega), hk, show (i + 1) * k + j - k = i * k + j by rw [Nat.succ_mul]; omega]
    exact flat_at hk l i x j v (by simpa using h) hv
theorem Els.below {B : Nat} {w w' : World} {a l} (h : Els enc k w a l) (hb : Below B w w') (hB : w.heap.size ≤ B) : Els enc k w' a l := by
  intro i x hx
  obtain ⟨b, off, ha, hlt, hc⟩ := h i x hx
  exact ⟨b, off, ha, Nat.lt_of_lt_of_le hlt hb.size, fun j v hv => by rw [hb.cell (p := ⟨b, off + i * k + j, none⟩) (Nat.lt_of_lt_of_le hlt hB)]; exact hc j v hv⟩
theorem Since.els {w0 : World} {a l} (h : Els enc k w0 a l) (y : Since w0) : Els enc k y.w a l := h.below y.b (Nat.le_refl _)
theorem Els.to {w W : World} {a l} (h : Els enc k w a l) (hW : ∃ z : Since w, W = z.w) : Els enc k W a l := by
  obtain ⟨z, rfl⟩ := hW; exact Since.els h z
theorem els_nil (w : World) (a : Option Addr) : Els enc k w a [] := fun i x h => by simp at h
/-- what it takes is that the blocks that it lies in stay -/
theorem Els.keep {w w' : World} {a l} (h : Els enc k w a l) (hs : w.heap.size ≤ w'.heap.size) (hb : ∀ b off, a = some ⟨b, off, none⟩ → b < w.heap.size → w'.heap[b]? = w.heap[b]?) : Els enc k w' a l := by
  intro i x hx
  obtain ⟨b, off, ha, hlt, hc⟩ := h i x hx
  exact ⟨b, off, ha, by omega, fun j v hv => by rw [World.cell?_of_block (w := w) (a := ⟨b, off + i * k + j, none⟩) (hb b off ha hlt)]; exact hc j v hv⟩
theorem Els.take {w : World} {a : Option Addr} {l : List α} (h : Els enc k w a l) (m : Nat) : Els enc k w a (l.take m) := by
  intro i x hx
  rw [List.getElem?_take] at hx
  split at hx
  · exact h i x hx
  · cases hx

theorem own_els (hk : ∀ x, (enc x).length = k) (h0 : 0 < k) {w : World} {base : Nat} {e : TypeId} {v : Value} {n : Nat} {l : List α} (h : w.ownsRow base e k v n (flat enc l)) :
    n = l.length ∧ ∃ a cap, v = .slice a l.length cap ∧ l.length ≤ cap ∧ Els enc k w a l ∧ (∀ b, a = some b → base ≤ b.block) ∧ (∀ b, a = some b → v.ownBlock = some b.block) := by
  have hn : n = l.length := by
    have := h.1
    rw [flat_length hk] at this
    exact (Nat.eq_of_mul_eq_mul_right h0 this).symm
  subst hn
  refine ⟨rfl, ?_⟩
  obtain ⟨hl, h | ⟨g, cap, cur, rfl, hg, hh, hn, hm, hs, ht⟩⟩ := h
  · obtain ⟨rfl, hz⟩ := h
    have : l = [] := List.eq_nil_of_length_eq_zero hz
    subst this
    exact ⟨none, 0, rfl, Nat.le_refl _, els_nil _ _, fun b hb => (by cases hb), fun b hb => (by cases hb)⟩
  · refine ⟨some ⟨g, 0, none⟩, cap, rfl, hn, fun i x hx => ?_, fun b hb => by cases hb; exact hg, fun b hb => by cases hb; rfl⟩
    refine ⟨g, 0, rfl, (Array.getElem?_eq_some_iff.1 hh).1, fun j v hv => ?_⟩
    have hf := flat_at hk l i x j v hx hv
    rw [← ht, List.getElem?_take] at hf
    split at hf
    · simp only [World.cell?, hh]
      simpa using hf
    · cases hf
theorem cell_new_at (w : World) (cs : List Value) (T : TypeId) (j : Nat) (u : Value) (h : cs[j]? = some u) : (w.alloc (.cells cs.toArray T)).cell? ((⟨w.heap.size, 0, none⟩ : Addr).add j) = some u := by
  have hh : (w.alloc (.cells cs.toArray T)).heap[w.heap.size]? = some (.cells cs.toArray T) := by show (w.heap.push _)[w.heap.size]? = _; simp
  rw [Addr.add_lit]
  simp only [World.cell?, hh, Nat.zero_add]
  simpa using h
theorem own_to {w W : World} {base : Nat} {e : TypeId} {s : Nat} {v : Value} {n : Nat} {xs : List Value} (h : w.ownsRow base e s v n xs) (hW : ∃ z : Since w, W = z.w) : W.ownsRow base e s v n xs := by
  obtain ⟨z, rfl⟩ := hW; exact own_since h z.b
/-- 'append(v, us...)': v is nil or the call's own -/
theorem wpList_appendK {P : Program} {ops : Array Oper} {rest : List Oper} {o : Oper} {a : Act} {Q : Exit → Act → World → Prop} {w0 w : World} (hw : ∃ y : Since w0, w = y.w) (hgd : o.guard = none) (s x : Operand) (t : TypeId)
    (ho : o.op = .call { callee := .builtin .append, args := #[s, x], argTypes := #[t, t] })
    (base : Nat) (hbase : w0.heap.size ≤ base) (hbase' : base ≤ w.heap.size) (e : TypeId) (z : Value) (bytes : Nat) (ht : SliceOf P t e z k bytes) (v : Value) (n : Nat) (xs : List Value) (hs : a.eval s = v) (hown : w.ownsRow base e k v n xs)
    (ad : Addr) (m c : Nat) (news : List Value) (hx : a.eval x = .slice (some ad) m c) (hn : news.length = m * k) (hc : ∀ j u, news[j]? = some u → w.cell? (ad.add j) = some u) (h1 : ∀ u ∈ news, u.oneCell' = true)
    (h63 : n + m ≤ maxLen) (hbytes : (n + m) * bytes ≤ 140737488355328)
    (h : ∀ v' (q : Since w0), q.w.ownsRow base e k v' (n + m) (xs ++ news) → base ≤ q.w.heap.size → w.grownBy q.w v.ownBlock → wpList P ops Q rest (a.put o.dst v') q.w) : wpList P ops Q (o :: rest) a w := by
  obtain ⟨y, rfl⟩ := hw
  obtain ⟨i, hi, hz, hsize, hby⟩ := ht.e
  refine wpList_append_own y.w hgd s x t ho base e i z k bytes ht.t hi hz hsize hby ht.z ht.s v n xs hs hown ad m c news hx hn hc h1 h63 hbytes hbase' ?_
  intro v' w' hown' hg _
  obtain ⟨q, rfl⟩ := y.grown hg (fun k hk => Nat.le_trans hbase (own_block hown k hk))
  exact h v' q hown' (Nat.le_trans hbase' hg.size) hg
theorem flat_inv (hk : ∀ x, (enc x).length = k) (h0 : 0 < k) : ∀ (l : List α) (j : Nat) (u : Value), (flat enc l)[j]? = some u → ∃ x, l[j / k]? = some x ∧ (enc x)[j % k]? = some u
  | [], j, u, h => by simp [flat] at h
  | y :: l, j, u, h => by
    have e : flat enc (y :: l) = enc y ++ flat enc l := by simp [flat]
    rw [e] at h
    by_cases hj : j < k
    · rw [List.getElem?_append_left (by rw [hk]; exact hj)] at h
      exact ⟨y, by rw [Nat.div_eq_of_lt hj]; rfl, by rw [Nat.mod_eq_of_lt hj]; exact h⟩
    · rw [List.getElem?_append_right (by rw [hk]; omega), hk] at h
      obtain ⟨x, h1, h2⟩ := flat_inv hk h0 l (j - k) u h
      have e1 : j / k = (j - k) / k + 1 := by
        have := Nat.add_div_right (j - k) h0
        rw [show j - k + k = j by omega] at this; exact this
      have e2 : j % k = (j - k) % k := by
        have := Nat.add_mod_right (j - k) k
        rw [show j - k + k = j by omega] at this; exact this
      exact ⟨x, by rw [e1]; simpa using h1, by rw [e2]; exact h2⟩
/-- 'append(v, us...)': v is nil or the call's own, us a slice that reads so -/
theorem wpList_appendEls {P : Program} {ops : Array Oper} {rest : List Oper} {o : Oper} {a : Act} {Q : Exit → Act → World → Prop} {w0 w : World} (hk : ∀ x, (enc x).length = k) (h0 : 0 < k) (h1 : ∀ x, ∀ u ∈ enc x, u.oneCell' = true) (hw : ∃ y : Since w0, w = y.w) (hgd : o.guard = none) (s x : Operand) (t : TypeId)
    (ho : o.op = .call { callee := .builtin .append, args := #[s, x], argTypes := #[t, t] })
    (base : Nat) (hbase : w0.heap.size ≤ base) (hbase' : base ≤ w.heap.size) (e : TypeId) (z : Value) (bytes : Nat) (ht : SliceOf P t e z k bytes) (v : Value) (n : Nat) (xs : List Value) (hs : a.eval s = v) (hown : w.ownsRow base e k v n xs)
    (ao : Option Addr) (us : List α) (c : Nat) (hx : a.eval x = .slice ao us.length c) (hels : Els enc k w ao us) (hnil : ao = none → c = 0)
    (h63 : n + us.length ≤ maxLen) (hbytes : (n + us.length) * bytes ≤ 140737488355328)
    (h : ∀ v' (q : Since w0), q.w.ownsRow base e k v' (n + us.length) (xs ++ flat enc us) → base ≤ q.w.heap.size → w.grownBy q.w v.ownBlock → wpList P ops Q rest (a.put o.dst v') q.w) : wpList P ops Q (o :: rest) a w := by
  cases ao with
  | none =>
    have hus : us = [] := by
      cases us with
      | nil => rfl
      | cons y us =>
        obtain ⟨b, off, hb, _⟩ := hels 0 y rfl
        cases hb
    subst hus
    obtain rfl := hnil rfl
    obtain ⟨y, rfl⟩ := hw
    obtain ⟨i, hi, hz, hsize, hby⟩ := ht.e
    refine wpList_plain hgd fun K hK' => ?_
    have hrun := run_append_owned_none (P := P) y.w base t o.type e i k ht.t hi v n xs hown
    unfold Oper.wp
    simp [execOp, ho, resolve, invoke, builtin, hs, hx, hrun, Result.andThen]
    exact hK' _ _ (h v y (by simpa [flat] using hown) hbase' (World.grownBy.refl _ _))
  | some ad =>
    refine wpList_appendK hw hgd s x t ho base hbase hbase' e z bytes ht v n xs hs hown ad us.length c (flat enc us) hx (flat_length hk us) ?_ ?_ h63 hbytes h
    · intro j u hu
      obtain ⟨y, hy, hr⟩ := flat_inv hk h0 us j u hu
      obtain ⟨b, off, hb, _, hc⟩ := hels _ y hy
      have hb' : ad = ⟨b, off, none⟩ := Option.some.inj hb
      subst hb'
      have := hc _ u hr
      rw [Addr.add_lit, show off + j = off + j / k * k + j % k by rw [Nat.add_assoc, Nat.mul_comm, Nat.div_add_mod]]
      exact this
    · intro u hu
      obtain ⟨y, _, hy⟩ := List.mem_flatMap.1 hu
      exact h1 y u hy
end
end Go.Proofs.YtdkcclngionihaaDoor
/- 'copy' between slices of structs: generic, no program in sight. -/
namespace Go.Proofs.YtdkcclngionihaaDoor
open Go.RowKit

section
variable {P : Program}
theorem run_copyK (w : World) (dT sT ty elem : TypeId) (k b o dLen dCap : Nat) (a : Addr) (sLen sCap : Nat) (cs : List Value)
    (hu : P.underlying dT = some (.slice elem)) (hs : (P.info? elem).map (·.size) = some k) (hn : cs.length = Nat.min sLen dLen * k)
    (hsrc : ∀ j v, cs[j]? = some v → w.cell? (a.add j) = some v) (hc : ∀ j, j < cs.length → (w.cell? ⟨b, o + j, none⟩).isSome = true) (hf : ∀ j, j < cs.length → w.frozen? ⟨b, o + j, none⟩ = false) (h1 : ∀ v ∈ cs, v.oneCell' = true) :
    (Builtin.copy_ #[dT, sT] ty #[.slice (some ⟨b, o, none⟩) dLen dCap, .slice (some a) sLen sCap]).run P w = .ok (goInt (Nat.min sLen dLen : Nat)) (w.setCells b o cs) := by
  have hl := run_loadCells_list (P := P) w a cs hsrc
  have hst := run_storeCells_cells (P := P) b o cs 0 w (by simpa using hc) (by simpa using hf) h1
  cases hq : P.info? elem with
  | none => simp [hq] at hs
  | some i =>
    have hi : i.size = k := by simpa [hq] using hs
    simp [Builtin.copy_, run_underlying hu, Builtin.lenOf, Builtin.firstCells, sizeOf, typeInfo, hq, hi, ← hn, hl, hst]
end
section
variable {α : Type} {enc : α → List Value} {k : Nat}
end
end Go.Proofs.YtdkcclngionihaaDoor
/- The frame of a law's proof: opening arguments, the post of a call that returns true and turns nothing that was there: generic, no program in sight. -/
namespace Go.Proofs.YtdkcclngionihaaDoor
open Go.ChangeShapes Go.WideShapes Go.ChangeAt Go.RowKit

section
variable {H : Type} {enc : TypeId × Value → H} {P : Program}

theorem trodAll_below (hl : laidOutB P = true) {W W' : World} (hb : Below W.heap.size W W') : ∀ (ts : List TypeId) (vs : List Value) (ds : List (DataW H)) (ps : List MemPlace),
    (ts.all fun t => P.readableRec t && decide (t < P.types.size)) = true → DataW.TrodAll enc P W 0 (fun _ => true) true ts vs ds ps → DataW.TrodAll enc P W' 0 (fun b => decide (b < W.heap.size)) true ts vs ds ps
  | [], vs, ds, ps, _, h => by
    obtain ⟨rfl, rfl, rfl⟩ := trodAll_nil h
    exact trodAll_mk0
  | t :: ts, vs, ds, ps, hr, h => by
    obtain ⟨v, vs', d, ds', p, q, rfl, rfl, rfl, h0, r0⟩ := trodAll_cons h
    simp only [List.all_cons, Bool.and_eq_true, decide_eq_true_eq] at hr
    have lt0 : ∀ x ∈ p, x.block < W.heap.size := by obtain ⟨m, hm⟩ := h0; exact DataW.trod_lt m _ _ _ hm
    exact trodAll_cons_mk (Below.trod hl hr.1.1 hr.1.2 h0 hb lt0) (trodAll_below hl hb ts vs' ds' q hr.2 r0)

/-- The post of a law: true; the input reads as it did. -/
theorem law_post {fn : Func} {s : ChangeSpec} {W W' : World} {args : Array Value} {ds gs : List (DataW H)} {before : List MemPlace} {e : Ending} {T : TypeId} (hl : laidOutB P = true)
    (hrd : (fn.params.toList.all fun t => P.readableRec t && decide (t < P.types.size)) = true) (hT : fn.resultTypes = #[T]) (hTb : P.underlying T = some .bool) (hvars : s.vars = [])
    (hW : DataW.Whole enc P fn.params.toList s.vars false W args.toList ds gs before) (hs : s.fn H (ds ++ gs) = { results := [.lit (.bool true)], args := ds }) (hy : e = .returned (.bool true) ∧ ∃ y : Since W, W' = y.w) :
    ∃ v, e = .returned v ∧ s.post enc P fn false true false false W args v W' := by
  obtain ⟨rfl, y, rfl⟩ := hy
  have hW' := hW
  obtain ⟨p, q, hA, hV, rfl, hfz, hnd⟩ := hW
  rw [hvars] at hV
  obtain ⟨rfl, rfl⟩ := trodVars_none hV
  refine ⟨_, rfl, ds, [], _, [], p, [], hW', ?_, ?_, ?_, y.b.frame _, fun h => by cases h⟩
  · rw [hs, hT]
    exact trodAll_mk1 (shut_bool hTb _)
  · rw [hs]
    exact trodAll_below hl y.b _ _ _ _ hrd hA
  · rw [hs, hvars]
    rfl

/-- a slice of numbers -/
theorem open_row {w : World} {base n : Nat} {spare : Nat → Bool} {held : Bool} {t e : TypeId} {k : IntKind} {c : Value} {y : DataW H × List MemPlace} (ht : P.underlying t = some (.slice e)) (he : P.underlying e = some (.int k)) (hc : P.cellsOf e = 1)
    (h : DataW.trod enc P w base spare held n t [c] = some y) :
    ∃ a l cap, c = .slice a l.length cap ∧ l.length ≤ cap ∧ cap ≤ 9223372036854775807 ∧ (Row w a l.length fun i => .int k (at0 l i)) ∧ ∀ z ∈ l, (Lit.int k z).wf = true := by
  rcases open_ints ht he hc h with ⟨hcs, _⟩ | ⟨x, len, cap, zs, hcs, _, hl, hm, hz, _, hcell, hwz⟩
  · simp at hcs; subst hcs
    exact ⟨none, [], 0, rfl, Nat.le_refl _, by decide, fun i hi => (by simp at hi), fun z hz => (by simp at hz)⟩
  · simp at hcs; subst hcs
    have hlz : len ≤ zs.length := by rw [hz]; split <;> omega
    have hlen : (zs.take len).length = len := by simp; omega
    refine ⟨some x, zs.take len, cap, by rw [hlen], by rw [hlen]; exact hl, hm, ?_, fun z hz => hwz z (List.mem_of_mem_take hz)⟩
    intro i hi
    rw [hlen] at hi
    obtain ⟨b, off, spot⟩ := x
    have hc0 := hcell i (by omega)
    have hs0 := hcell 0 (by omega)
    have hspot : spot = none := by simpa [Addr.add] using World.cell?_spot hs0
    subst hspot
    have hblk := World.block_lt_of_cell? w _ hc0
    have hadd : Addr.add ⟨b, off, none⟩ i = ⟨b, off + i, none⟩ := by
      unfold Addr.add; split
      · rename_i h; subst h; rfl
      · rfl
    rw [hadd] at hc0 hblk
    refine ⟨b, off, rfl, hblk, ?_⟩
    rw [hc0]
    have : zs.getD i 0 = at0 (zs.take len) i := by
      unfold at0; simp [List.getD_eq_getElem?_getD, hi]
    rw [this]
end

theorem wf_i64 {n : Int} (h : (Lit.int .i64 n).wf = true) : I64 n := by
  have h1 : (decide ((-9223372036854775808 : Int) ≤ n) && decide (n ≤ 9223372036854775807)) = true := h
  simpa [I64] using h1
end Go.Proofs.YtdkcclngionihaaDoor
/- Opening more kinds of arguments: slices of numbers, structs of several cells: generic. -/
namespace Go.Proofs.YtdkcclngionihaaDoor
open Go.ChangeShapes Go.WideShapes Go.ChangeAt Go.RowKit

section
variable {H : Type} {enc : TypeId × Value → H} {P : Program}

end
end Go.Proofs.YtdkcclngionihaaDoor
/- The frame: opening structs of numbers: generic, no program in sight. -/
namespace Go.Proofs.YtdkcclngionihaaDoor
open Go.ChangeShapes Go.WideShapes Go.ChangeAt Go.RowKit

section
variable {H : Type} {enc : TypeId × Value → H} {P : Program}
end
end Go.Proofs.YtdkcclngionihaaDoor
/- The frame: opening slices of structs of numbers, and arrays of numbers: generic, no program in sight. -/
namespace Go.Proofs.YtdkcclngionihaaDoor
open Go.ChangeShapes Go.WideShapes Go.ChangeAt Go.RowKit

section
variable {H : Type} {enc : TypeId × Value → H} {P : Program}
theorem addr_add (b off i : Nat) : Addr.add ⟨b, off, none⟩ i = ⟨b, off + i, none⟩ := by
  unfold Addr.add; split
  · rename_i h; subst h; rfl
  · rfl
theorem list_pick {α : Type} {n : Nat} {R : Nat → α → Prop} (h : ∀ i, i < n → ∃ x, R i x) : ∃ l : List α, l.length = n ∧ ∀ i x, l[i]? = some x → R i x := by
  induction n with
  | zero => exact ⟨[], rfl, fun i x hx => by simp at hx⟩
  | succ n ih =>
    obtain ⟨l, hl, hr⟩ := ih (fun i hi => h i (by omega))
    obtain ⟨x, hx⟩ := h n (by omega)
    refine ⟨l ++ [x], by simp [hl], fun i y hy => ?_⟩
    by_cases hi : i < l.length
    · rw [List.getElem?_append_left hi] at hy; exact hr i y hy
    · rw [List.getElem?_append_right (by omega)] at hy
      have : i = n := by
        rcases Nat.lt_or_ge (i - l.length) 1 with h1 | h1
        · omega
        · rw [List.getElem?_eq_none (by simpa using h1)] at hy; cases hy
      subst this
      rw [hl, Nat.sub_self] at hy
      simp at hy; subst hy; exact hx
end
end Go.Proofs.YtdkcclngionihaaDoor
/- The frame: opening slices of structs of any fields, part by part: generic, no program in sight. -/
namespace Go.Proofs.YtdkcclngionihaaDoor
open Go.ChangeShapes Go.WideShapes Go.ChangeAt Go.RowKit

section
variable {H : Type} {enc : TypeId × Value → H} {P : Program}
/-- a slice whose elements open one by one -/
theorem open_sliceG {α : Type} {encA : α → List Value} {Q : α → Prop} {w : World} {base fuel nc : Nat} {spare : Nat → Bool} {held : Bool} {t e : TypeId} {c : Value} {y : DataW H × List MemPlace} (ht : P.underlying t = some (.slice e)) (hc : P.cellsOf e = nc) (h0 : 0 < nc) (hlen : ∀ x, (encA x).length = nc)
    (hE : ∀ fuel cs y, DataW.trod enc P w base spare held fuel e cs = some y → ∃ x, cs = encA x ∧ Q x) (h : DataW.trod enc P w base spare held fuel t [c] = some y) :
    ∃ (a : Option Addr) (l : List α) (cap : Nat), c = .slice a l.length cap ∧ l.length ≤ cap ∧ cap ≤ 9223372036854775807 ∧ (a = none → cap = 0) ∧ Els encA nc w a l ∧ ∀ x ∈ l, Q x := by
  rcases DataW.trod_slice ht h with ⟨hcs, _⟩ | ⟨a, len, cap, elems, rest, n, _, hcs, _, _, hl, hm, hlen', hel, _, _⟩
  · simp at hcs
    subst hcs
    exact ⟨none, [], 0, rfl, Nat.le_refl _, by decide, fun _ => rfl, els_nil _ _, fun x hx => (by cases hx)⟩
  · simp at hcs
    subst hcs
    by_cases hn0 : len = 0
    · subst hn0
      exact ⟨some a, [], cap, rfl, by simp, hm, fun hh => (by cases hh), els_nil _ _, fun x hx => (by cases hx)⟩
    have hspot : a.spot = none := by
      have h1 := hel 0 (by omega)
      rw [hc, Nat.zero_mul] at h1
      have hx : elems[0]? = some (elems[0]'(by omega)) := List.getElem?_eq_getElem (by omega)
      rw [hx, Option.bind_eq_some_iff] at h1
      obtain ⟨cs, h2, h3⟩ := h1
      obtain ⟨_, hcl, hg⟩ := World.cells?_some h2
      have := hg 0 h0
      rw [List.getElem?_eq_getElem (by omega)] at this
      have := World.cell?_spot this
      simpa [Addr.add] using this
    obtain ⟨b, off, spot⟩ := a
    simp only at hspot
    subst hspot
    have hcell : ∀ i, i < len → ∃ x : α, (∀ j u, (encA x)[j]? = some u → w.cell? ⟨b, off + i * nc + j, none⟩ = some u) ∧ Q x := fun i hi => by
      have h1 := hel i hi
      rw [hc] at h1
      have hx : elems[i]? = some (elems[i]'(by omega)) := List.getElem?_eq_getElem (by omega)
      rw [hx, Option.bind_eq_some_iff] at h1
      obtain ⟨cs, h2, h3⟩ := h1
      obtain ⟨_, hcl, hg⟩ := World.cells?_some h2
      obtain ⟨x, rfl, hq⟩ := hE _ _ _ h3
      refine ⟨x, fun j u hu => ?_, hq⟩
      have hj : j < nc := by have := (List.getElem?_eq_some_iff.1 hu).1; rw [hlen] at this; exact this
      have := hg j hj
      rw [hu, addr_add, addr_add] at this
      exact this
    obtain ⟨l, hll, hr⟩ := list_pick hcell
    subst hll
    refine ⟨some ⟨b, off, none⟩, l, cap, rfl, hl, hm, fun hh => (by cases hh), fun i x hx => ?_, fun x hx => ?_⟩
    · have hcs := (hr i x hx).1
      have hsome : ∃ u, (encA x)[0]? = some u := ⟨_, List.getElem?_eq_getElem (by rw [hlen]; exact h0)⟩
      obtain ⟨u, hu⟩ := hsome
      exact ⟨b, off, rfl, World.block_lt_of_cell? w _ (hcs 0 u hu), fun j v hj => hcs j v hj⟩
    · obtain ⟨i, hi⟩ := List.mem_iff_getElem?.1 hx
      exact (hr i x hi).2
/-- the fields of a struct, one by one -/
theorem trod_fields {w : World} {base fuel : Nat} {spare : Nat → Bool} {held : Bool} {t : TypeId} {fs : Array Field} {cs : List Value} {y : DataW H × List MemPlace} {L : List (Nat × TypeId)} (ht : P.underlying t = some (.struct fs)) (hL : (fs.toList.map fun f => (f.offset, f.type)) = L) (h : DataW.trod enc P w base spare held fuel t cs = some y) :
    cs.length = P.cellsOf t ∧ ∀ (i : Nat) (p : Nat × TypeId), L[i]? = some p → ∃ n z, DataW.trod enc P w base spare held n p.2 ((cs.drop p.1).take (P.cellsOf p.2)) = some z := by
  obtain ⟨xs, n, _, _, hlen, hxs, hel⟩ := DataW.trod_struct ht h
  refine ⟨hlen, fun i p hp => ?_⟩
  subst hL
  rw [List.getElem?_map] at hp
  cases hf : fs.toList[i]? with
  | none => rw [hf] at hp; cases hp
  | some f =>
    rw [hf] at hp
    have hp := Option.some.inj hp
    subst hp
    have hf' : fs[i]? = some f := by rw [← Array.getElem?_toList]; exact hf
    have hi : i < fs.size := (Array.getElem?_eq_some_iff.1 hf').1
    have := hel i f hf'
    rw [List.getElem?_eq_getElem (show i < xs.length by omega)] at this
    exact ⟨n, _, this⟩
end
end Go.Proofs.YtdkcclngionihaaDoor
/- A class of worlds by name: what is later than W; facts said of it serve in regions that draw their order: generic, no program in sight. -/
namespace Go.Proofs.YtdkcclngionihaaDoor
open Go.RowKit
/-- w is later than W -/
def IsSince (W w : World) : Prop := ∃ y : Since W, w = y.w
theorem IsSince.mk' {W w : World} (h : ∃ y : Since W, w = y.w) : IsSince W w := h
theorem IsSince.of {W : World} (y : Since W) : IsSince W y.w := ⟨y, rfl⟩
theorem IsSince.drew {W : World} (y : Since W) : IsSince W y.w.drew := y.drew
theorem IsSince.self (W : World) : IsSince W W := ⟨Since.self W, rfl⟩
theorem IsSince.alloc {W w : World} (h : IsSince W w) (o : Obj) : IsSince W (w.alloc o) := by
  obtain ⟨y, rfl⟩ := h; exact y.alloc o
theorem IsSince.drew' {W w : World} (h : IsSince W w) : IsSince W w.drew := by
  obtain ⟨y, rfl⟩ := h; exact y.drew
theorem IsSince.set {W w : World} (h : IsSince W w) (a : Addr) (ha : W.heap.size ≤ a.block) (v : Value) : IsSince W (w.setCell a v) := by
  obtain ⟨y, rfl⟩ := h; exact y.set a ha v
theorem IsSince.size {W w : World} (h : IsSince W w) : W.heap.size ≤ w.heap.size := by
  obtain ⟨y, rfl⟩ := h; exact y.b.size
theorem IsSince.cell {W w : World} {a : Addr} {v : Value} (h : ∀ y : Since W, y.w.cell? a = some v) (hw : IsSince W w) : w.cell? a = some v := by
  obtain ⟨y, rfl⟩ := hw; exact h y
theorem Since.cellTo {Y W : World} (hst : ∃ zz : Since Y, W = zz.w) {a : Addr} {v : Value} (h : ∀ q : Since Y, q.w.cell? a = some v) : ∀ q : Since W, q.w.cell? a = some v := fun q => by
  obtain ⟨zz, rfl⟩ := hst; obtain ⟨z, e⟩ := zz.trans q; rw [e]; exact h z
theorem Since.grownBy {w : World} (z : Since w) : w.grownBy z.w none := ⟨z.b.os, z.b.tape, z.b.output, z.b.size, fun i hi _ => z.b.block i hi⟩
end Go.Proofs.YtdkcclngionihaaDoor
/- Appends at a step of a statement that draws its order: generic, no program in sight. -/
namespace Go.Proofs.YtdkcclngionihaaDoor
open Go.RowKit

section
variable {α : Type} {enc : α → List Value} {k : Nat}
/-- an empty slice that is not nil -/
theorem own_empty {w : World} {g base : Nat} {e : TypeId} (h : w.heap[g]? = some (.cells #[] e)) (hb : base ≤ g) : w.ownsRow base e k (.slice (some ⟨g, 0, none⟩) 0 0) 0 [] :=
  ⟨by simp, .inr ⟨g, 0, #[], rfl, hb, h, Nat.le_refl _, by decide, by simp, by simp⟩⟩
end
/-- a box of two cells that is not the row's block -/
structure WBox (w : World) (g : Nat) (c0 c1 : Value) (v : Value) : Prop where
  lt : g < w.heap.size
  a0 : w.cell? ⟨g, 0, none⟩ = some c0
  a1 : w.cell? ⟨g, 1, none⟩ = some c1
  ne : ∀ b, v.ownBlock = some b → b ≠ g
theorem WBox.to {w W : World} {g : Nat} {c0 c1 v : Value} (h : WBox w g c0 c1 v) (hW : ∃ z : Since w, W = z.w) : WBox W g c0 c1 v := by
  obtain ⟨z, rfl⟩ := hW
  exact ⟨Nat.lt_of_lt_of_le h.lt z.b.size, Since.cell h.a0 h.lt z, Since.cell h.a1 h.lt z, h.ne⟩
/-- a block that is known whole -/
def Blk (w : World) (g : Nat) (o : Obj) : Prop := w.heap[g]? = some o
theorem Blk.new (w : World) (o : Obj) : Blk (w.alloc o) w.heap.size o := by show (w.heap.push _)[w.heap.size]? = _; simp
theorem Blk.to {w W : World} {g : Nat} {o : Obj} (h : Blk w g o) (hW : ∃ z : Since w, W = z.w) : Blk W g o := by
  obtain ⟨z, rfl⟩ := hW; exact (z.b.block g (Array.getElem?_eq_some_iff.1 h).1).trans h
theorem Blk.grown {w w' : World} {row : Option Nat} {g : Nat} {o : Obj} (hg : w.grownBy w' row) (h : Blk w g o) (hne : some g ≠ row) : Blk w' g o :=
  (hg.block g (Array.getElem?_eq_some_iff.1 h).1 hne).trans h
theorem Blk.cells {w : World} {g : Nat} {cs : List Value} {e : TypeId} (h : Blk w g (.cells cs.toArray e)) : ∀ j u, cs[j]? = some u → w.cell? ((⟨g, 0, none⟩ : Addr).add j) = some u := fun j u hu => by
  unfold Blk at h
  rw [Addr.add_lit]
  simp only [World.cell?, h, Nat.zero_add]
  simpa using hu
theorem own_up {w : World} {base : Nat} {e : TypeId} {s : Nat} {v : Value} {n : Nat} {xs : List Value} {o : Obj} (h : w.ownsRow base e s v n xs) : (w.alloc o).ownsRow base e s v n xs := own_to h (IsSince.alloc (IsSince.self _) _)
end Go.Proofs.YtdkcclngionihaaDoor
/- Contracts said of any later world, whose end is later than it, too: generic, no program in sight. -/
namespace Go.Proofs.YtdkcclngionihaaDoor
open Go.RowKit

/-- the ending is as R says; the world is later than W and than w -/
def Ends (W w : World) (R : Ending → Prop) (o : Ending) (w' : World) : Prop := R o ∧ ∃ z : Since W, w' = z.w ∧ ∃ v : Since w, z.w = v.w
theorem later {P : Program} {F : FuncId} {args : Array Value} {W w' : World} {R : Ending → Prop} (hw : IsSince W w') (h : ∀ x : Since w', Calls P F args x.w (fun o w'' => R o ∧ ∃ y : Since w', w'' = y.w)) : Calls P F args w' (Ends W w' R) := by
  refine (h (Since.self w')).mono ?_
  rintro o _ ⟨ho, y, rfl⟩
  obtain ⟨z, hz⟩ := hw
  subst hz
  obtain ⟨v, hv⟩ := z.trans y
  exact ⟨ho, v, hv, y, hv.symm⟩
theorem IsSince.trans {a b c : World} (h : IsSince a b) (k : IsSince b c) : IsSince a c := by
  obtain ⟨y, rfl⟩ := h
  obtain ⟨z, rfl⟩ := k
  exact y.trans z
/-- a new box of two cells, not written yet -/
structure NB (W w : World) (g : Nat) (a b : Value) : Prop where
  lb : W.heap.size ≤ g
  lt : g < w.heap.size
  c0 : w.cell? ⟨g, 0, none⟩ = some a
  c1 : w.cell? ⟨g, 1, none⟩ = some b
  f : ∀ o, w.frozen? ⟨g, o, none⟩ = false
theorem NB.to {W w z : World} {g : Nat} {a b : Value} (h : NB W w g a b) (hz : ∃ v : Since w, z = v.w) : NB W z g a b := by
  obtain ⟨v, rfl⟩ := hz
  exact ⟨h.lb, Nat.lt_of_lt_of_le h.lt v.b.size, Since.cell h.c0 h.lt v, Since.cell h.c1 h.lt v, fun o => Since.free (h.f o) h.lt v⟩
theorem NB.set {W w : World} {g : Nat} {a b : Value} (h : NB W w g a b) (hw : IsSince W w) (u v : Value) : IsSince W ((w.setCell ⟨g, 0, none⟩ u).setCell ⟨g, 1, none⟩ v) := IsSince.set (IsSince.set hw _ h.lb _) _ h.lb _
end Go.Proofs.YtdkcclngionihaaDoor
/- Making slices of one-cell elements; values of the call's own in a block: generic, no program in sight. -/
namespace Go.Proofs.YtdkcclngionihaaDoor
open Go.RowKit

/-- 'make([]T, n)', elements of one cell -/
theorem make1_run {P : Program} {t e : TypeId} {z : Value} {bytes : Nat} (ht : SliceOf P t e z 1 bytes) (hz : z.cells = #[z]) (n : Nat) (hb : bytes * n ≤ 281474976710656) (h63 : n ≤ 9223372036854775807) (w : World) :
    (Instr.makeSlice t (.int .i64 (n : Int)) (.int .i64 (n : Int))).run P w = .ok (.slice (some ⟨w.heap.size, 0, none⟩) n n) (w.alloc (.cells (List.replicate n z).toArray e)) := by
  obtain ⟨i, hi, hz0, hsz, hby⟩ := ht.e
  subst hby
  have hb' : (i.bytes : Int) * (n : Int) ≤ 281474976710656 := by
    have h : ((i.bytes * n : Nat) : Int) ≤ 281474976710656 := by omega
    rwa [Int.natCast_mul] at h
  have hr := run_make (P := P) w t e i z ht.t hi hz0 .i64 .i64 n n (by omega) (Int.le_refl _) hb' (by omega)
  simp only [Int.toNat_natCast] at hr
  rw [hr, hsz, hz, Nat.mul_one]
  have := toList_madeCells_one z n
  rw [← this]
/-- values of the call's own in block g -/
structure Vals (w : World) (g : Nat) (n : Nat) (f : Nat → Value) : Prop where
  lt : g < w.heap.size
  c : ∀ j, j < n → w.cell? ⟨g, j, none⟩ = some (f j)
  f : ∀ j, j < n → w.frozen? ⟨g, j, none⟩ = false
theorem Vals.new (w : World) (cs : List Value) (e : TypeId) (n : Nat) (f : Nat → Value) (h : ∀ i, i < n → cs[i]? = some (f i)) : Vals (w.alloc (.cells cs.toArray e)) w.heap.size n f := by
  have hh : (w.alloc (.cells cs.toArray e)).heap[w.heap.size]? = some (.cells cs.toArray e) := by show (w.heap.push _)[w.heap.size]? = _; simp
  refine ⟨by simp, fun j hj => ?_, fun j hj => by simp only [World.frozen?, hh]; rfl⟩
  simp only [World.cell?, hh]
  simpa using h j hj
theorem Vals.since {w : World} {g n : Nat} {f : Nat → Value} (h : Vals w g n f) (y : Since w) : Vals y.w g n f :=
  ⟨Nat.lt_of_lt_of_le h.lt y.b.size, fun j hj => Since.cell (h.c j hj) h.lt y, fun j hj => Since.free (h.f j hj) h.lt y⟩
theorem Vals.to {w W : World} {g n : Nat} {f : Nat → Value} (h : Vals w g n f) (hW : ∃ z : Since w, W = z.w) : Vals W g n f := by
  obtain ⟨z, rfl⟩ := hW; exact h.since z
theorem Vals.set {w : World} {g n k : Nat} {f f' : Nat → Value} (h : Vals w g n f) (hk : k < n) (v : Value) (hv : f' k = v) (ho : ∀ j, j < n → j ≠ k → f' j = f j) : Vals (w.setCell ⟨g, k, none⟩ v) g n f' := by
  refine ⟨by simpa [World.setCell] using h.lt, fun j hj => ?_, fun j hj => ?_⟩
  · by_cases hjk : j = k
    · subst hjk
      rw [World.cell?_setCell_same _ _ _ (h.c j hj), hv]
    · show ((w.setCells g k [v]).cell? _) = _
      rw [World.cell?_setCells_out g [v] k w ⟨g, j, none⟩ (fun _ _ => by simp; omega), h.c j hj, ho j hj hjk]
  · rw [World.frozen?_setCell]; exact h.f j hj
theorem Vals.setOther {w : World} {g n : Nat} {f : Nat → Value} (h : Vals w g n f) (p : Addr) (hp : p.block ≠ g) (v : Value) : Vals (w.setCell p v) g n f := by
  have hh := Below.heap_setCell w p v g (fun e => hp e.symm)
  refine ⟨by simpa [World.setCell] using h.lt, fun j hj => ?_, fun j hj => by rw [World.frozen?_setCell]; exact h.f j hj⟩
  rw [World.cell?_of_block (w := w) (a := ⟨g, j, none⟩) hh]; exact h.c j hj
theorem Vals.keep {w w' : World} {g n : Nat} {f : Nat → Value} (h : Vals w g n f) (hs : w.heap.size ≤ w'.heap.size) (hb : w'.heap[g]? = w.heap[g]?) : Vals w' g n f :=
  ⟨Nat.lt_of_lt_of_le h.lt hs, fun j hj => by rw [World.cell?_of_block (w := w) (a := ⟨g, j, none⟩) hb]; exact h.c j hj, fun j hj => by rw [World.frozen?_of_block (w := w) (a := ⟨g, j, none⟩) hb]; exact h.f j hj⟩
theorem Vals.congr {w : World} {g n : Nat} {f f' : Nat → Value} (h : Vals w g n f) (he : ∀ j, j < n → f j = f' j) : Vals w g n f' :=
  ⟨h.lt, fun j hj => by rw [h.c j hj, he j hj], h.f⟩
theorem Vals.row {w : World} {g n : Nat} {f : Nat → Value} (h : Vals w g n f) : Row w (some ⟨g, 0, none⟩) n f :=
  fun i hi => ⟨g, 0, rfl, h.lt, by rw [Nat.zero_add]; exact h.c i hi⟩
end Go.Proofs.YtdkcclngionihaaDoor
/- Maps whose entries are known one by one, in the order in which they came: look-up, store, len, range: generic, no program in sight. -/
namespace Go.Proofs.YtdkcclngionihaaDoor
open Go.RowKit Go.ChangeMaps

/-- what the walk needs to know of a map's keys: 'ek x' is the key x -/
structure KeyOps (P : Program) (kt : TypeId) {κ : Type} [DecidableEq κ] (ek : κ → Value) (now : Bool) : Prop where
  chk : ∀ em w x, (Instr.checkKey em 10000 kt (ek x)).run P w = .ok () w
  eq : ∀ w x y, (Op.equal kt (ek x) (ek y)).run P w = .ok (decide (x = y)) w
  und : ∃ d, P.underlying kt = some d ∧ ∀ x y, Instr.sameNow d (ek x) (ek y) = if now then some (decide (x = y)) else none
  bits : ∀ x, Instr.sameBits 10000 (ek x) (ek x) = true

section
variable {κ : Type}
/-- the entries of a map, in the order in which they came -/
def entF (ek : κ → Value) : List (κ × Value) → Nat → List MapEntry
  | [], _ => []
  | p :: l, i => ⟨ek p.1, p.2, i⟩ :: entF ek l (i + 1)
variable (ek : κ → Value)
theorem entF_length : ∀ (l : List (κ × Value)) (i : Nat), (entF ek l i).length = l.length
  | [], _ => rfl
  | _ :: l, i => by simp [entF, entF_length l (i + 1)]
theorem entF_at : ∀ (l : List (κ × Value)) (i j : Nat), (entF ek l i)[j]? = (l[j]?).map fun p => ⟨ek p.1, p.2, i + j⟩
  | [], _, _ => by simp [entF]
  | p :: l, i, 0 => by simp [entF]
  | p :: l, i, j + 1 => by
    simp only [entF, List.getElem?_cons_succ]
    rw [entF_at l (i + 1) j, show i + 1 + j = i + (j + 1) by omega]
theorem entF_append : ∀ (l m : List (κ × Value)) (i : Nat), entF ek (l ++ m) i = entF ek l i ++ entF ek m (i + l.length)
  | [], m, i => by simp [entF]
  | p :: l, m, i => by
    simp only [List.cons_append, entF, List.length_cons]
    rw [entF_append l m (i + 1), show i + 1 + l.length = i + (l.length + 1) by omega]
/-- block b is a map with these entries -/
def MapAt (w : World) (b : Nat) (l : List (κ × Value)) : Prop := w.heap[b]? = some (.map (entF ek l 0).toArray l.length)
end
section
variable {κ : Type} [DecidableEq κ]
/-- where a key is found, and what stands there -/
def lkF (x : κ) : List (κ × Value) → Nat → Option (Nat × Value)
  | [], _ => none
  | p :: l, i => if x = p.1 then some (i, p.2) else lkF x l (i + 1)
variable {ek : κ → Value} {P : Program} {kt : TypeId} {now : Bool}

theorem run_findAsking (K : KeyOps P kt ek now) (w : World) (x : κ) : ∀ (l : List (κ × Value)) (i : Nat), (Instr.findAsking kt (ek x) (entF ek l i) i).run P w = .ok (lkF x l i) w
  | [], _ => by simp [entF, Instr.findAsking, lkF]
  | p :: l, i => by
    simp only [entF, Instr.findAsking, Sem.run_bind, K.eq, Result.andThen_ok]
    by_cases h : x = p.1
    · simp [h, lkF]
    · simp only [h, decide_false, Bool.false_eq_true, if_false]
      rw [run_findAsking K w x l (i + 1)]
      simp [lkF, h]
theorem findNow_now (K : KeyOps P kt ek true) {d : TypeDesc} (hd : ∀ x y, Instr.sameNow d (ek x) (ek y) = some (decide (x = y))) (x : κ) : ∀ (l : List (κ × Value)) (i : Nat), Instr.findNow d (ek x) (entF ek l i) i = some (lkF x l i)
  | [], _ => rfl
  | p :: l, i => by
    simp only [entF, Instr.findNow, hd]
    by_cases h : x = p.1
    · simp [h, lkF]
    · simp only [h, decide_false]
      rw [findNow_now K hd x l (i + 1)]
      simp [lkF, h]
theorem run_findKey (K : KeyOps P kt ek now) (w : World) (x : κ) (l : List (κ × Value)) : (Instr.findKey kt (ek x) (entF ek l 0)).run P w = .ok (lkF x l 0) w := by
  obtain ⟨d, hu, hd⟩ := K.und
  unfold Instr.findKey
  simp only [Sem.run_bind, run_underlying hu, Result.andThen_ok]
  cases now with
  | true =>
    rw [findNow_now K (fun x y => by rw [hd]; rfl) x l 0]
    simp
  | false =>
    cases l with
    | nil => simp [entF, Instr.findNow, lkF]
    | cons p l =>
      have : Instr.findNow d (ek x) (entF ek (p :: l) 0) 0 = none := by simp [entF, Instr.findNow, hd]
      rw [this]
      exact run_findAsking K w x (p :: l) 0

/-- what a look-up finds -/
def lkV (x : κ) (l : List (κ × Value)) (z : Value) : Value := match lkF x l 0 with | some (_, v) => v | none => z
def lkB (x : κ) (l : List (κ × Value)) : Bool := (lkF x l 0).isSome
theorem run_look {w : World} {b : Nat} {l : List (κ × Value)} {t et : TypeId} {z : Value} (K : KeyOps P kt ek now) (h : MapAt ek w b l) (ht : P.underlying t = some (.map kt et)) (hz : (zeroValue et).run P w = .ok z w) (x : κ) (ok : Bool) :
    (Instr.lookup t (.map (some b)) (ek x) ok).run P w = .ok (if ok then .tuple #[lkV x l z, .bool (lkB x l)] else lkV x l z) w := by
  unfold MapAt at h
  unfold lkV lkB
  simp only [Instr.lookup, Sem.run_bind, run_underlying ht, Result.andThen_ok, MapKept.run_getObj_map h, Sem.run_pure, K.chk, run_findKey K]
  cases lkF x l 0 with
  | none => simp [hz]
  | some r => obtain ⟨i, v⟩ := r; simp
theorem run_store_new {w : World} {b : Nat} {l : List (κ × Value)} {t et : TypeId} (K : KeyOps P kt ek now) (h : MapAt ek w b l) (ht : P.underlying t = some (.map kt et)) (x : κ) (v : Value) (hx : lkF x l 0 = none) :
    ∃ w', (Instr.mapUpdate t (.map (some b)) (ek x) v).run P w = .ok () w' ∧ w' = setBlock w b (.map (entF ek (l ++ [(x, v)]) 0).toArray (l ++ [(x, v)]).length) := by
  unfold MapAt at h
  refine ⟨_, ?_, rfl⟩
  simp only [Instr.mapUpdate, Sem.run_bind, run_underlying ht, Result.andThen_ok, MapKept.run_getObj_map h, K.chk, run_findKey K, hx, MapKept.run_setObj_map _ h]
  simp [setBlock, entF_append, entF]
end

/-- an iterator over the map in block b: the entries whose numbers are in 'seen' have come -/
def IterAt (w : World) (b r n : Nat) (seen : Array Nat) : Prop := w.heap[r]? = some (.mapIter (some b) n seen n)

theorem setBlock_at {w : World} {r : Nat} {o : Obj} (h : r < w.heap.size) : (setBlock w r o).heap[r]? = some o := by simp [setBlock, h]
theorem setBlock_ne {w : World} {r j : Nat} {o : Obj} (h : j ≠ r) : (setBlock w r o).heap[j]? = w.heap[j]? := by simp [setBlock, Ne.symm h]
theorem setBlock_size (w : World) (r : Nat) (o : Obj) : (setBlock w r o).heap.size = w.heap.size := by simp [setBlock]
theorem Since.block {w0 : World} (x : Since w0) {r : Nat} (h : w0.heap.size ≤ r) (o : Obj) : ∃ y : Since w0, setBlock x.w r o = y.w :=
  ⟨⟨setBlock x.w r o, ⟨x.b.os, x.b.tape, x.b.output, by rw [setBlock_size]; exact x.b.size, fun b hb => by rw [setBlock_ne (by omega)]; exact x.b.block b hb⟩⟩, rfl⟩
theorem Since.heap {w0 : World} {b : Nat} {o : Obj} (h : w0.heap[b]? = some o) (y : Since w0) : y.w.heap[b]? = some o := by
  rw [y.b.block b (Array.getElem?_eq_some_iff.1 h).1]; exact h
end Go.Proofs.YtdkcclngionihaaDoor
