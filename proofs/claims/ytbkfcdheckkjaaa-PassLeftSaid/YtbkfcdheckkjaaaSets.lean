/- A block of the call's own whose cells are known and are written: generic, no program in sight. -/
import Derived.Test.YtbkfcdheckkjaaaHeld
import Derived.Laws.IdiomCopy
set_option linter.all false
namespace Go.Proofs.Ytbkfcdheckkjaaa
open Go.RowKit

/-- block g holds these cells and may be written -/
structure BoxIs (w : World) (g : Nat) (vs : List Value) : Prop where
  lt : g < w.heap.size
  c : ∀ j v, vs[j]? = some v → w.cell? ⟨g, j, none⟩ = some v
  f : ∀ o, w.frozen? ⟨g, o, none⟩ = false
theorem BoxIs.since {w : World} {g : Nat} {vs : List Value} (h : BoxIs w g vs) (y : Since w) : BoxIs y.w g vs :=
  ⟨Nat.lt_of_lt_of_le h.lt y.b.size, fun j v hv => Since.cell (h.c j v hv) h.lt y, fun o => Since.free (h.f o) h.lt y⟩
theorem BoxIs.to {w W : World} {g : Nat} {vs : List Value} (h : BoxIs w g vs) (hW : ∃ z : Since w, W = z.w) : BoxIs W g vs := by
  obtain ⟨z, rfl⟩ := hW; exact h.since z
theorem BoxIs.new (w : World) (vs : List Value) (T : TypeId) : BoxIs (w.alloc (.cells vs.toArray T)) w.heap.size vs := by
  have hh : (w.alloc (.cells vs.toArray T)).heap[w.heap.size]? = some (.cells vs.toArray T) := by show (w.heap.push _)[w.heap.size]? = _; simp
  exact ⟨by simp, fun j v hv => by simp only [World.cell?, hh]; simpa using hv, fun o => by simp only [World.frozen?, hh]; simp⟩
theorem BoxIs.set1 {w : World} {g : Nat} {a u : Value} (h : BoxIs w g [a]) : BoxIs (w.setCell ⟨g, 0, none⟩ u) g [u] := by
  refine ⟨by simpa [World.setCell] using h.lt, fun j v hv => ?_, fun o => by rw [World.frozen?_setCell]; exact h.f o⟩
  have hj : j = 0 := by have := (List.getElem?_eq_some_iff.1 hv).1; simpa using this
  subst hj
  simp at hv; subst hv
  exact World.cell?_setCell_same _ _ _ (h.c 0 a rfl)
theorem setCells_size (g : Nat) : ∀ (vs : List Value) (o : Nat) (w : World), (w.setCells g o vs).heap.size = w.heap.size
  | [], _, _ => rfl
  | v :: vs, o, w => by
    show ((w.setCell ⟨g, o, none⟩ v).setCells g (o + 1) vs).heap.size = _
    rw [setCells_size g vs (o + 1)]
    simp [World.setCell]
theorem BoxIs.sets {w : World} {g : Nat} {vs us : List Value} (h : BoxIs w g vs) (hl : us.length = vs.length) : BoxIs (w.setCells g 0 us) g us := by
  refine ⟨by rw [setCells_size]; exact h.lt, fun j v hv => ?_, fun o => by rw [World.frozen?_setCells]; exact h.f o⟩
  have hj : j < us.length := (List.getElem?_eq_some_iff.1 hv).1
  have := World.cell?_setCells_in g us 0 w (fun i hi => by
    obtain ⟨v, hv⟩ : ∃ v, vs[i]? = some v := ⟨vs[i]'(by omega), List.getElem?_eq_getElem (by omega)⟩
    rw [Nat.zero_add, h.c i v hv]; rfl) j hj
  rw [Nat.zero_add] at this
  rw [this, ← hv, List.getElem?_eq_getElem hj]
theorem Below.setCells' {B : Nat} {a w : World} (h : Below B a w) {g : Nat} (hg : B ≤ g) : ∀ (vs : List Value) (o : Nat), Below B a (w.setCells g o vs)
  | [], _ => h
  | v :: vs, o => by
    show Below B a ((w.setCell ⟨g, o, none⟩ v).setCells g (o + 1) vs)
    exact Below.setCells' (h.setCell (p := ⟨g, o, none⟩) hg v) hg vs (o + 1)
theorem Since.sets {w0 : World} (x : Since w0) (g : Nat) (h : w0.heap.size ≤ g) (vs : List Value) (o : Nat) : ∃ y : Since w0, x.w.setCells g o vs = y.w := ⟨⟨_, Below.setCells' x.b h vs o⟩, rfl⟩
end Go.Proofs.Ytbkfcdheckkjaaa
