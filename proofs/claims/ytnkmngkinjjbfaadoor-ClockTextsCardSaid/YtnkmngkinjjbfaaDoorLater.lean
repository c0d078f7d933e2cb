/- Contracts said of any later world, whose end is later than it, too: generic, no program in sight. -/
import Derived.Test.YtnkmngkinjjbfaaDoorEls
import Derived.Test.YtnkmngkinjjbfaaDoorHeld
set_option linter.all false
namespace Go.Proofs.YtnkmngkinjjbfaaDoor
open Go.RowKit

/-- the ending is as R says; the world is later than W and than w -/
def Ends (W w : World) (R : Ending → Prop) (o : Ending) (w' : World) : Prop := R o ∧ ∃ z : Since W, w' = z.w ∧ ∃ v : Since w, z.w = v.w
theorem later {P : Program} {F : FuncId} {args : Array Value} {W w' : World} {R : Ending → Prop} (hw : IsSince W w') (h : ∀ x : Since w', Calls P F args x.w (fun o w'' => R o ∧ ∃ y : Since w', w'' = y.w)) : Calls P F args w' (Ends W w' R) := by
  refine (h (Since.self w')).mono ?_
  rintro o _ ⟨ho, y, rfl⟩
  obtain ⟨z, hz⟩ := hw
  subst hz
  obtain ⟨v, hv⟩ := z.trans y
  exact ⟨ho, v, hv, y, hv.symm⟩
theorem IsSince.trans {a b c : World} (h : IsSince a b) (k : IsSince b c) : IsSince a c := by
  obtain ⟨y, rfl⟩ := h
  obtain ⟨z, rfl⟩ := k
  exact y.trans z
theorem els_mk {α : Type} {enc : α → List Value} {k : Nat} (hk : ∀ x, (enc x).length = k) (w : World) (l : List α) (T : TypeId) : Els enc k (w.alloc (.cells (flat enc l).toArray T)) (some ⟨w.heap.size, 0, none⟩) l := by
  intro i x hx
  refine ⟨w.heap.size, 0, rfl, by simp, fun j v hv => ?_⟩
  have := cell_new_at w (flat enc l) T (i * k + j) v (flat_at hk l i x j v hx hv)
  rw [Addr.add_lit] at this
  rw [show 0 + i * k + j = 0 + (i * k + j) by omega]
  exact this
/-- a new box of two cells, not written yet -/
structure NB (W w : World) (g : Nat) (a b : Value) : Prop where
  lb : W.heap.size ≤ g
  lt : g < w.heap.size
  c0 : w.cell? ⟨g, 0, none⟩ = some a
  c1 : w.cell? ⟨g, 1, none⟩ = some b
  f : ∀ o, w.frozen? ⟨g, o, none⟩ = false
theorem NB.to {W w z : World} {g : Nat} {a b : Value} (h : NB W w g a b) (hz : ∃ v : Since w, z = v.w) : NB W z g a b := by
  obtain ⟨v, rfl⟩ := hz
  exact ⟨h.lb, Nat.lt_of_lt_of_le h.lt v.b.size, Since.cell h.c0 h.lt v, Since.cell h.c1 h.lt v, fun o => Since.free (h.f o) h.lt v⟩
theorem nb_new {W w z : World} {a b : Value} {T : TypeId} (hw : IsSince W w) (hz : ∃ v : Since (w.alloc (.cells #[a, b] T)), z = v.w) : NB W z w.heap.size a b := by
  refine NB.to ⟨hw.size, by simp, by simp [go_sem], by simp [go_sem], fun o => by simp [go_sem]⟩ hz
theorem NB.set {W w : World} {g : Nat} {a b : Value} (h : NB W w g a b) (hw : IsSince W w) (u v : Value) : IsSince W ((w.setCell ⟨g, 0, none⟩ u).setCell ⟨g, 1, none⟩ v) := IsSince.set (IsSince.set hw _ h.lb _) _ h.lb _
end Go.Proofs.YtnkmngkinjjbfaaDoor
