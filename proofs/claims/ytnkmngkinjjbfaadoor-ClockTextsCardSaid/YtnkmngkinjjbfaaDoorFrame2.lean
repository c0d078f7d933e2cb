/- Opening more kinds of arguments: slices of numbers, structs of several cells: generic. -/
import Derived.Test.YtnkmngkinjjbfaaDoorFrame
set_option linter.all false
namespace Go.Proofs.YtnkmngkinjjbfaaDoor
open Go.ChangeShapes Go.WideShapes Go.ChangeAt Go.RowKit

section
variable {H : Type} {enc : TypeId × Value → H} {P : Program}

/-- a slice of numbers that came in as an argument -/
theorem open_rowv {w : World} {base b0 : Nat} {r : Reach} {spare : Nat → Bool} {held : Bool} {t e : TypeId} {k : IntKind} {v : Value} {d : DataW H} {p : List MemPlace} (ht : P.underlying t = some (.slice e)) (he : P.underlying e = some (.int k)) (hc : P.cellsOf e = 1)
    (hv : Value.okWide P w r b0 t v) (h : DataW.Trod enc P w base spare held t v d p) :
    ∃ a l cap, v = .slice a l.length cap ∧ l.length ≤ cap ∧ cap ≤ 9223372036854775807 ∧ (Row w a l.length fun i => .int k (at0 l i)) ∧ ∀ z ∈ l, (Lit.int k z).wf = true := by
  obtain ⟨a0, n0, c0, rfl⟩ := okWide_slice ht hv
  obtain ⟨fuel, hf⟩ := h
  obtain ⟨a, l, cap, hs, h1, h2, h3, h4⟩ := open_row ht he hc (c := .slice a0 n0 c0) hf
  exact ⟨a, l, cap, hs, h1, h2, h3, h4⟩

/-- two numbers in a struct -/
theorem open_pair {w : World} {base n : Nat} {spare : Nat → Bool} {held : Bool} {t : TypeId} {f g : Field} {k k' : IntKind} {cs : List Value} {y : DataW H × List MemPlace} (ht : P.underlying t = some (.struct #[f, g])) (hc : P.cellsOf t = 2) (hf : P.underlying f.type = some (.int k)) (hg : P.underlying g.type = some (.int k'))
    (cf : P.cellsOf f.type = 1) (cg : P.cellsOf g.type = 1) (of : f.offset = 0) (og : g.offset = 1) (h : DataW.trod enc P w base spare held n t cs = some y) :
    ∃ x z, cs = [.int k x, .int k' z] ∧ (Lit.int k x).wf = true ∧ (Lit.int k' z).wf = true := by
  obtain ⟨xs, m, _, _, hcs, hlen, hel⟩ := DataW.trod_struct ht h
  match cs, hcs.trans hc with
  | [c0, c1], _ =>
    have h0 := hel 0 f rfl
    have h1 := hel 1 g rfl
    rw [of, cf] at h0
    rw [og, cg] at h1
    match xs, hlen with
    | [x0, x1], _ =>
      obtain ⟨k0, e0, _, w0⟩ := DataW.trod_int hf (x := x0) (by simpa using h0)
      obtain ⟨k1, e1, _, w1⟩ := DataW.trod_int hg (x := x1) (by simpa using h1)
      simp at e0 e1
      exact ⟨k0, k1, by simp [e0, e1], w0, w1⟩

/-- two numbers in a struct that came in as an argument -/
theorem open_pairv {w : World} {base b0 : Nat} {r : Reach} {spare : Nat → Bool} {held : Bool} {t : TypeId} {f g : Field} {k k' : IntKind} {v : Value} {d : DataW H} {p : List MemPlace} (ht : P.underlying t = some (.struct #[f, g])) (hc : P.cellsOf t = 2) (hf : P.underlying f.type = some (.int k)) (hg : P.underlying g.type = some (.int k'))
    (cf : P.cellsOf f.type = 1) (cg : P.cellsOf g.type = 1) (of : f.offset = 0) (og : g.offset = 1) (hv : Value.okWide P w r b0 t v) (h : DataW.Trod enc P w base spare held t v d p) :
    ∃ x z, v = .agg #[.int k x, .int k' z] ∧ (Lit.int k x).wf = true ∧ (Lit.int k' z).wf = true := by
  obtain ⟨cs, rfl, hsz⟩ := okWide_struct ht hv
  obtain ⟨fuel, h⟩ := h
  obtain ⟨x, z, e, w1, w2⟩ := open_pair ht hc hf hg cf cg of og h
  refine ⟨x, z, ?_, w1, w2⟩
  obtain ⟨l⟩ := cs
  simp [Value.cells] at e
  rw [e]

/-- a struct of a pair of numbers and a number -/
theorem open_pair_int {w : World} {base b0 : Nat} {r : Reach} {spare : Nat → Bool} {held : Bool} {t : TypeId} {f g a b : Field} {k k' k'' : IntKind} {v : Value} {d : DataW H} {p : List MemPlace} (ht : P.underlying t = some (.struct #[f, g])) (hc : P.cellsOf t = 3) (hf : P.underlying f.type = some (.struct #[a, b])) (hg : P.underlying g.type = some (.int k''))
    (cf : P.cellsOf f.type = 2) (cg : P.cellsOf g.type = 1) (of : f.offset = 0) (og : g.offset = 2) (ha : P.underlying a.type = some (.int k)) (hb : P.underlying b.type = some (.int k')) (ca : P.cellsOf a.type = 1) (cb : P.cellsOf b.type = 1) (oa : a.offset = 0) (ob : b.offset = 1)
    (hv : Value.okWide P w r b0 t v) (h : DataW.Trod enc P w base spare held t v d p) :
    ∃ x z s, v = .agg #[.int k x, .int k' z, .int k'' s] ∧ (Lit.int k x).wf = true ∧ (Lit.int k' z).wf = true ∧ (Lit.int k'' s).wf = true := by
  obtain ⟨cs, rfl, hsz⟩ := okWide_struct ht hv
  obtain ⟨fuel, h⟩ := h
  obtain ⟨l⟩ := cs
  obtain ⟨xs, m, _, _, hcs, hlen, hel⟩ := DataW.trod_struct ht h
  match l, hcs.trans hc with
  | [c0, c1, c2], _ =>
    have h0 := hel 0 f rfl
    have h1 := hel 1 g rfl
    rw [of, cf] at h0
    rw [og, cg] at h1
    match xs, hlen with
    | [x0, x1], _ =>
      obtain ⟨x, z, e0, wx, wz⟩ := open_pair hf cf ha hb ca cb oa ob (y := x0) (by simpa [Value.cells] using h0)
      obtain ⟨k1, e1, _, w1⟩ := DataW.trod_int hg (x := x1) (by simpa [Value.cells] using h1)
      simp at e0 e1
      exact ⟨x, z, k1, by simp [e0.1, e0.2, e1], wx, wz, w1⟩
end
end Go.Proofs.YtnkmngkinjjbfaaDoor
