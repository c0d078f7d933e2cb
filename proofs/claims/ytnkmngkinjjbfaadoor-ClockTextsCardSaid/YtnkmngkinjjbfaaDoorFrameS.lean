/- The frame: opening structs of numbers: generic, no program in sight. -/
import Derived.Test.YtnkmngkinjjbfaaDoorFrame
set_option linter.all false
namespace Go.Proofs.YtnkmngkinjjbfaaDoor
open Go.ChangeShapes Go.WideShapes Go.ChangeAt Go.RowKit

section
variable {H : Type} {enc : TypeId × Value → H} {P : Program}
/-- all fields are numbers of one cell, one behind the other -/
def IntFields (P : Program) (fs : Array Field) : Prop := ∀ (i : Nat) (f : Field), fs[i]? = some f → f.offset = i ∧ P.cellsOf f.type = 1 ∧ P.underlying f.type = some (.int .i64)
theorem trod_ints {w : World} {base fuel : Nat} {spare : Nat → Bool} {held : Bool} {t : TypeId} {fs : Array Field} {cs : List Value} {x : DataW H × List MemPlace} (ht : P.underlying t = some (.struct fs)) (hf : IntFields P fs) (hc : P.cellsOf t = fs.size) (h : DataW.trod enc P w base spare held fuel t cs = some x) :
    ∃ ns : List Int, cs = ns.map (Value.int .i64) ∧ ns.length = fs.size ∧ ∀ z ∈ ns, I64 z := by
  obtain ⟨xs, n, _, _, hlen, hxs, hel⟩ := DataW.trod_struct ht h
  rw [hc] at hlen
  have hk : ∀ i, i < cs.length → ∃ k : Int, cs[i]? = some (.int .i64 k) ∧ I64 k := fun i hi => by
    have hif : i < fs.size := by omega
    have hfi : fs[i]? = some fs[i] := by simp [hif]
    obtain ⟨h1, h2, h3⟩ := hf i _ hfi
    have := hel i _ hfi
    rw [h1, h2] at this
    have hxi : xs[i]? = some (xs[i]'(by omega)) := List.getElem?_eq_getElem (by omega)
    rw [hxi] at this
    obtain ⟨k, hcs, _, hwf⟩ := DataW.trod_int h3 this
    refine ⟨k, ?_, wf_i64 hwf⟩
    have h0 : ((cs.drop i).take 1)[0]? = some (.int .i64 k) := by rw [hcs]; rfl
    simpa using h0
  refine ⟨cs.map intOf, ?_, by rw [List.length_map]; exact hlen, fun z hz => ?_⟩
  · apply List.ext_getElem (by simp)
    intro i h1 h2
    obtain ⟨k, hk1, _⟩ := hk i h1
    rw [List.getElem?_eq_getElem h1] at hk1
    have hk2 := Option.some.inj hk1
    simp [hk2, intOf]
  · obtain ⟨v, hv, rfl⟩ := List.mem_map.1 hz
    obtain ⟨i, hi⟩ := List.mem_iff_getElem?.1 hv
    obtain ⟨k, hk1, hk2⟩ := hk i (List.getElem?_eq_some_iff.1 hi).1
    rw [hi] at hk1
    cases hk1; exact hk2
end
end Go.Proofs.YtnkmngkinjjbfaaDoor
