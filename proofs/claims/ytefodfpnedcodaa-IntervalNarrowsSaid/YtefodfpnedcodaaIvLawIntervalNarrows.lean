/- The law IntervalNarrows: with smaller intervals no certain moment is lost, and no possible one gained. Conditions: none beyond the row's. -/
import Derived.Test.YtefodfpnedcodaaLIvLawIntervalNarrows
import Derived.Test.YtefodfpnedcodaaRows
set_option linter.all false
namespace Go.Proofs.Ytefodfpnedcodaa
open Go.ChangeShapes Go.WideShapes Go.ChangeAt Go.RowKit

set_option maxRecDepth 100000 in
theorem intervalNarrows_lifted (os : Os) (started : os.Started) (H : Type) (enc : TypeId × Value → H) :
    ReturnsInHanded {} Try.checked os 9 .any (Rows.intervalNarrowsSpec.pre6 enc Try.prog Try.f9 Rows.intervalNarrowsRow.domain false) (Rows.intervalNarrowsSpec.post enc Try.prog Try.f9 false true false false) := by
  refine returnsInHanded_of_change (C := Try.checked) own started (by kernel_rfl) Try.func9
    (ChangeSpec.witness6 (enc := enc) (C := Try.checked) false ⟨#[], #[.agg #[.int .i64 0, .int .i64 0, .int .i64 0, .int .i64 0, .int .i64 0, .int .i64 0, .bool false, .slice none 0 0, .slice none 0 0, .int .i64 0, .int .i64 0, .int .i64 0, .int .i64 0], .slice none 0 0], []⟩ 8 (by kernel_rfl) (by kernel_rfl) (by kernel_rfl) (by kernel_rfl)) ?_
  intro W base args ds gs before hval0 hW _ _
  have hval : ∀ (j : Nat) t v, Try.f9.params[j]? = some t → args[j]? = some v → Value.okWide Try.prog W .any base t v := hval0
  have hW' := hW
  obtain ⟨p, q, hA0, hV, rfl, hfz, hnd⟩ := hW
  have hA : DataW.TrodAll enc Try.prog W 0 (fun _ => true) true Try.f9.params.toList args.toList ds p := hA0
  rw [Try.params9] at hA hval
  obtain ⟨v0, vs0, d0, ds0, p0, q0, hargs, rfl, rfl, h0, r0⟩ := trodAll_cons hA
  obtain ⟨v1, vs1, d1, ds1, p1, q1, rfl, rfl, rfl, h1, r1⟩ := trodAll_cons r0
  obtain ⟨rfl, rfl, rfl⟩ := trodAll_nil r1
  obtain rfl : args = #[v0, v1] := by cases args; simp_all
  obtain ⟨rfl, rfl⟩ := trodVars_none hV
  obtain ⟨rd0, rfl, hi0⟩ := open_ride (hval 0 27 v0 rfl rfl) h0
  obtain ⟨a1, l1, c1, rfl, hc1, hm1, hr1, hi1⟩ := open_rowv Try.underlying43 Try.underlying57 cU16 (hval 1 43 v1 rfl rfl) h1
  refine (intervalNarrows_calls W (Since.self W) rd0 a1 l1 c1 hi0.1 hr1 (Nat.le_trans hc1 hm1) (at0_mem (p := fun z => 0 ≤ z ∧ z ≤ 65535) ⟨by decide, by decide⟩ fun z hz => wf_u16 (hi1 z hz))).mono fun e W' hy => ?_
  exact law_post laidOut (by kernel_rfl) rfl Try.underlying4 rfl hW' rfl hy

theorem intervalNarrows_holds : Rows.IntervalNarrowsSaid :=
  OpenClaim.holds_of_wide 9 Try.f9 rfl rfl rfl rfl rfl rfl rfl ⟨rfl, rfl, rfl, rfl, rfl⟩ rfl rfl rfl rfl rfl (by kernel_rfl) Try.func9 (by kernel_rfl)
    (of_decide_eq_true (by kernel_rfl)) (by unfold Func.isWrapper; first | (rw [if_pos (by decide +kernel)]; kernel_rfl) | (rw [if_neg (by decide +kernel)]; exact ⟨rfl, rfl⟩))
    (fun os started H enc _ => intervalNarrows_lifted os started H enc)

#print axioms intervalNarrows_holds
end Go.Proofs.Ytefodfpnedcodaa
