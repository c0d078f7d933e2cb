/- The law PassQuota: no pass pays more rides of a day than it may, and none that it may pay is left out. Conditions: none beyond the row's. -/
import Derived.Test.YtbkfcdheckkjaaaPsMf
import Derived.Test.YtbkfcdheckkjaaaRows
set_option linter.all false
namespace Go.Proofs.Ytbkfcdheckkjaaa
open Go.ChangeShapes Go.WideShapes Go.ChangeAt Go.RowKit

set_option maxRecDepth 100000 in
theorem passQuota_lifted (os : Os) (started : os.Started) (H : Type) (enc : TypeId × Value → H) :
    ReturnsInHanded {} Try.checked os 6 .any (Rows.passQuotaSpec.pre6 enc Try.prog Try.f6 Rows.passQuotaRow.domain false) (Rows.passQuotaSpec.post enc Try.prog Try.f6 false true false false) := by
  refine returnsInHanded_of_change (C := Try.checked) own started (by kernel_rfl) Try.func6
    (ChangeSpec.witness6 (enc := enc) (C := Try.checked) false ⟨#[], #[.slice none 0 0, .slice none 0 0], []⟩ 8 (by kernel_rfl) (by kernel_rfl) (by kernel_rfl) (by kernel_rfl)) ?_
  intro W base args ds gs before hval0 hW _ _
  have hval : ∀ (j : Nat) t v, Try.f6.params[j]? = some t → args[j]? = some v → Value.okWide Try.prog W .any base t v := hval0
  have hW' := hW
  obtain ⟨p, q, hA0, hV, rfl, hfz, hnd⟩ := hW
  have hA : DataW.TrodAll enc Try.prog W 0 (fun _ => true) true Try.f6.params.toList args.toList ds p := hA0
  rw [Try.params6] at hA hval
  obtain ⟨v0, vs0, d0, ds0, p0, q0, hargs, rfl, rfl, h0, r0⟩ := trodAll_cons hA
  obtain ⟨v1, vs1, d1, ds1, p1, q1, rfl, rfl, rfl, h1, r1⟩ := trodAll_cons r0
  obtain ⟨rfl, rfl, rfl⟩ := trodAll_nil r1
  obtain rfl : args = #[v0, v1] := by cases args; simp_all
  obtain ⟨rfl, rfl⟩ := trodVars_none hV
  obtain ⟨a0, l0, c0, rfl, hc0, hcm0, hn0, hr0⟩ := open_passes (hval 0 22 v0 rfl rfl) h0
  obtain ⟨a1, l1, c1, rfl, hc1, hcm1, hn1, hr1, hi1⟩ := open_rides (hval 1 27 v1 rfl rfl) h1
  refine (passQuota_calls W (Since.self W) a0 l0 c0 a1 l1 c1 hr0 (Nat.le_trans hc0 hcm0) hr1 (Nat.le_trans hc1 hcm1)).mono fun e W' hy => ?_
  exact law_post laidOut (by kernel_rfl) rfl Try.underlying4 rfl hW' rfl hy

theorem passQuota_holds : Rows.PassQuotaSaid :=
  OpenClaim.holds_of_wide 6 Try.f6 rfl rfl rfl rfl rfl rfl rfl ⟨rfl, rfl, rfl, rfl, rfl⟩ rfl rfl rfl rfl rfl (by kernel_rfl) Try.func6 (by kernel_rfl)
    (of_decide_eq_true (by kernel_rfl)) (by unfold Func.isWrapper; first | (rw [if_pos (by decide +kernel)]; kernel_rfl) | (rw [if_neg (by decide +kernel)]; exact ⟨rfl, rfl⟩))
    (fun os started H enc _ => passQuota_lifted os started H enc)

#print axioms passQuota_holds
end Go.Proofs.Ytbkfcdheckkjaaa
