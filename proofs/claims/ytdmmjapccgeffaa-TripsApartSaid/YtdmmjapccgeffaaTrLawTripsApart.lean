/- The law TripsApart: Check and Apart return what is specified, and Apart is a distance. Conditions: none beyond the row's. -/
import Derived.Test.YtdmmjapccgeffaaLTrLawTripsApart
import Derived.Test.YtdmmjapccgeffaaRows
set_option linter.all false
namespace Go.Proofs.Ytdmmjapccgeffaa
open Go.ChangeShapes Go.WideShapes Go.ChangeAt Go.RowKit

set_option maxRecDepth 100000 in
theorem tripsApart_lifted (os : Os) (started : os.Started) (H : Type) (enc : TypeId × Value → H) :
    ReturnsInHanded {} Try.checked os 6 .any (Rows.tripsApartSpec.pre6 enc Try.prog Try.f6 Rows.tripsApartRow.domain false) (Rows.tripsApartSpec.post enc Try.prog Try.f6 false true false false) := by
  refine returnsInHanded_of_change (C := Try.checked) own started (by kernel_rfl) Try.func6
    (ChangeSpec.witness6 (enc := enc) (C := Try.checked) false ⟨#[], #[.agg #[.int .i64 0, .int .i64 0, .slice none 0 0], .agg #[.int .i64 0, .int .i64 0, .slice none 0 0], .agg #[.int .i64 0, .int .i64 0, .slice none 0 0]], []⟩ 8 (by kernel_rfl) (by kernel_rfl) (by kernel_rfl) (by kernel_rfl)) ?_
  intro W base args ds gs before hval0 hW _ _
  have hval : ∀ (j : Nat) t v, Try.f6.params[j]? = some t → args[j]? = some v → Value.okWide Try.prog W .any base t v := hval0
  have hW' := hW
  obtain ⟨p, q, hA0, hV, rfl, hfz, hnd⟩ := hW
  have hA : DataW.TrodAll enc Try.prog W 0 (fun _ => true) true Try.f6.params.toList args.toList ds p := hA0
  rw [Try.params6] at hA hval
  obtain ⟨v0, vs0, d0, ds0, p0, q0, hargs, rfl, rfl, h0, r0⟩ := trodAll_cons hA
  obtain ⟨v1, vs1, d1, ds1, p1, q1, rfl, rfl, rfl, h1, r1⟩ := trodAll_cons r0
  obtain ⟨v2, vs2, d2, ds2, p2, q2, rfl, rfl, rfl, h2, r2⟩ := trodAll_cons r1
  obtain ⟨rfl, rfl, rfl⟩ := trodAll_nil r2
  obtain rfl : args = #[v0, v1, v2] := by cases args; simp_all
  obtain ⟨rfl, rfl⟩ := trodVars_none hV
  obtain ⟨T0, a0, c0, rfl, hr0, hl0, hi0⟩ := open_table (hval 0 39 v0 rfl rfl) h0
  obtain ⟨T1, a1, c1, rfl, hr1, hl1, hi1⟩ := open_table (hval 1 39 v1 rfl rfl) h1
  obtain ⟨T2, a2, c2, rfl, hr2, hl2, hi2⟩ := open_table (hval 2 39 v2 rfl rfl) h2
  refine (tripsApart_calls W (Since.self W) T0 T1 T2 a0 c0 a1 c1 a2 c2 hr0 hr1 hr2 hl0 hl1 hl2).mono fun e W' hy => ?_
  exact law_post laidOut (by kernel_rfl) rfl Try.underlying4 rfl hW' rfl hy

theorem tripsApart_holds : Rows.TripsApartSaid :=
  OpenClaim.holds_of_wide 6 Try.f6 rfl rfl rfl rfl rfl rfl rfl ⟨rfl, rfl, rfl, rfl, rfl⟩ rfl rfl rfl rfl rfl (by kernel_rfl) Try.func6 (by kernel_rfl)
    (of_decide_eq_true (by kernel_rfl)) (by unfold Func.isWrapper; first | (rw [if_pos (by decide +kernel)]; kernel_rfl) | (rw [if_neg (by decide +kernel)]; exact ⟨rfl, rfl⟩))
    (fun os started H enc _ => tripsApart_lifted os started H enc)

#print axioms tripsApart_holds
end Go.Proofs.Ytdmmjapccgeffaa
