/- The law GossipMergeCalls: Merge adds what can be added, returns the first error, and leaves the other replica as it was. Conditions: none beyond the row's. -/
import Derived.Test.YtcpfogbjbinjcaaGsFrame
import Derived.Test.YtcpfogbjbinjcaaGsK4
import Derived.Test.YtcpfogbjbinjcaaRows
set_option linter.all false
namespace Go.Proofs.Ytcpfogbjbinjcaa
open Go.ChangeShapes Go.WideShapes Go.ChangeAt Go.RowKit

set_option maxRecDepth 100000 in
theorem gossipMergeCalls_lifted (os : Os) (started : os.Started) (H : Type) (enc : TypeId × Value → H) :
    ReturnsInHanded {} Try.checked os 8 .any (Rows.gossipMergeCallsSpec.pre6 enc Try.prog Try.f8 Rows.gossipMergeCallsRow.domain false) (Rows.gossipMergeCallsSpec.post enc Try.prog Try.f8 false true false false) := by
  refine returnsInHanded_of_change (C := Try.checked) own started (by kernel_rfl) Try.func8
    (ChangeSpec.witness6 (enc := enc) (C := Try.checked) false ⟨#[], #[.int .i64 0, .int .i64 0, .slice none 0 0, .slice none 0 0], []⟩ 8 (by kernel_rfl) (by kernel_rfl) (by kernel_rfl) (by kernel_rfl)) ?_
  intro W base args ds gs before hval0 hW _ _
  have hval : ∀ (j : Nat) t v, Try.f8.params[j]? = some t → args[j]? = some v → Value.okWide Try.prog W .any base t v := hval0
  have hW' := hW
  obtain ⟨p, q, hA0, hV, rfl, hfz, hnd⟩ := hW
  have hA : DataW.TrodAll enc Try.prog W 0 (fun _ => true) true Try.f8.params.toList args.toList ds p := hA0
  rw [Try.params8] at hA hval
  obtain ⟨v0, vs0, d0, ds0, p0, q0, hargs, rfl, rfl, h0, r0⟩ := trodAll_cons hA
  obtain ⟨v1, vs1, d1, ds1, p1, q1, rfl, rfl, rfl, h1, r1⟩ := trodAll_cons r0
  obtain ⟨v2, vs2, d2, ds2, p2, q2, rfl, rfl, rfl, h2, r2⟩ := trodAll_cons r1
  obtain ⟨v3, vs3, d3, ds3, p3, q3, rfl, rfl, rfl, h3, r3⟩ := trodAll_cons r2
  obtain ⟨rfl, rfl, rfl⟩ := trodAll_nil r3
  obtain rfl : args = #[v0, v1, v2, v3] := by cases args; simp_all
  obtain ⟨rfl, rfl⟩ := trodVars_none hV
  obtain ⟨x0, rfl, rfl, rfl, w0⟩ := open_int Try.underlying3 (hval 0 3 v0 rfl rfl) h0
  obtain ⟨x1, rfl, rfl, rfl, w1⟩ := open_int Try.underlying3 (hval 1 3 v1 rfl rfl) h1
  obtain ⟨a2, l2, c2, rfl, hc2, hcm2, hn2, hr2⟩ := open_events (hval 2 22 v2 rfl rfl) h2
  obtain ⟨a3, l3, c3, rfl, hc3, hcm3, hn3, hr3⟩ := open_events (hval 3 22 v3 rfl rfl) h3
  refine (gossipMergeCalls_calls W (Since.self W) x0 x1 a2 l2 c2 a3 l3 c3 hr2 (Nat.le_trans hc2 hcm2) hr3 (Nat.le_trans hc3 hcm3)).mono fun e W' hy => ?_
  exact law_post laidOut (by kernel_rfl) rfl Try.underlying4 rfl hW' rfl hy

theorem gossipMergeCalls_holds : Rows.GossipMergeCallsSaid :=
  OpenClaim.holds_of_wide 8 Try.f8 rfl rfl rfl rfl rfl rfl rfl ⟨rfl, rfl, rfl, rfl, rfl⟩ rfl rfl rfl rfl rfl (by kernel_rfl) Try.func8 (by kernel_rfl)
    (of_decide_eq_true (by kernel_rfl)) (by unfold Func.isWrapper; first | (rw [if_pos (by decide +kernel)]; kernel_rfl) | (rw [if_neg (by decide +kernel)]; exact ⟨rfl, rfl⟩))
    (fun os started H enc _ => gossipMergeCalls_lifted os started H enc)

#print axioms gossipMergeCalls_holds
end Go.Proofs.Ytcpfogbjbinjcaa
