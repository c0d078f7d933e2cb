/- The walks of replicas: the methods of no replica. -/
import Derived.Test.YtcpfogbjbinjcaaGsL2
set_option linter.all false
namespace Go.Proofs.Ytcpfogbjbinjcaa
open Go.RowKit Go.ChangeMaps

set_option maxHeartbeats 1000000 in
theorem nil_horizon (w : World) (y : Since w) : Calls Try.prog 24 #[.pointer none] y.w fun o w' => o = .returned (.int .i64 0) ∧ ∃ y' : Since w, w' = y'.w := by
  go_enter Try.func24, Try.ntmps24
  go_wp2_with fail
  go_ret
  exact ⟨rfl, _, rfl⟩
set_option maxHeartbeats 1000000 in
theorem nil_seen (w : World) (y : Since w) : Calls Try.prog 23 #[.pointer none] y.w fun o w' => o = .returned (.slice none 0 0) ∧ ∃ y' : Since w, w' = y'.w := by
  go_enter Try.func23, Try.ntmps23
  go_wp2_with fail
  go_ret
  exact ⟨rfl, _, rfl⟩
set_option maxHeartbeats 1000000 in
theorem nil_since (w : World) (y : Since w) (v : Value) : Calls Try.prog 32 #[.pointer none, v] y.w fun o w' => o = .returned (.slice none 0 0) ∧ ∃ y' : Since w, w' = y'.w := by
  go_enter Try.func32, Try.ntmps32
  go_wp2_with fail
  go_ret
  exact ⟨rfl, _, rfl⟩
set_option maxHeartbeats 1000000 in
theorem nil_copy (w : World) (y : Since w) : Calls Try.prog 26 #[.pointer none] y.w fun o w' => o = .returned (.pointer none) ∧ ∃ y' : Since w, w' = y'.w := by
  go_enter Try.func26, Try.ntmps26
  go_wp2_with fail
  go_ret
  exact ⟨rfl, _, rfl⟩
set_option maxHeartbeats 1000000 in
theorem nil_merge (w : World) (y : Since w) (v : Option Addr) : Calls Try.prog 28 #[.pointer none, .pointer v] y.w fun o w' => o = .returned (.int .i64 11) ∧ ∃ y' : Since w, w' = y'.w := by
  go_enter Try.func28, Try.ntmps28
  go_wp2_with fail
  go_ret
  exact ⟨rfl, _, rfl⟩
set_option maxHeartbeats 1000000 in
theorem nil_merge2 (w : World) (y : Since w) (a : Addr) : Calls Try.prog 28 #[.pointer (some a), .pointer none] y.w fun o w' => o = .returned (.int .i64 11) ∧ ∃ y' : Since w, w' = y'.w := by
  go_enter Try.func28, Try.ntmps28
  go_wp2_with fail
  go_ret
  exact ⟨rfl, _, rfl⟩
set_option maxHeartbeats 1000000 in
theorem nil_events (w : World) (y : Since w) : Calls Try.prog 19 #[.pointer none] y.w fun o w' => o = .returned (.slice none 0 0) ∧ ∃ y' : Since w, w' = y'.w := by
  go_enter Try.func19, Try.ntmps19
  go_wp2_with fail
  refine (nil_since w y _).mono ?_
  rintro _ _ ⟨rfl, y1, rfl⟩
  go_wp2_with fail
  go_ret
  exact ⟨rfl, _, rfl⟩
set_option maxHeartbeats 1000000 in
theorem nil_add (w : World) (y : Since w) (d q a t k b p r i : Int) : Calls Try.prog 16 #[.pointer none, .agg #[.int .i64 d, .int .i64 q, .int .i64 a, .int .i64 t, .int .i64 k, .int .i64 b, .int .i64 p, .int .i64 r, .int .i64 i]] y.w fun o w' => o = .returned (.tuple #[.bool false, .int .i64 11]) ∧ ∃ y' : Since w, w' = y'.w := by
  go_enter Try.func16, Try.ntmps16
  go_wp2_with fail
  go_ret2
  exact ⟨rfl, y.alloc _⟩
end Go.Proofs.Ytcpfogbjbinjcaa
