/- The walks of passes, first part: ranges, days, the check of passes. -/
import Derived.Test.YtbkfcdheckkjaaaPsSpec
import Derived.Test.YtbkfcdheckkjaaaRdW4
import Derived.Test.YtbkfcdheckkjaaaMapE
import Derived.IntWalk
set_option linter.all false
namespace Go.Proofs.Ytbkfcdheckkjaaa
open Go.RowKit Go.ChangeMaps

def inB (n lo hi : Int) : Bool := decide (lo ≤ n) && decide (n ≤ hi)
theorem in_calls (w : World) (x : Since w) (n lo hi : Int) :
    Calls Try.prog 25 #[.int .i64 n, .int .i64 lo, .int .i64 hi] x.w fun o w' => o = .returned (.bool (inB n lo hi)) ∧ ∃ y : Since w, w' = y.w := by
  rcases (by omega : n < lo ∨ (lo ≤ n ∧ hi < n) ∨ (lo ≤ n ∧ n ≤ hi)) with h | ⟨h, h'⟩ | ⟨h, h'⟩
  all_goals
    have Hv := Lib.hid (show inB n lo hi = (decide (lo ≤ n) && decide (n ≤ hi)) from rfl)
    go_enter Try.func25, Try.ntmps25
    go_wp2_with fail
    go_ret
    exact ⟨ret_bool (by rw [Hv.out]; simp; omega), _, rfl⟩
def vpd (p : Pass) (d : Int) : Bool := decide (p.f ≤ d) && decide (d < p.t)
theorem valid_calls (w : World) (x : Since w) (p : Pass) (d : Int) :
    Calls Try.prog 33 #[.agg #[.int .i64 p.id, .int .i64 p.rd, .int .i64 p.f, .int .i64 p.t, .int .i64 p.n, .int .i64 p.s], .int .i64 d] x.w fun o w' => o = .returned (.bool (vpd p d)) ∧ ∃ y : Since w, w' = y.w := by
  rcases (by omega : d < p.f ∨ (p.f ≤ d ∧ p.t ≤ d) ∨ (p.f ≤ d ∧ d < p.t)) with h | ⟨h, h'⟩ | ⟨h, h'⟩
  all_goals
    have Hv := Lib.hid (show vpd p d = (decide (p.f ≤ d) && decide (d < p.t)) from rfl)
    go_enter Try.func33, Try.ntmps33
    go_wp2_with fail
    go_ret
    exact ⟨ret_bool (by rw [Hv.out]; simp; omega), x.alloc _⟩
theorem day_calls (w : World) (x : Since w) (r : Ride) (h0 : 0 ≤ r.s0) (h1 : r.s0 ≤ 4294943999) :
    Calls Try.prog 34 #[.agg #[.int .i64 r.id, .int .i64 r.rd, .int .i64 r.s0, .int .i64 r.s1, .int .i64 r.e0, .int .i64 r.e1, .bool r.op, .slice r.la r.legs.length r.lc, .slice r.pa r.pauses.length r.pc, .int .i64 r.fw, .int .i64 r.fp, .int .i64 r.wh, .int .i64 r.pl]] x.w fun o w' => o = .returned (.int .i64 (day r)) ∧ ∃ y : Since w, w' = y.w := by
  have Hd := Lib.hid (show day r = r.s0 / 86400 from rfl)
  go_enter Try.func34, Try.ntmps34
  go_wp2_with fail
  go_ret
  exact ⟨ret_int Hd.out.symm, x.alloc _⟩
end Go.Proofs.Ytbkfcdheckkjaaa
