/- The laws of replicas, first part: an event, adding to a replica of the call's own. -/
import Derived.Test.YtcpfogbjbinjcaaGsW10
import Derived.Test.YtcpfogbjbinjcaaGsR7
set_option linter.all false
namespace Go.Proofs.Ytcpfogbjbinjcaa
open Go.RowKit Go.ChangeMaps

def beatE (d s a : Int) : Ev := ⟨d, s, a, a, 10, 0, 0, 0, 0⟩
theorem beat_calls (w : World) (x : Since w) (d s a : Int) : Calls Try.prog 25 #[.int .i64 d, .int .i64 s, .int .i64 a] x.w fun o w' => o = .returned (beatE d s a).ag ∧ ∃ y : Since w, w' = y.w := by
  unfold beatE Ev.ag
  go_enter Try.func25, Try.ntmps25
  go_wp2_with fail
  refine bodyPost_ret (v := .agg #[.int .i64 d, .int .i64 s, .int .i64 a, .int .i64 a, .int .i64 10, .int .i64 0, .int .i64 0, .int .i64 0, .int .i64 0]) ?_ rfl ⟨rfl, x.alloc _⟩
  simp [results, Try.results25, go_sem]
/-- adding to a replica that is the call's own -/
theorem add_s (w : World) (y : Since w) (p bm : Nat) (n : Int) (l : List Ev) (e : Ev) (hb : w.heap.size ≤ bm) (hR : RepAt y.w p bm n l) :
    Calls Try.prog 16 #[.pointer (some ⟨p, 0, none⟩), e.ag] y.w fun o w' => o = .returned (.tuple #[.bool (freshB n l e), .int .i64 (addE n l e)]) ∧ ∃ y' : Since w, w' = y'.w ∧ RepAt y'.w p bm n (addL n l e) ∧ y.w.grownBy y'.w (some bm) := by
  refine (add_calls y.w p bm n l e hR).mono ?_
  rintro _ w' ⟨rfl, hg, h⟩
  obtain ⟨y', rfl⟩ := y.grown hg (fun k hk => by cases hk; exact hb)
  exact ⟨rfl, y', rfl, h, hg⟩
theorem horizon_s (w : World) (y : Since w) (p bm N : Nat) (l : List Ev) (hR : RepAt y.w p bm N l) (hI : Inv N l) (hN : N ≤ 256) :
    Calls Try.prog 24 #[.pointer (some ⟨p, 0, none⟩)] y.w fun o w' => o = .returned (.int .i64 (hor N l)) ∧ ∃ y' : Since w, w' = y'.w ∧ (∃ z : Since y.w, y'.w = z.w) := by
  refine (horizon_calls y.w (Since.self y.w) p bm N l hR hI hN).mono ?_
  rintro _ w' ⟨rfl, z, rfl⟩
  obtain ⟨y', e⟩ := y.trans z
  exact ⟨rfl, y', e, z, e.symm⟩
end Go.Proofs.Ytcpfogbjbinjcaa
