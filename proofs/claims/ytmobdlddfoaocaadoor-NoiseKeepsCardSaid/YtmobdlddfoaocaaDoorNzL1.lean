/- The walk of the law NoiseChecks. -/
import Derived.Test.YtmobdlddfoaocaaDoorNzW14
namespace Go.Proofs.YtmobdlddfoaocaaDoor
open Go.RowKit

theorem few_yes (w : World) (x : Since w) (a : Option Addr) (len cap : Nat) (hlen : len ≤ 9223372036854775807) (h : len ≤ 40) :
    Calls Tryd.prog 12 #[.agg #[.slice a len cap]] x.w fun e w' => e = .returned (.bool true) ∧ ∃ y : Since w, w' = y.w := by
  have := few_calls w x a len cap hlen
  rwa [decide_eq_true (by omega)] at this
theorem few_no (w : World) (x : Since w) (a : Option Addr) (len cap : Nat) (hlen : len ≤ 9223372036854775807) (h : ¬ len ≤ 40) :
    Calls Tryd.prog 12 #[.agg #[.slice a len cap]] x.w fun e w' => e = .returned (.bool false) ∧ ∃ y : Since w, w' = y.w := by
  have := few_calls w x a len cap hlen
  rwa [decide_eq_false (by omega)] at this

set_option maxHeartbeats 2000000 in
theorem noiseChecks_calls (w : World) (x : Since w) (hs : Signs w) (a : Option Addr) (l : List Int) (cap : Nat) (v : Int) (hv : I64 v) (hcap : l.length ≤ cap) (hlen : l.length ≤ 9223372036854775807) (hr : IntRow w a l) :
    Calls Tryd.prog 3 #[.agg #[.slice a l.length cap], .int .i64 v] x.w fun e w' => e = .returned (.bool true) ∧ ∃ y : Since w, w' = y.w := by
  have HV := Lib.hid hv; clear hv
  go_enter Tryd.func3, Tryd.ntmps3
  go_upto_region 1 with fail
  have hb0_0 : ∀ y : Since (x.w.alloc (.cells #[.slice a l.length cap] 24)), y.w.cell? ⟨x.w.heap.size, 0, none⟩ = some (.slice a l.length cap) := fun y => Since.cell (by simp [go_sem]) (by first | (simp; done) | (simp; omega)) y
  have hf0 : ∀ (y : Since (x.w.alloc (.cells #[.slice a l.length cap] 24))) (o : Nat), y.w.frozen? ⟨x.w.heap.size, o, none⟩ = false := fun y o => Since.free (by simp [go_sem]) (by first | (simp; done) | (simp; omega)) y
  have hWup : ∃ z : Since w, (x.w.alloc (.cells #[.slice a l.length cap] 24)) = z.w := x.alloc _
  obtain ⟨y0, hy0⟩ := Since.refl (x.w.alloc (.cells #[.slice a l.length cap] 24))
  have Hbx := Lib.hid (And.intro x.b.size (show x.w.heap.size + 1 = (x.w.alloc (.cells #[.slice a l.length cap] 24)).heap.size from by simp))
  generalize hW : (x.w.alloc (.cells #[.slice a l.length cap] 24)) = W at *
  clear hW
  generalize x.w.heap.size = bx at *
  have Hup := Lib.hid (Since.up hWup)
  rw [hy0]
  clear hy0
  replace hr := hr.to hWup
  replace hs := hs.to hWup
  clear hWup
  by_cases hf : l.length ≤ 40
  · go_wp2_with fail
    refine (few_yes W _ a l.length cap hlen hf).mono ?_
    rintro _ _ ⟨rfl, y, rfl⟩
    go_wp2_with fail
    refine (total_calls W _ a l cap hcap hlen hr).mono ?_
    rintro _ _ ⟨rfl, y, rfl⟩
    go_wp2_with fail
    refine (rtotal_calls W _ a l cap hlen hr).mono ?_
    rintro _ _ ⟨rfl, y, rfl⟩
    go_wp2_with fail
    have Hr := Lib.hid hr; have Hs := Lib.hid hs
    clear hr hs
    refine wp_region_since (by kernel_rfl) (by kernel_rfl) ?_
    repeat (go_big_quiet_step ((first | (go_at_call 16; exact check_calls W _ a l cap hlen Hr.out) | (go_at_call 17; exact rcheck_calls W _ a l cap hlen Hr.out) | (go_at_call 18; exact weight_calls W _ Hs.out a l cap v HV.out hlen Hr.out) | (go_at_call 19; exact rweight_calls W _ a l cap v HV.out hlen Hr.out) | (go_at_call 13; exact awake_calls W _ Hs.out))))
    refine wpQuiet_nil ?_
    rintro _ ⟨y, rfl⟩
    go_wp2_with fail
    go_ret
    exact ⟨rfl, Hup.out _⟩
  · go_wp2_with fail
    refine (few_no W _ a l.length cap hlen hf).mono ?_
    rintro _ _ ⟨rfl, y, rfl⟩
    go_wp2_with fail
    refine (awake_calls W _ hs).mono ?_
    rintro _ _ ⟨rfl, y, rfl⟩
    go_wp2_with fail
    go_ret
    exact ⟨rfl, Hup.out _⟩
end Go.Proofs.YtmobdlddfoaocaaDoor
