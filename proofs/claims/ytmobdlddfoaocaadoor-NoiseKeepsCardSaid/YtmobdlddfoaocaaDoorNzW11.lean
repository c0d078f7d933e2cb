/- The walks of noise, eleventh part: the reference's Below. -/
import Derived.Test.YtmobdlddfoaocaaDoorNzW10
namespace Go.Proofs.YtmobdlddfoaocaaDoor
open Go.RowKit

set_option maxHeartbeats 1000000 in
theorem rbelow_calls (w : World) (x : Since w) (a : Option Addr) (ws : List Int) (cap : Nat) (n : Int) (hlen : ws.length ≤ 9223372036854775807) (hr : Row w a ws.length fun i => .int .u64 (at0 ws i)) (hw : ∀ i, 0 ≤ at0 ws i ∧ at0 ws i < 18446744073709551616) :
    Calls Tryd.prog 35 #[.slice a ws.length cap, .int .i64 n] x.w fun e w' => e = .returned (.tuple #[.int .i64 (bV ws n), .int .i64 (bU ws n), .int .i64 (bE ws n)]) ∧ ∃ y : Since w, w' = y.w := by
  by_cases hn : 1 ≤ n ∧ n ≤ 1125899906842624
  · obtain ⟨n0, n1⟩ := hn
    have hpb := pw_bd n0 n1
    have d1 : decide (n < 1) = false := decide_eq_false (by omega)
    have d2 : decide (1125899906842624 < n) = false := decide_eq_false (by omega)
    go_enter Tryd.func35, Tryd.ntmps35
    go_wp2_with fail
    go_loopw [7] (fun i wr => ∃ k : Nat, k ≤ ws.length ∧ i = .int .i64 k ∧ (∀ i, i < k → decide (at0 ws i % pw n < n) = false) ∧ ∃ y : Since w, wr = y.w) (fun i _ => ws.length - (intOf i).toNat)
    case atStart => exact ⟨0, by omega, rfl, fun i hi => by omega, _, rfl⟩
    case round =>
      obtain ⟨k, hk, rfl, hno, y, rfl⟩ := hrel
      have Hno := Lib.hid hno; clear hno
      by_cases hlt : k < ws.length
      · obtain ⟨b, off, rfl, _, _⟩ := hr k hlt
        have hcell : ∀ y : Since w, y.w.cell? ⟨b, off + k, none⟩ = some (.int .u64 (at0 ws k)) := Since.at hr k hlt
        have hmb := pw_mod_bd (hw k).1 n0 n1
        have hw0 := hw k
        have hk0 : (0 : Int) ≤ (k : Int) := by omega
        have hkl : (k : Int) < (ws.length : Int) := by omega
        clear hr hw
        by_cases hc : at0 ws k % pw n < n
        · have hres := Lib.hid (b_yes n0 n1 hlt Hno.out hc)
          go_wp2_with fail
          refine wp_region_since (by kernel_rfl) (by kernel_rfl) ?_
          repeat (go_big_quiet_step ((go_at_call 37; exact power_calls w _ n n0 n1)))
          refine wpQuiet_nil ?_
          rintro _ ⟨y, rfl⟩
          go_wp2_with fail
          go_ret3
          exact ⟨ret_three hres.out.1 hres.out.2.1 hres.out.2.2, _, rfl⟩
        · have hno : ∀ i, i < k + 1 → decide (at0 ws i % pw n < n) = false := fun i hi => by
            by_cases hik : i < k
            · exact Hno.out i hik
            · obtain rfl : i = k := by omega
              exact decide_eq_false hc
          have Hno2 := Lib.hid hno; clear hno
          have hge : n ≤ at0 ws k % pw n := by omega
          clear hc
          go_wp2_with fail
          refine wp_region_since (by kernel_rfl) (by kernel_rfl) ?_
          repeat (go_big_quiet_step ((go_at_call 37; exact power_calls w _ n n0 n1)))
          refine wpQuiet_nil ?_
          rintro _ ⟨y, rfl⟩
          go_wp2_with fail
          go_roundw
          case rel => exact ⟨k + 1, by omega, by go_num, Hno2.out, _, rfl⟩
          case measure => simp [intOf]; omega
      · obtain rfl : k = ws.length := by omega
        have hres := Lib.hid (b_no n0 n1 Hno.out)
        clear hr hw
        go_wp2_with fail
        go_ret3
        exact ⟨ret_three hres.out.1 hres.out.2.1 hres.out.2.2, _, rfl⟩
  · have hres := Lib.hid (b_out (ws := ws) hn)
    rcases (by omega : n < 1 ∨ (1 ≤ n ∧ 1125899906842624 < n)) with h | ⟨h, h'⟩
    all_goals
      clear hn
      go_enter Tryd.func35, Tryd.ntmps35
      go_wp2_with fail
      go_ret3
      exact ⟨ret_three hres.out.1 hres.out.2.1 hres.out.2.2, _, rfl⟩
end Go.Proofs.YtmobdlddfoaocaaDoor
