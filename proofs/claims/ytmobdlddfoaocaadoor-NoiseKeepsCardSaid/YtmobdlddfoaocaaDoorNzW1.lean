/- The walks of noise, first part: checks, weights, ratios. -/
import Derived.Test.YtmobdlddfoaocaaDoorRows
import Derived.Test.YtmobdlddfoaocaaDoorNzSpec
namespace Go.Proofs.YtmobdlddfoaocaaDoor
open Go.RowKit

theorem few_calls (w : World) (x : Since w) (a : Option Addr) (len cap : Nat) (hlen : len ≤ 9223372036854775807) :
    Calls Tryd.prog 12 #[.agg #[.slice a len cap]] x.w fun e w' => e = .returned (.bool (decide ((len : Int) ≤ 40))) ∧ ∃ y : Since w, w' = y.w := by
  go_enter Tryd.func12, Tryd.ntmps12
  go_wp2
  go_ret
  exact ⟨rfl, x.alloc _⟩

theorem bad_at {l : List Int} {k : Nat} (hk : k < l.length) (h : ¬ okAt l k) : check l = 32 := check_bad fun hg => h (hg.2.2 k hk)
theorem next_ok {l : List Int} {k : Nat} (hok : ∀ j, j < k → okAt l j) (h : okAt l k) : ∀ j, j < k + 1 → okAt l j := fun j hj => by
  by_cases hjk : j < k
  · exact hok j hjk
  · obtain rfl : j = k := by omega
    exact h

set_option maxHeartbeats 400000 in
theorem check_calls (w : World) (x : Since w) (a : Option Addr) (l : List Int) (cap : Nat) (hlen : l.length ≤ 9223372036854775807) (hr : IntRow w a l) :
    Calls Tryd.prog 16 #[.agg #[.slice a l.length cap]] x.w fun e w' => e = .returned (.int .i64 (check l)) ∧ ∃ y : Since w, w' = y.w := by
  by_cases h : 1 ≤ l.length ∧ l.length ≤ 33
  · obtain ⟨h1, h2⟩ := h
    have c1 : decide ((l.length : Int) < 1) = false := decide_eq_false (by omega)
    have c2 : decide ((33 : Int) < (l.length : Int)) = false := decide_eq_false (by omega)
    go_enter Tryd.func16, Tryd.ntmps16
    go_wp2
    have hbx : ∀ y : Since (x.w.alloc (.cells #[.slice a l.length cap] 24)), y.w.cell? ⟨x.w.heap.size, 0, none⟩ = some (.slice a l.length cap) := fun y => Since.cell (by simp [go_sem]) (by simp) y
    have hWup : ∃ z : Since w, (x.w.alloc (.cells #[.slice a l.length cap] 24)) = z.w := x.alloc _
    obtain ⟨y0, hy0⟩ := Since.refl (x.w.alloc (.cells #[.slice a l.length cap] 24))
    generalize hW : x.w.alloc (.cells #[.slice a l.length cap] 24) = W at *
    clear hW
    have Hup := Lib.hid (Since.up hWup)
    rw [hy0]
    clear hy0
    replace hr := hr.to hWup
    clear hWup
    go_loopw [18] (fun i wr => ∃ k : Nat, k ≤ l.length ∧ i = .int .i64 k ∧ (∀ j, j < k → okAt l j) ∧ ∃ y : Since W, wr = y.w) (fun i _ => l.length - (intOf i).toNat)
    case atStart => exact ⟨0, by omega, rfl, fun j hj => by omega, _, rfl⟩
    case round =>
      obtain ⟨k, hk, rfl, hok, y, rfl⟩ := hrel
      have Hok := Lib.hid hok; clear hok
      by_cases hlt : k < l.length
      · obtain ⟨b, off, rfl, _, _⟩ := hr k hlt
        have hcell : ∀ y : Since W, y.w.cell? ⟨b, off + k, none⟩ = some (.int .i64 (at0 l k)) := Since.at hr k hlt
        have hcell' : 0 < k → ∀ y : Since W, y.w.cell? ⟨b, off + (k - 1), none⟩ = some (.int .i64 (at0 l (k-1))) := fun h0 => Since.at hr (k-1) (by omega)
        clear hr
        go_wp2
        all_goals first
          | (go_ret
             exact ⟨ret_int (bad_at hlt (by unfold okAt; omega)).symm, Hup.out _⟩)
          | (go_roundw
             case rel => exact ⟨k + 1, by omega, by go_num, next_ok Hok.out (by unfold okAt; omega), _, rfl⟩
             case measure => simp [intOf]; omega)
      · go_wp2
        go_ret
        exact ⟨ret_int (check_good ⟨h1, h2, fun i hi => Hok.out i (by omega)⟩).symm, Hup.out _⟩
  · have hn : ¬ Good l := fun hg => h ⟨hg.1, hg.2.1⟩
    by_cases h1 : l.length < 1
    · go_enter Tryd.func16, Tryd.ntmps16
      go_wp2
      go_ret
      exact ⟨ret_int (check_bad hn).symm, x.alloc _⟩
    · have h33 : 33 < l.length := by omega
      go_enter Tryd.func16, Tryd.ntmps16
      go_wp2
      go_ret
      exact ⟨ret_int (check_bad hn).symm, x.alloc _⟩

set_option maxHeartbeats 1000000 in
theorem rcheck_calls (w : World) (x : Since w) (a : Option Addr) (l : List Int) (cap : Nat) (hlen : l.length ≤ 9223372036854775807) (hr : IntRow w a l) :
    Calls Tryd.prog 17 #[.agg #[.slice a l.length cap]] x.w fun e w' => e = .returned (.int .i64 (check l)) ∧ ∃ y : Since w, w' = y.w := by
  by_cases h : 1 ≤ l.length ∧ l.length ≤ 33
  · obtain ⟨h1, h2⟩ := h
    have c1 : decide ((l.length : Int) < 1) = false := decide_eq_false (by omega)
    have c2 : decide ((33 : Int) < (l.length : Int)) = false := decide_eq_false (by omega)
    go_enter Tryd.func17, Tryd.ntmps17
    go_wp2
    have hbx : ∀ y : Since (x.w.alloc (.cells #[.slice a l.length cap] 24)), y.w.cell? ⟨x.w.heap.size, 0, none⟩ = some (.slice a l.length cap) := fun y => Since.cell (by simp [go_sem]) (by simp) y
    have hWup : ∃ z : Since w, (x.w.alloc (.cells #[.slice a l.length cap] 24)) = z.w := x.alloc _
    obtain ⟨y0, hy0⟩ := Since.refl (x.w.alloc (.cells #[.slice a l.length cap] 24))
    generalize hW : x.w.alloc (.cells #[.slice a l.length cap] 24) = W at *
    clear hW
    have Hup := Lib.hid (Since.up hWup)
    rw [hy0]
    clear hy0
    replace hr := hr.to hWup
    clear hWup
    go_loopw [3] (fun i wr => ∃ k : Nat, k ≤ l.length ∧ i = .int .i64 k ∧ (∀ j, j < k → okAt l j) ∧ ∃ y : Since W, wr = y.w) (fun i _ => l.length - (intOf i).toNat)
    case atStart => exact ⟨0, by omega, rfl, fun j hj => by omega, _, rfl⟩
    case round =>
      obtain ⟨k, hk, rfl, hok, y, rfl⟩ := hrel
      have Hok := Lib.hid hok; clear hok
      by_cases hlt : k < l.length
      · obtain ⟨b, off, rfl, _, _⟩ := hr k hlt
        have hcell : ∀ y : Since W, y.w.cell? ⟨b, off + k, none⟩ = some (.int .i64 (at0 l k)) := Since.at hr k hlt
        have hcell' : 0 < k → ∀ y : Since W, y.w.cell? ⟨b, off + (k - 1), none⟩ = some (.int .i64 (at0 l (k-1))) := fun h0 => Since.at hr (k-1) (by omega)
        have hk0 : (0 : Int) ≤ (k : Int) := by omega
        have hkl : (k : Int) < (l.length : Int) := by omega
        clear hr
        rcases chk_cases l k with h | ⟨h, h'⟩ | ⟨h, h', h0⟩ | ⟨h, h', h'', h3⟩ | ⟨h, h', h'', h3⟩
        · have d1 : decide (at0 l k < 1) = true := decide_eq_true h
          go_wp2
          refine wp_region_since (by kernel_rfl) (by kernel_rfl) ?_
          repeat (go_big_quiet_step (fail))
          refine wpQuiet_nil ?_
          rintro _ ⟨y, rfl⟩
          go_wp2
          go_ret
          exact ⟨ret_int (bad_at hlt (by unfold okAt; omega)).symm, Hup.out _⟩
        · have d1 : decide (at0 l k < 1) = false := decide_eq_false (by omega)
          have d2 : decide (16777216 < at0 l k) = true := decide_eq_true h'
          go_wp2
          refine wp_region_since (by kernel_rfl) (by kernel_rfl) ?_
          repeat (go_big_quiet_step (fail))
          refine wpQuiet_nil ?_
          rintro _ ⟨y, rfl⟩
          go_wp2
          go_ret
          exact ⟨ret_int (bad_at hlt (by unfold okAt; omega)).symm, Hup.out _⟩
        · have d1 : decide (at0 l k < 1) = false := decide_eq_false (by omega)
          have d2 : decide (16777216 < at0 l k) = false := decide_eq_false (by omega)
          have d3 : decide (0 < k) = false := decide_eq_false (by omega)
          have H0 := Lib.hid h0; clear h0
          go_wp2
          refine wp_region_since (by kernel_rfl) (by kernel_rfl) ?_
          repeat (go_big_quiet_step (fail))
          refine wpQuiet_nil ?_
          rintro _ ⟨y, rfl⟩
          go_wp2
          go_roundw
          case rel => exact ⟨k + 1, by omega, by go_num, next_ok Hok.out (by have := H0.out; unfold okAt; omega), _, rfl⟩
          case measure => simp [intOf]; omega
        · have d1 : decide (at0 l k < 1) = false := decide_eq_false (by omega)
          have d2 : decide (16777216 < at0 l k) = false := decide_eq_false (by omega)
          have d3 : decide (0 < (k : Int)) = true := decide_eq_true (by omega)
          have d4 : decide (at0 l (k-1) < at0 l k) = true := decide_eq_true h3
          go_wp2
          refine wp_region_since (by kernel_rfl) (by kernel_rfl) ?_
          repeat (go_big_quiet_step (fail))
          refine wpQuiet_nil ?_
          rintro _ ⟨y, rfl⟩
          go_wp2
          go_ret
          exact ⟨ret_int (bad_at hlt (by unfold okAt; omega)).symm, Hup.out _⟩
        · have d1 : decide (at0 l k < 1) = false := decide_eq_false (by omega)
          have d2 : decide (16777216 < at0 l k) = false := decide_eq_false (by omega)
          have d3 : decide (0 < (k : Int)) = true := decide_eq_true (by omega)
          have d4 : decide (at0 l (k-1) < at0 l k) = false := decide_eq_false (by omega)
          go_wp2
          refine wp_region_since (by kernel_rfl) (by kernel_rfl) ?_
          repeat (go_big_quiet_step (fail))
          refine wpQuiet_nil ?_
          rintro _ ⟨y, rfl⟩
          go_wp2
          go_roundw
          case rel => exact ⟨k + 1, by omega, by go_num, next_ok Hok.out (by unfold okAt; omega), _, rfl⟩
          case measure => simp [intOf]; omega
      · go_wp2
        go_ret
        exact ⟨ret_int (check_good ⟨h1, h2, fun i hi => Hok.out i (by omega)⟩).symm, Hup.out _⟩
  · have hn : ¬ Good l := fun hg => h ⟨hg.1, hg.2.1⟩
    by_cases h1 : l.length < 1
    · go_enter Tryd.func17, Tryd.ntmps17
      go_wp2
      go_ret
      exact ⟨ret_int (check_bad hn).symm, x.alloc _⟩
    · have h33 : 33 < l.length := by omega
      go_enter Tryd.func17, Tryd.ntmps17
      go_wp2
      go_ret
      exact ⟨ret_int (check_bad hn).symm, x.alloc _⟩
end Go.Proofs.YtmobdlddfoaocaaDoor
