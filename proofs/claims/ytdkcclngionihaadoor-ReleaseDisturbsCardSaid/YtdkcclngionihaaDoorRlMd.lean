/- The walks of noise, first part: checks, weights, ratios. -/
import Derived.Test.YtdkcclngionihaaDoorRlMc
import Derived.Test.YtdkcclngionihaaDoorRows
set_option linter.all false
namespace Go.Proofs.YtdkcclngionihaaDoor
open Go.RowKit

theorem bad_at {l : List Int} {k : Nat} (hk : k < l.length) (h : ¬ okAt l k) : check l = 32 := check_bad fun hg => h (hg.2.2 k hk)
theorem next_ok {l : List Int} {k : Nat} (hok : ∀ j, j < k → okAt l j) (h : okAt l k) : ∀ j, j < k + 1 → okAt l j := fun j hj => by
  by_cases hjk : j < k
  · exact hok j hjk
  · obtain rfl : j = k := by omega
    exact h

set_option maxHeartbeats 400000 in
theorem ncheck_calls (w : World) (x : Since w) (a : Option Addr) (l : List Int) (cap : Nat) (hlen : l.length ≤ 9223372036854775807) (hr : IntRow w a l) :
    Calls Tryd.prog 37 #[.agg #[.slice a l.length cap]] x.w fun e w' => e = .returned (.int .i64 (check l)) ∧ ∃ y : Since w, w' = y.w := by
  by_cases h : 1 ≤ l.length ∧ l.length ≤ 33
  · obtain ⟨h1, h2⟩ := h
    have c1 : decide ((l.length : Int) < 1) = false := decide_eq_false (by omega)
    have c2 : decide ((33 : Int) < (l.length : Int)) = false := decide_eq_false (by omega)
    go_enter Tryd.func37, Tryd.ntmps37
    go_wp2
    have hbx : ∀ y : Since (x.w.alloc (.cells #[.slice a l.length cap] 34)), y.w.cell? ⟨x.w.heap.size, 0, none⟩ = some (.slice a l.length cap) := fun y => Since.cell (by simp [go_sem]) (by simp) y
    have hWup : ∃ z : Since w, (x.w.alloc (.cells #[.slice a l.length cap] 34)) = z.w := x.alloc _
    obtain ⟨y0, hy0⟩ := Since.refl (x.w.alloc (.cells #[.slice a l.length cap] 34))
    generalize hW : x.w.alloc (.cells #[.slice a l.length cap] 34) = W at *
    clear hW
    have Hup := Lib.hid (Since.up hWup)
    rw [hy0]
    clear hy0
    replace hr := hr.to hWup
    clear hWup
    go_loopw [18] (fun i wr => ∃ k : Nat, k ≤ l.length ∧ i = .int .i64 k ∧ (∀ j, j < k → okAt l j) ∧ ∃ y : Since W, wr = y.w) (fun i _ => l.length - (intOf i).toNat)
    case atStart => exact ⟨0, by omega, rfl, fun j hj => by omega, _, rfl⟩
    case round =>
      obtain ⟨k, hk, rfl, hok, y, rfl⟩ := hrel
      have Hok := Lib.hid hok; clear hok
      by_cases hlt : k < l.length
      · obtain ⟨b, off, rfl, _, _⟩ := hr k hlt
        have hcell : ∀ y : Since W, y.w.cell? ⟨b, off + k, none⟩ = some (.int .i64 (at0 l k)) := Since.at hr k hlt
        have hcell' : 0 < k → ∀ y : Since W, y.w.cell? ⟨b, off + (k - 1), none⟩ = some (.int .i64 (at0 l (k-1))) := fun h0 => Since.at hr (k-1) (by omega)
        clear hr
        go_wp2
        all_goals first
          | (go_ret
             exact ⟨ret_int (bad_at hlt (by unfold okAt; omega)).symm, Hup.out _⟩)
          | (go_roundw
             case rel => exact ⟨k + 1, by omega, by go_num, next_ok Hok.out (by unfold okAt; omega), _, rfl⟩
             case measure => simp [intOf]; omega)
      · go_wp2
        go_ret
        exact ⟨ret_int (check_good ⟨h1, h2, fun i hi => Hok.out i (by omega)⟩).symm, Hup.out _⟩
  · have hn : ¬ Good l := fun hg => h ⟨hg.1, hg.2.1⟩
    by_cases h1 : l.length < 1
    · go_enter Tryd.func37, Tryd.ntmps37
      go_wp2
      go_ret
      exact ⟨ret_int (check_bad hn).symm, x.alloc _⟩
    · have h33 : 33 < l.length := by omega
      go_enter Tryd.func37, Tryd.ntmps37
      go_wp2
      go_ret
      exact ⟨ret_int (check_bad hn).symm, x.alloc _⟩

set_option maxHeartbeats 1000000 in
theorem nrcheck_calls (w : World) (x : Since w) (a : Option Addr) (l : List Int) (cap : Nat) (hlen : l.length ≤ 9223372036854775807) (hr : IntRow w a l) :
    Calls Tryd.prog 40 #[.agg #[.slice a l.length cap]] x.w fun e w' => e = .returned (.int .i64 (check l)) ∧ ∃ y : Since w, w' = y.w := by
  by_cases h : 1 ≤ l.length ∧ l.length ≤ 33
  · obtain ⟨h1, h2⟩ := h
    have c1 : decide ((l.length : Int) < 1) = false := decide_eq_false (by omega)
    have c2 : decide ((33 : Int) < (l.length : Int)) = false := decide_eq_false (by omega)
    go_enter Tryd.func40, Tryd.ntmps40
    go_wp2
    have hbx : ∀ y : Since (x.w.alloc (.cells #[.slice a l.length cap] 34)), y.w.cell? ⟨x.w.heap.size, 0, none⟩ = some (.slice a l.length cap) := fun y => Since.cell (by simp [go_sem]) (by simp) y
    have hWup : ∃ z : Since w, (x.w.alloc (.cells #[.slice a l.length cap] 34)) = z.w := x.alloc _
    obtain ⟨y0, hy0⟩ := Since.refl (x.w.alloc (.cells #[.slice a l.length cap] 34))
    generalize hW : x.w.alloc (.cells #[.slice a l.length cap] 34) = W at *
    clear hW
    have Hup := Lib.hid (Since.up hWup)
    rw [hy0]
    clear hy0
    replace hr := hr.to hWup
    clear hWup
    go_loopw [3] (fun i wr => ∃ k : Nat, k ≤ l.length ∧ i = .int .i64 k ∧ (∀ j, j < k → okAt l j) ∧ ∃ y : Since W, wr = y.w) (fun i _ => l.length - (intOf i).toNat)
    case atStart => exact ⟨0, by omega, rfl, fun j hj => by omega, _, rfl⟩
    case round =>
      obtain ⟨k, hk, rfl, hok, y, rfl⟩ := hrel
      have Hok := Lib.hid hok; clear hok
      by_cases hlt : k < l.length
      · obtain ⟨b, off, rfl, _, _⟩ := hr k hlt
        have hcell : ∀ y : Since W, y.w.cell? ⟨b, off + k, none⟩ = some (.int .i64 (at0 l k)) := Since.at hr k hlt
        have hcell' : 0 < k → ∀ y : Since W, y.w.cell? ⟨b, off + (k - 1), none⟩ = some (.int .i64 (at0 l (k-1))) := fun h0 => Since.at hr (k-1) (by omega)
        have hk0 : (0 : Int) ≤ (k : Int) := by omega
        have hkl : (k : Int) < (l.length : Int) := by omega
        clear hr
        rcases chk_cases l k with h | ⟨h, h'⟩ | ⟨h, h', h0⟩ | ⟨h, h', h'', h3⟩ | ⟨h, h', h'', h3⟩
        · have d1 : decide (at0 l k < 1) = true := decide_eq_true h
          go_wp2
          refine wp_region_since (by kernel_rfl) (by kernel_rfl) ?_
          repeat (go_big_quiet_step (fail))
          refine wpQuiet_nil ?_
          rintro _ ⟨y, rfl⟩
          go_wp2
          go_ret
          exact ⟨ret_int (bad_at hlt (by unfold okAt; omega)).symm, Hup.out _⟩
        · have d1 : decide (at0 l k < 1) = false := decide_eq_false (by omega)
          have d2 : decide (16777216 < at0 l k) = true := decide_eq_true h'
          go_wp2
          refine wp_region_since (by kernel_rfl) (by kernel_rfl) ?_
          repeat (go_big_quiet_step (fail))
          refine wpQuiet_nil ?_
          rintro _ ⟨y, rfl⟩
          go_wp2
          go_ret
          exact ⟨ret_int (bad_at hlt (by unfold okAt; omega)).symm, Hup.out _⟩
        · have d1 : decide (at0 l k < 1) = false := decide_eq_false (by omega)
          have d2 : decide (16777216 < at0 l k) = false := decide_eq_false (by omega)
          have d3 : decide (0 < k) = false := decide_eq_false (by omega)
          have H0 := Lib.hid h0; clear h0
          go_wp2
          refine wp_region_since (by kernel_rfl) (by kernel_rfl) ?_
          repeat (go_big_quiet_step (fail))
          refine wpQuiet_nil ?_
          rintro _ ⟨y, rfl⟩
          go_wp2
          go_roundw
          case rel => exact ⟨k + 1, by omega, by go_num, next_ok Hok.out (by have := H0.out; unfold okAt; omega), _, rfl⟩
          case measure => simp [intOf]; omega
        · have d1 : decide (at0 l k < 1) = false := decide_eq_false (by omega)
          have d2 : decide (16777216 < at0 l k) = false := decide_eq_false (by omega)
          have d3 : decide (0 < (k : Int)) = true := decide_eq_true (by omega)
          have d4 : decide (at0 l (k-1) < at0 l k) = true := decide_eq_true h3
          go_wp2
          refine wp_region_since (by kernel_rfl) (by kernel_rfl) ?_
          repeat (go_big_quiet_step (fail))
          refine wpQuiet_nil ?_
          rintro _ ⟨y, rfl⟩
          go_wp2
          go_ret
          exact ⟨ret_int (bad_at hlt (by unfold okAt; omega)).symm, Hup.out _⟩
        · have d1 : decide (at0 l k < 1) = false := decide_eq_false (by omega)
          have d2 : decide (16777216 < at0 l k) = false := decide_eq_false (by omega)
          have d3 : decide (0 < (k : Int)) = true := decide_eq_true (by omega)
          have d4 : decide (at0 l (k-1) < at0 l k) = false := decide_eq_false (by omega)
          go_wp2
          refine wp_region_since (by kernel_rfl) (by kernel_rfl) ?_
          repeat (go_big_quiet_step (fail))
          refine wpQuiet_nil ?_
          rintro _ ⟨y, rfl⟩
          go_wp2
          go_roundw
          case rel => exact ⟨k + 1, by omega, by go_num, next_ok Hok.out (by unfold okAt; omega), _, rfl⟩
          case measure => simp [intOf]; omega
      · go_wp2
        go_ret
        exact ⟨ret_int (check_good ⟨h1, h2, fun i hi => Hok.out i (by omega)⟩).symm, Hup.out _⟩
  · have hn : ¬ Good l := fun hg => h ⟨hg.1, hg.2.1⟩
    by_cases h1 : l.length < 1
    · go_enter Tryd.func40, Tryd.ntmps40
      go_wp2
      go_ret
      exact ⟨ret_int (check_bad hn).symm, x.alloc _⟩
    · have h33 : 33 < l.length := by omega
      go_enter Tryd.func40, Tryd.ntmps40
      go_wp2
      go_ret
      exact ⟨ret_int (check_bad hn).symm, x.alloc _⟩
end Go.Proofs.YtdkcclngionihaaDoor
/- The walks of noise, second part: weights, ratios. -/
namespace Go.Proofs.YtdkcclngionihaaDoor
open Go.RowKit

/-- the table of signs is as the text lays it -/
def Signs (w : World) : Prop := 0 < w.heap.size ∧ w.cell? ⟨0, 0, none⟩ = some (.int .i64 (-1)) ∧ w.cell? ⟨0, 1, none⟩ = some (.int .i64 1)
theorem Signs.to {w W : World} (h : Signs w) (hW : ∃ z : Since w, W = z.w) : Signs W := by
  obtain ⟨z, rfl⟩ := hW
  exact ⟨Nat.lt_of_lt_of_le h.1 z.b.size, Since.cell h.2.1 h.1 z, Since.cell h.2.2 h.1 z⟩
theorem Signs.at {w : World} (h : Signs w) (y : Since w) : y.w.cell? ⟨0, 0, none⟩ = some (.int .i64 (-1)) ∧ y.w.cell? ⟨0, 1, none⟩ = some (.int .i64 1) :=
  ⟨Since.cell h.2.1 h.1 y, Since.cell h.2.2 h.1 y⟩

set_option maxHeartbeats 1000000 in
theorem wt_calls (w : World) (x : Since w) (hs : Signs w) (a : Option Addr) (l : List Int) (cap : Nat) (v : Int) (hv : I64 v) (hlen : l.length ≤ 9223372036854775807) (hr : IntRow w a l) :
    Calls Tryd.prog 60 #[.agg #[.slice a l.length cap], .int .i64 v] x.w fun e w' => e = .returned (.int .i64 (wt l v)) ∧ ∃ y : Since w, w' = y.w := by
  obtain ⟨v0, v1⟩ := hv
  have i0 : ∀ w, (Instr.index 109 (.agg #[.int .i64 (-1), .int .i64 1]) (.int .i64 0)).run Tryd.prog w = .ok (.int .i64 (-1)) w := fun _ => by kernel_rfl
  have i1 : ∀ w, (Instr.index 109 (.agg #[.int .i64 (-1), .int .i64 1]) (.int .i64 1)).run Tryd.prog w = .ok (.int .i64 1) w := fun _ => by kernel_rfl
  go_enter Tryd.func60, Tryd.ntmps60
  go_upto_region 1 with fail
  have hbx : ∀ y : Since (x.w.alloc (.cells #[.slice a l.length cap] 34)), y.w.cell? ⟨x.w.heap.size, 0, none⟩ = some (.slice a l.length cap) := fun y => Since.cell (by simp [go_sem]) (by simp) y
  have hWup : ∃ z : Since w, (x.w.alloc (.cells #[.slice a l.length cap] 34)) = z.w := x.alloc _
  obtain ⟨y0, hy0⟩ := Since.refl (x.w.alloc (.cells #[.slice a l.length cap] 34))
  generalize hW : x.w.alloc (.cells #[.slice a l.length cap] 34) = W at *
  clear hW
  have Hup := Lib.hid (Since.up hWup)
  rw [hy0]
  clear hy0
  replace hr := hr.to hWup
  replace hs := hs.to hWup
  clear hWup
  have s0 : ∀ y : Since W, y.w.cell? ⟨0, 0, none⟩ = some (.int .i64 (-1)) := fun y => (hs.at y).1
  have s1 : ∀ y : Since W, y.w.cell? ⟨0, 1, none⟩ = some (.int .i64 1) := fun y => (hs.at y).2
  go_wp2
  go_loop [9] (fun i => ∃ k : Nat, k ≤ 2 ∧ i = .int .i64 k ∧ (1 ≤ k → 0 < v ∨ l.length ≤ v.natAbs) ∧ (2 ≤ k → v < 0 ∨ l.length ≤ v.natAbs)) (fun i => 2 - (intOf i).toNat)
  case atStart => exact ⟨0, by omega, rfl, by omega, by omega⟩
  case round =>
    obtain ⟨k, hk, rfl, h1, h2⟩ := hrel
    have H1 := Lib.hid h1; have H2 := Lib.hid h2; clear h1 h2
    by_cases hk2 : k = 2
    · subst hk2
      go_wp2
      go_ret
      exact ⟨ret_int (wt_out (by have := H1.out; have := H2.out; omega)).symm, Hup.out _⟩
    · have hmin : v = -9223372036854775808 → wrap64 (-v) = v := fun h => by subst h; kernel_rfl
      have Hmin := Lib.hid hmin; clear hmin
      by_cases hk0 : k = 0
      · subst hk0
        by_cases c1 : v ≤ 0 ∧ -v < l.length
        · obtain ⟨m, rfl⟩ : ∃ m : Nat, v = -(m : Int) := ⟨(-v).toNat, by omega⟩
          have hm : m < l.length := by omega
          obtain ⟨b, off, rfl, _, _⟩ := hr m hm
          have hcell : ∀ y : Since W, y.w.cell? ⟨b, off + m, none⟩ = some (.int .i64 (at0 l m)) := Since.at hr m hm
          have H := Lib.hid c1; clear hr hk2 c1
          go_wp2
          go_ret
          exact ⟨ret_int (by rw [wt_in (by omega)]; congr 1; omega), Hup.out _⟩
        · have hrel1 : 0 < v ∨ l.length ≤ v.natAbs := by omega
          have H := Lib.hid hrel1
          by_cases c2 : v = -9223372036854775808
          · have hw := Hmin.out c2
            have hneg : v < 0 := by omega
            clear hr hk2 c1 c2 hrel1
            go_wp2
            go_round
            case rel => exact ⟨1, by omega, rfl, fun _ => H.out, by omega⟩
            case measure => simp [intOf]
          · have c2' : -9223372036854775808 < v := by omega
            clear hr hk2 c2
            by_cases c3 : 0 < v
            · clear c1 hrel1
              go_wp2
              go_round
              case rel => exact ⟨1, by omega, rfl, fun _ => H.out, by omega⟩
              case measure => simp [intOf]
            · have c4 : (l.length : Int) ≤ -v := by omega
              clear c1 hrel1
              go_wp2
              go_round
              case rel => exact ⟨1, by omega, rfl, fun _ => H.out, by omega⟩
              case measure => simp [intOf]
      · obtain rfl : k = 1 := by omega
        by_cases c1 : 0 ≤ v ∧ v < l.length
        · obtain ⟨m, rfl⟩ : ∃ m : Nat, v = (m : Int) := ⟨v.toNat, by omega⟩
          have hm : m < l.length := by omega
          obtain ⟨b, off, rfl, _, _⟩ := hr m hm
          have hcell : ∀ y : Since W, y.w.cell? ⟨b, off + m, none⟩ = some (.int .i64 (at0 l m)) := Since.at hr m hm
          have H := Lib.hid c1; clear hr hk2 c1
          go_wp2
          go_ret
          exact ⟨ret_int (by rw [wt_in (by omega)]; congr 1), Hup.out _⟩
        · have hrel2 : v < 0 ∨ l.length ≤ v.natAbs := by omega
          have H := Lib.hid hrel2
          by_cases c3 : v < 0
          · clear c1 hrel2 hr
            go_wp2
            go_round
            case rel => exact ⟨2, by omega, rfl, fun _ => H1.out (by omega), fun _ => H.out⟩
            case measure => simp [intOf]
          · have c4 : (l.length : Int) ≤ v := by omega
            clear c1 hrel2 hr
            go_wp2
            go_round
            case rel => exact ⟨2, by omega, rfl, fun _ => H1.out (by omega), fun _ => H.out⟩
            case measure => simp [intOf]
end Go.Proofs.YtdkcclngionihaaDoor
/- The walks of noise, third part: Weight, ratios. -/
namespace Go.Proofs.YtdkcclngionihaaDoor
open Go.RowKit

set_option maxHeartbeats 1000000 in
theorem weight_calls (w : World) (x : Since w) (hs : Signs w) (a : Option Addr) (l : List Int) (cap : Nat) (v : Int) (hv : I64 v) (hlen : l.length ≤ 9223372036854775807) (hr : IntRow w a l) :
    Calls Tryd.prog 38 #[.agg #[.slice a l.length cap], .int .i64 v] x.w fun e w' => e = .returned (.int .i64 (weight l v)) ∧ ∃ y : Since w, w' = y.w := by
  by_cases hg : Good l
  · have hg0 : check l = 0 := check_good hg
    have hgw := weight_good hg v
    go_enter Tryd.func38, Tryd.ntmps38
    go_upto_region 1 with fail
    have hbx : ∀ y : Since (x.w.alloc (.cells #[.slice a l.length cap] 34)), y.w.cell? ⟨x.w.heap.size, 0, none⟩ = some (.slice a l.length cap) := fun y => Since.cell (by simp [go_sem]) (by simp) y
    have hWup : ∃ z : Since w, (x.w.alloc (.cells #[.slice a l.length cap] 34)) = z.w := x.alloc _
    obtain ⟨y0, hy0⟩ := Since.refl (x.w.alloc (.cells #[.slice a l.length cap] 34))
    generalize hW : x.w.alloc (.cells #[.slice a l.length cap] 34) = W at *
    clear hW
    generalize x.w.heap.size = bx at *
    have Hup := Lib.hid (Since.up hWup)
    rw [hy0]
    clear hy0
    replace hr := hr.to hWup
    replace hs := hs.to hWup
    clear hWup
    go_wp2_with fail
    refine (ncheck_calls W _ a l cap hlen hr).mono ?_
    rintro _ _ ⟨rfl, y, rfl⟩
    go_wp2_with fail
    refine (wt_calls W _ hs a l cap v hv hlen hr).mono ?_
    rintro _ _ ⟨rfl, y, rfl⟩
    go_wp2_with fail
    go_ret
    exact ⟨ret_int hgw.symm, Hup.out _⟩
  · have hg0 : check l = 32 := check_bad hg
    have hgw := weight_bad hg v
    go_enter Tryd.func38, Tryd.ntmps38
    go_upto_region 1 with fail
    have hbx : ∀ y : Since (x.w.alloc (.cells #[.slice a l.length cap] 34)), y.w.cell? ⟨x.w.heap.size, 0, none⟩ = some (.slice a l.length cap) := fun y => Since.cell (by simp [go_sem]) (by simp) y
    have hWup : ∃ z : Since w, (x.w.alloc (.cells #[.slice a l.length cap] 34)) = z.w := x.alloc _
    obtain ⟨y0, hy0⟩ := Since.refl (x.w.alloc (.cells #[.slice a l.length cap] 34))
    generalize hW : x.w.alloc (.cells #[.slice a l.length cap] 34) = W at *
    clear hW
    generalize x.w.heap.size = bx at *
    have Hup := Lib.hid (Since.up hWup)
    rw [hy0]
    clear hy0
    replace hr := hr.to hWup
    clear hWup
    go_wp2_with fail
    refine (ncheck_calls W _ a l cap hlen hr).mono ?_
    rintro _ _ ⟨rfl, y, rfl⟩
    go_wp2_with fail
    go_ret
    exact ⟨ret_int hgw.symm, Hup.out _⟩

set_option maxHeartbeats 1000000 in
theorem rweight_calls (w : World) (x : Since w) (a : Option Addr) (l : List Int) (cap : Nat) (v : Int) (hv : I64 v) (hlen : l.length ≤ 9223372036854775807) (hr : IntRow w a l) :
    Calls Tryd.prog 41 #[.agg #[.slice a l.length cap], .int .i64 v] x.w fun e w' => e = .returned (.int .i64 (weight l v)) ∧ ∃ y : Since w, w' = y.w := by
  obtain ⟨v0, v1⟩ := hv
  by_cases hg : Good l
  · have hg0 : check l = 0 := check_good hg
    have hgw := weight_good hg v
    have hl33 := hg.2.1
    clear hg
    rcases (by omega : v < -32 ∨ 32 < v ∨ (-32 ≤ v ∧ v < 0 ∧ (l.length : Int) ≤ -v) ∨ (0 ≤ v ∧ v ≤ 32 ∧ (l.length : Int) ≤ v) ∨ (-32 ≤ v ∧ v < 0 ∧ -v < (l.length : Int)) ∨ (0 ≤ v ∧ v ≤ 32 ∧ v < (l.length : Int))) with c | c | ⟨c, c', c''⟩ | ⟨c, c', c''⟩ | ⟨c, c', c''⟩ | ⟨c, c', c''⟩
    · have hw := Lib.hid (hgw.trans (wt_out (l := l) (v := v) (by omega)))
      clear hgw
      go_enter Tryd.func41, Tryd.ntmps41
      go_upto_region 1 with fail
      have hbx : ∀ y : Since (x.w.alloc (.cells #[.slice a l.length cap] 34)), y.w.cell? ⟨x.w.heap.size, 0, none⟩ = some (.slice a l.length cap) := fun y => Since.cell (by simp [go_sem]) (by simp) y
      have hWup : ∃ z : Since w, (x.w.alloc (.cells #[.slice a l.length cap] 34)) = z.w := x.alloc _
      obtain ⟨y0, hy0⟩ := Since.refl (x.w.alloc (.cells #[.slice a l.length cap] 34))
      generalize hW : x.w.alloc (.cells #[.slice a l.length cap] 34) = W at *
      clear hW
      generalize x.w.heap.size = bx at *
      have Hup := Lib.hid (Since.up hWup)
      rw [hy0]
      clear hy0
      replace hr := hr.to hWup
      clear hWup
      go_wp2_with fail
      refine (nrcheck_calls W _ a l cap hlen hr).mono ?_
      rintro _ _ ⟨rfl, y, rfl⟩
      go_wp2_with fail
      go_ret
      exact ⟨ret_int hw.out.symm, Hup.out _⟩
    · have hw := Lib.hid (hgw.trans (wt_out (l := l) (v := v) (by omega)))
      clear hgw
      go_enter Tryd.func41, Tryd.ntmps41
      go_upto_region 1 with fail
      have hbx : ∀ y : Since (x.w.alloc (.cells #[.slice a l.length cap] 34)), y.w.cell? ⟨x.w.heap.size, 0, none⟩ = some (.slice a l.length cap) := fun y => Since.cell (by simp [go_sem]) (by simp) y
      have hWup : ∃ z : Since w, (x.w.alloc (.cells #[.slice a l.length cap] 34)) = z.w := x.alloc _
      obtain ⟨y0, hy0⟩ := Since.refl (x.w.alloc (.cells #[.slice a l.length cap] 34))
      generalize hW : x.w.alloc (.cells #[.slice a l.length cap] 34) = W at *
      clear hW
      generalize x.w.heap.size = bx at *
      have Hup := Lib.hid (Since.up hWup)
      rw [hy0]
      clear hy0
      replace hr := hr.to hWup
      clear hWup
      go_wp2_with fail
      refine (nrcheck_calls W _ a l cap hlen hr).mono ?_
      rintro _ _ ⟨rfl, y, rfl⟩
      go_wp2_with fail
      go_ret
      exact ⟨ret_int hw.out.symm, Hup.out _⟩
    · have hw := Lib.hid (hgw.trans (wt_out (l := l) (v := v) (by omega)))
      clear hgw
      go_enter Tryd.func41, Tryd.ntmps41
      go_upto_region 1 with fail
      have hbx : ∀ y : Since (x.w.alloc (.cells #[.slice a l.length cap] 34)), y.w.cell? ⟨x.w.heap.size, 0, none⟩ = some (.slice a l.length cap) := fun y => Since.cell (by simp [go_sem]) (by simp) y
      have hWup : ∃ z : Since w, (x.w.alloc (.cells #[.slice a l.length cap] 34)) = z.w := x.alloc _
      obtain ⟨y0, hy0⟩ := Since.refl (x.w.alloc (.cells #[.slice a l.length cap] 34))
      generalize hW : x.w.alloc (.cells #[.slice a l.length cap] 34) = W at *
      clear hW
      generalize x.w.heap.size = bx at *
      have Hup := Lib.hid (Since.up hWup)
      rw [hy0]
      clear hy0
      replace hr := hr.to hWup
      clear hWup
      go_wp2_with fail
      refine (nrcheck_calls W _ a l cap hlen hr).mono ?_
      rintro _ _ ⟨rfl, y, rfl⟩
      go_wp2_with fail
      go_ret
      exact ⟨ret_int hw.out.symm, Hup.out _⟩
    · have hw := Lib.hid (hgw.trans (wt_out (l := l) (v := v) (by omega)))
      clear hgw
      go_enter Tryd.func41, Tryd.ntmps41
      go_upto_region 1 with fail
      have hbx : ∀ y : Since (x.w.alloc (.cells #[.slice a l.length cap] 34)), y.w.cell? ⟨x.w.heap.size, 0, none⟩ = some (.slice a l.length cap) := fun y => Since.cell (by simp [go_sem]) (by simp) y
      have hWup : ∃ z : Since w, (x.w.alloc (.cells #[.slice a l.length cap] 34)) = z.w := x.alloc _
      obtain ⟨y0, hy0⟩ := Since.refl (x.w.alloc (.cells #[.slice a l.length cap] 34))
      generalize hW : x.w.alloc (.cells #[.slice a l.length cap] 34) = W at *
      clear hW
      generalize x.w.heap.size = bx at *
      have Hup := Lib.hid (Since.up hWup)
      rw [hy0]
      clear hy0
      replace hr := hr.to hWup
      clear hWup
      go_wp2_with fail
      refine (nrcheck_calls W _ a l cap hlen hr).mono ?_
      rintro _ _ ⟨rfl, y, rfl⟩
      go_wp2_with fail
      go_ret
      exact ⟨ret_int hw.out.symm, Hup.out _⟩
    · obtain ⟨m, rfl⟩ : ∃ m : Nat, v = -(m : Int) := ⟨v.natAbs, by omega⟩
      have hm : m < l.length := by omega
      have hw := Lib.hid (hgw.trans (wt_in (l := l) (v := -(m : Int)) (by omega)))
      clear hgw
      go_enter Tryd.func41, Tryd.ntmps41
      go_upto_region 1 with fail
      have hbx : ∀ y : Since (x.w.alloc (.cells #[.slice a l.length cap] 34)), y.w.cell? ⟨x.w.heap.size, 0, none⟩ = some (.slice a l.length cap) := fun y => Since.cell (by simp [go_sem]) (by simp) y
      have hWup : ∃ z : Since w, (x.w.alloc (.cells #[.slice a l.length cap] 34)) = z.w := x.alloc _
      obtain ⟨y0, hy0⟩ := Since.refl (x.w.alloc (.cells #[.slice a l.length cap] 34))
      generalize hW : x.w.alloc (.cells #[.slice a l.length cap] 34) = W at *
      clear hW
      generalize x.w.heap.size = bx at *
      have Hup := Lib.hid (Since.up hWup)
      rw [hy0]
      clear hy0
      replace hr := hr.to hWup
      clear hWup
      go_wp2_with fail
      refine (nrcheck_calls W _ a l cap hlen hr).mono ?_
      rintro _ _ ⟨rfl, y, rfl⟩
      obtain ⟨b, off, rfl, _, _⟩ := hr m hm
      have hcell : ∀ y : Since W, y.w.cell? ⟨b, off + m, none⟩ = some (.int .i64 (at0 l m)) := Since.at hr m hm
      clear hr
      go_wp2_with fail
      go_ret
      exact ⟨ret_int (by rw [hw.out]; first | rfl | (congr 1; omega)), Hup.out _⟩
    · obtain ⟨m, rfl⟩ : ∃ m : Nat, v = (m : Int) := ⟨v.natAbs, by omega⟩
      have hm : m < l.length := by omega
      have hw := Lib.hid (hgw.trans (wt_in (l := l) (v := (m : Int)) (by omega)))
      clear hgw
      go_enter Tryd.func41, Tryd.ntmps41
      go_upto_region 1 with fail
      have hbx : ∀ y : Since (x.w.alloc (.cells #[.slice a l.length cap] 34)), y.w.cell? ⟨x.w.heap.size, 0, none⟩ = some (.slice a l.length cap) := fun y => Since.cell (by simp [go_sem]) (by simp) y
      have hWup : ∃ z : Since w, (x.w.alloc (.cells #[.slice a l.length cap] 34)) = z.w := x.alloc _
      obtain ⟨y0, hy0⟩ := Since.refl (x.w.alloc (.cells #[.slice a l.length cap] 34))
      generalize hW : x.w.alloc (.cells #[.slice a l.length cap] 34) = W at *
      clear hW
      generalize x.w.heap.size = bx at *
      have Hup := Lib.hid (Since.up hWup)
      rw [hy0]
      clear hy0
      replace hr := hr.to hWup
      clear hWup
      go_wp2_with fail
      refine (nrcheck_calls W _ a l cap hlen hr).mono ?_
      rintro _ _ ⟨rfl, y, rfl⟩
      obtain ⟨b, off, rfl, _, _⟩ := hr m hm
      have hcell : ∀ y : Since W, y.w.cell? ⟨b, off + m, none⟩ = some (.int .i64 (at0 l m)) := Since.at hr m hm
      clear hr
      go_wp2_with fail
      go_ret
      exact ⟨ret_int (by rw [hw.out]; first | rfl | (congr 1; omega)), Hup.out _⟩
  · have hg0 : check l = 32 := check_bad hg
    have hgw := weight_bad hg v
    go_enter Tryd.func41, Tryd.ntmps41
    go_upto_region 1 with fail
    have hbx : ∀ y : Since (x.w.alloc (.cells #[.slice a l.length cap] 34)), y.w.cell? ⟨x.w.heap.size, 0, none⟩ = some (.slice a l.length cap) := fun y => Since.cell (by simp [go_sem]) (by simp) y
    have hWup : ∃ z : Since w, (x.w.alloc (.cells #[.slice a l.length cap] 34)) = z.w := x.alloc _
    obtain ⟨y0, hy0⟩ := Since.refl (x.w.alloc (.cells #[.slice a l.length cap] 34))
    generalize hW : x.w.alloc (.cells #[.slice a l.length cap] 34) = W at *
    clear hW
    generalize x.w.heap.size = bx at *
    have Hup := Lib.hid (Since.up hWup)
    rw [hy0]
    clear hy0
    replace hr := hr.to hWup
    clear hWup
    go_wp2_with fail
    refine (nrcheck_calls W _ a l cap hlen hr).mono ?_
    rintro _ _ ⟨rfl, y, rfl⟩
    go_wp2_with fail
    go_ret
    exact ⟨ret_int hgw.symm, Hup.out _⟩

end Go.Proofs.YtdkcclngionihaaDoor
/- The walks of noise, fourth part: Total. -/
namespace Go.Proofs.YtdkcclngionihaaDoor
open Go.RowKit

theorem ret_two {k j : IntKind} {a b c d : Int} (h : a = c) (h' : b = d) : Ending.returned (.tuple #[.int k a, .int j b]) = .returned (.tuple #[.int k c, .int j d]) := by rw [h, h']

set_option maxHeartbeats 1000000 in
theorem total_calls (w : World) (x : Since w) (a : Option Addr) (l : List Int) (cap : Nat) (hcap : l.length ≤ cap) (hlen : l.length ≤ 9223372036854775807) (hr : IntRow w a l) :
    Calls Tryd.prog 69 #[.agg #[.slice a l.length cap]] x.w fun e w' => e = .returned (.tuple #[.int .i64 (totalF l), .int .i64 (check l)]) ∧ ∃ y : Since w, w' = y.w := by
  by_cases hg : Good l
  · have hg0 : check l = 0 := check_good hg
    have hgt := Lib.hid ((totalF_good hg).trans (total_split hg.1 hg.2.1))
    have h1 := hg.1
    have h33 := hg.2.1
    have hbd := fun i hi => hg.2.2 i hi
    have HG := Lib.hid hg
    clear hg
    go_enter Tryd.func69, Tryd.ntmps69
    go_upto_region 1 with fail
    have hb0_0 : ∀ y : Since (x.w.alloc (.cells #[.slice a l.length cap] 34)), y.w.cell? ⟨x.w.heap.size, 0, none⟩ = some (.slice a l.length cap) := fun y => Since.cell (by simp [go_sem]) (by first | (simp; done) | (simp; omega)) y
    have hf0 : ∀ (y : Since (x.w.alloc (.cells #[.slice a l.length cap] 34))) (o : Nat), y.w.frozen? ⟨x.w.heap.size, o, none⟩ = false := fun y o => Since.free (by simp [go_sem]) (by first | (simp; done) | (simp; omega)) y
    have hWup : ∃ z : Since w, (x.w.alloc (.cells #[.slice a l.length cap] 34)) = z.w := x.alloc _
    obtain ⟨y0, hy0⟩ := Since.refl (x.w.alloc (.cells #[.slice a l.length cap] 34))
    have Hbx := Lib.hid (And.intro x.b.size (show x.w.heap.size + 1 = (x.w.alloc (.cells #[.slice a l.length cap] 34)).heap.size from by simp))
    generalize hW : (x.w.alloc (.cells #[.slice a l.length cap] 34)) = W at *
    clear hW
    generalize x.w.heap.size = bx at *
    have Hup := Lib.hid (Since.up hWup)
    rw [hy0]
    clear hy0
    replace hr := hr.to hWup
    clear hWup
    go_wp2_with fail
    refine (ncheck_calls W _ a l cap hlen hr).mono ?_
    rintro _ _ ⟨rfl, y, rfl⟩
    obtain ⟨b, off, rfl, _, _⟩ := hr 0 h1
    have hcell : ∀ y : Since W, y.w.cell? ⟨b, off, none⟩ = some (.int .i64 (at0 l 0)) := Since.at hr 0 h1
    go_wp2_with fail
    have hr2 : Row W (cutA (some ⟨b, off, none⟩) 1 cap 1) (l.length - 1) fun i => .int .i64 (at0 l (i + 1)) := by
      have := hr.cut 1 cap hcap
      simpa [Nat.add_comm] using this
    generalize cutA (some ⟨b, off, none⟩) 1 cap 1 = a2 at *
    go_loop [5, 21] (fun s i => ∃ k : Nat, k ≤ l.length - 1 ∧ i = .int .i64 k ∧ s = .int .i64 (at0 l 0 + 2 * sumN (fun i => at0 l (i + 1)) k)) (fun _ i => l.length - 1 - (intOf i).toNat)
    case atStart => exact ⟨0, by omega, rfl, by simp [sumN]⟩
    case round =>
      obtain ⟨k, hk, rfl, rfl⟩ := hrel
      have hbd1 : ∀ i, i < l.length → 0 ≤ at0 l i ∧ at0 l i ≤ 16777216 := fun i hi => by have := hbd i hi; unfold okAt at this; omega
      have hs := sumN_bd (f := fun i => at0 l (i + 1)) (n := k) (B := 16777216) (fun i hi => hbd1 (i + 1) (by omega))
      have h0 := hbd1 0 (by omega)
      have hsucc := Lib.hid (sumN_succ (fun i => at0 l (i + 1)) k)
      by_cases hlt : k < l.length - 1
      · have hk1 := hbd1 (k + 1) (by omega)
        obtain ⟨b2, off2, rfl, _, _⟩ := hr2 k hlt
        have hcell2 : ∀ y : Since W, y.w.cell? ⟨b2, off2 + k, none⟩ = some (.int .i64 (at0 l (k + 1))) := Since.at hr2 k hlt
        clear hr2 hr hbd hbd1
        generalize sumN (fun i => at0 l (i + 1)) k = S at *
        have hS : S ≤ 536870912 := by omega
        go_wp2
        go_round
        case rel => exact ⟨k + 1, by omega, by go_num, by rw [hsucc.out]; go_num⟩
        case measure => simp [intOf]; omega
      · obtain rfl : k = l.length - 1 := by omega
        clear hbd hbd1
        go_wp2
        go_ret2
        exact ⟨ret_two (hgt.out).symm (by first | rfl | exact hg0.symm), Hup.out _⟩
  · have hg0 : check l = 32 := check_bad hg
    have hgt := Lib.hid (totalF_bad hg)
    go_enter Tryd.func69, Tryd.ntmps69
    go_upto_region 1 with fail
    have hb0_0 : ∀ y : Since (x.w.alloc (.cells #[.slice a l.length cap] 34)), y.w.cell? ⟨x.w.heap.size, 0, none⟩ = some (.slice a l.length cap) := fun y => Since.cell (by simp [go_sem]) (by first | (simp; done) | (simp; omega)) y
    have hf0 : ∀ (y : Since (x.w.alloc (.cells #[.slice a l.length cap] 34))) (o : Nat), y.w.frozen? ⟨x.w.heap.size, o, none⟩ = false := fun y o => Since.free (by simp [go_sem]) (by first | (simp; done) | (simp; omega)) y
    have hWup : ∃ z : Since w, (x.w.alloc (.cells #[.slice a l.length cap] 34)) = z.w := x.alloc _
    obtain ⟨y0, hy0⟩ := Since.refl (x.w.alloc (.cells #[.slice a l.length cap] 34))
    have Hbx := Lib.hid (And.intro x.b.size (show x.w.heap.size + 1 = (x.w.alloc (.cells #[.slice a l.length cap] 34)).heap.size from by simp))
    generalize hW : (x.w.alloc (.cells #[.slice a l.length cap] 34)) = W at *
    clear hW
    generalize x.w.heap.size = bx at *
    have Hup := Lib.hid (Since.up hWup)
    rw [hy0]
    clear hy0
    replace hr := hr.to hWup
    clear hWup
    go_wp2_with fail
    refine (ncheck_calls W _ a l cap hlen hr).mono ?_
    rintro _ _ ⟨rfl, y, rfl⟩
    go_wp2_with fail
    go_ret2
    exact ⟨ret_two hgt.out.symm (by first | rfl | exact hg0.symm), Hup.out _⟩
end Go.Proofs.YtdkcclngionihaaDoor
/- The walks of noise, fifth part: the reference's Total, At, the reference's At. -/
namespace Go.Proofs.YtdkcclngionihaaDoor
open Go.RowKit

set_option maxHeartbeats 1000000 in
theorem rtotal_calls (w : World) (x : Since w) (a : Option Addr) (l : List Int) (cap : Nat) (hlen : l.length ≤ 9223372036854775807) (hr : IntRow w a l) :
    Calls Tryd.prog 72 #[.agg #[.slice a l.length cap]] x.w fun e w' => e = .returned (.tuple #[.int .i64 (totalF l), .int .i64 (check l)]) ∧ ∃ y : Since w, w' = y.w := by
  by_cases hg : Good l
  · have hg0 : check l = 0 := check_good hg
    have hgt := Lib.hid (totalF_good hg)
    have HG := Lib.hid hg
    clear hg
    go_enter Tryd.func72, Tryd.ntmps72
    go_upto_region 1 with fail
    have hb0_0 : ∀ y : Since (x.w.alloc (.cells #[.slice a l.length cap] 34)), y.w.cell? ⟨x.w.heap.size, 0, none⟩ = some (.slice a l.length cap) := fun y => Since.cell (by simp [go_sem]) (by first | (simp; done) | (simp; omega)) y
    have hf0 : ∀ (y : Since (x.w.alloc (.cells #[.slice a l.length cap] 34))) (o : Nat), y.w.frozen? ⟨x.w.heap.size, o, none⟩ = false := fun y o => Since.free (by simp [go_sem]) (by first | (simp; done) | (simp; omega)) y
    have hWup : ∃ z : Since w, (x.w.alloc (.cells #[.slice a l.length cap] 34)) = z.w := x.alloc _
    obtain ⟨y0, hy0⟩ := Since.refl (x.w.alloc (.cells #[.slice a l.length cap] 34))
    have Hbx := Lib.hid (And.intro x.b.size (show x.w.heap.size + 1 = (x.w.alloc (.cells #[.slice a l.length cap] 34)).heap.size from by simp))
    generalize hW : (x.w.alloc (.cells #[.slice a l.length cap] 34)) = W at *
    clear hW
    generalize x.w.heap.size = bx at *
    have Hup := Lib.hid (Since.up hWup)
    rw [hy0]
    clear hy0
    replace hr := hr.to hWup
    clear hWup
    go_wp2_with fail
    refine (nrcheck_calls W _ a l cap hlen hr).mono ?_
    rintro _ _ ⟨rfl, y, rfl⟩
    go_wp2_with fail
    go_loopw [5, 6] (fun s v wr => ∃ k : Nat, k ≤ 65 ∧ v = .int .i64 ((k : Int) - 32) ∧ s = .int .i64 (pre l k) ∧ ∃ y : Since W, wr = y.w) (fun _ v _ => (33 - (intOf v)).toNat)
    case atStart => exact ⟨0, by omega, rfl, rfl, _, rfl⟩
    case round =>
      obtain ⟨k, hk, rfl, rfl, y, rfl⟩ := hrel
      have hp := pre_bd HG.out k
      have hw := wt_bd HG.out ((k : Int) - 32)
      have hsucc := Lib.hid (pre_succ l k)
      have hwg := Lib.hid (weight_good HG.out ((k : Int) - 32))
      by_cases hlt : k < 65
      · go_wp2_with fail
        refine (rweight_calls W _ a l cap _ ?_ hlen hr).mono ?_
        · unfold I64; omega
        rintro _ _ ⟨rfl, y, rfl⟩
        rw [hwg.out]
        generalize pre l k = S at *
        generalize wt l ((k : Int) - 32) = T at *
        go_wp2_with fail
        go_roundw
        case rel => exact ⟨k + 1, by omega, by go_num, by rw [hsucc.out], _, rfl⟩
        case measure => simp [intOf]; omega
      · obtain rfl : k = 65 := by omega
        go_wp2_with fail
        go_ret2
        exact ⟨ret_two (hgt.out).symm (by first | rfl | exact hg0.symm), Hup.out _⟩
  · have hg0 : check l = 32 := check_bad hg
    have hgt := Lib.hid (totalF_bad hg)
    go_enter Tryd.func72, Tryd.ntmps72
    go_upto_region 1 with fail
    have hb0_0 : ∀ y : Since (x.w.alloc (.cells #[.slice a l.length cap] 34)), y.w.cell? ⟨x.w.heap.size, 0, none⟩ = some (.slice a l.length cap) := fun y => Since.cell (by simp [go_sem]) (by first | (simp; done) | (simp; omega)) y
    have hf0 : ∀ (y : Since (x.w.alloc (.cells #[.slice a l.length cap] 34))) (o : Nat), y.w.frozen? ⟨x.w.heap.size, o, none⟩ = false := fun y o => Since.free (by simp [go_sem]) (by first | (simp; done) | (simp; omega)) y
    have hWup : ∃ z : Since w, (x.w.alloc (.cells #[.slice a l.length cap] 34)) = z.w := x.alloc _
    obtain ⟨y0, hy0⟩ := Since.refl (x.w.alloc (.cells #[.slice a l.length cap] 34))
    have Hbx := Lib.hid (And.intro x.b.size (show x.w.heap.size + 1 = (x.w.alloc (.cells #[.slice a l.length cap] 34)).heap.size from by simp))
    generalize hW : (x.w.alloc (.cells #[.slice a l.length cap] 34)) = W at *
    clear hW
    generalize x.w.heap.size = bx at *
    have Hup := Lib.hid (Since.up hWup)
    rw [hy0]
    clear hy0
    replace hr := hr.to hWup
    clear hWup
    go_wp2_with fail
    refine (nrcheck_calls W _ a l cap hlen hr).mono ?_
    rintro _ _ ⟨rfl, y, rfl⟩
    go_wp2_with fail
    go_ret2
    exact ⟨ret_two hgt.out.symm (by first | rfl | exact hg0.symm), Hup.out _⟩

/-- what At gives back -/
noncomputable def atE (l : List Int) (x : Int) : Int := open Classical in if Good l then (if 0 ≤ x ∧ x < total l then 0 else 1) else 32
noncomputable def atF (l : List Int) (x : Int) : Int := open Classical in if Good l ∧ 0 ≤ x ∧ x < total l then atV l x else 0
theorem at_bad {l : List Int} (h : ¬ Good l) (x : Int) : atE l x = 32 ∧ atF l x = 0 := by unfold atE atF; simp [h]
theorem at_out {l : List Int} (h : Good l) {x : Int} (hx : ¬ (0 ≤ x ∧ x < total l)) : atE l x = 1 ∧ atF l x = 0 := by unfold atE atF; simp [h, hx]
theorem at_in {l : List Int} (h : Good l) {x : Int} (h0 : 0 ≤ x) (h1 : x < total l) : atE l x = 0 ∧ atF l x = atV l x := by unfold atE atF; simp [h, h0, h1]

set_option maxHeartbeats 1000000 in
theorem at_calls (w : World) (x : Since w) (hs : Signs w) (a : Option Addr) (l : List Int) (cap : Nat) (n : Int) (hcap : l.length ≤ cap) (hlen : l.length ≤ 9223372036854775807) (hr : IntRow w a l) :
    Calls Tryd.prog 71 #[.agg #[.slice a l.length cap], .int .i64 n] x.w fun e w' => e = .returned (.tuple #[.int .i64 (atF l n), .int .i64 (atE l n)]) ∧ ∃ y : Since w, w' = y.w := by
  by_cases hg : Good l
  · have hg0 : check l = 0 := check_good hg
    have hgt := totalF_good hg
    have HG := Lib.hid hg
    have htb := total_bd hg
    have h1 := hg.1
    have h33 := hg.2.1
    clear hg
    by_cases hn : 0 ≤ n ∧ n < total l
    · obtain ⟨n0, n1⟩ := hn
      have hat := Lib.hid (at_in HG.out n0 n1)
      go_enter Tryd.func71, Tryd.ntmps71
      go_upto_region 1 with fail
      have hb0_0 : ∀ y : Since (x.w.alloc (.cells #[.slice a l.length cap] 34)), y.w.cell? ⟨x.w.heap.size, 0, none⟩ = some (.slice a l.length cap) := fun y => Since.cell (by simp [go_sem]) (by first | (simp; done) | (simp; omega)) y
      have hf0 : ∀ (y : Since (x.w.alloc (.cells #[.slice a l.length cap] 34))) (o : Nat), y.w.frozen? ⟨x.w.heap.size, o, none⟩ = false := fun y o => Since.free (by simp [go_sem]) (by first | (simp; done) | (simp; omega)) y
      have hWup : ∃ z : Since w, (x.w.alloc (.cells #[.slice a l.length cap] 34)) = z.w := x.alloc _
      obtain ⟨y0, hy0⟩ := Since.refl (x.w.alloc (.cells #[.slice a l.length cap] 34))
      have Hbx := Lib.hid (And.intro x.b.size (show x.w.heap.size + 1 = (x.w.alloc (.cells #[.slice a l.length cap] 34)).heap.size from by simp))
      generalize hW : (x.w.alloc (.cells #[.slice a l.length cap] 34)) = W at *
      clear hW
      generalize x.w.heap.size = bx at *
      have Hup := Lib.hid (Since.up hWup)
      rw [hy0]
      clear hy0
      replace hr := hr.to hWup
      replace hs := hs.to hWup
      clear hWup
      go_wp2_with fail
      refine (total_calls W _ a l cap hcap hlen hr).mono ?_
      rintro _ _ ⟨rfl, y, rfl⟩
      go_wp2_with fail
      go_loopw [1, 8] (fun s v wr => ∃ k : Nat, 33 - l.length ≤ k ∧ k ≤ 65 ∧ v = .int .i64 ((k : Int) - 32) ∧ s = .int .i64 (n - pre l k) ∧ pre l k ≤ n ∧ ∃ y : Since W, wr = y.w) (fun _ v _ => (33 - (intOf v)).toNat)
      case atStart => exact ⟨33 - l.length, by omega, by omega, by go_num, by rw [pre_start h33]; go_num, by rw [pre_start h33]; omega, _, rfl⟩
      case round =>
        obtain ⟨k, hk0, hk, rfl, rfl, hpk, y, rfl⟩ := hrel
        have hsucc := Lib.hid (pre_succ l k)
        have hp := pre_bd HG.out k
        have hw := wt_bd HG.out ((k : Int) - 32)
        have hlt : k < 65 := by
          rcases Nat.lt_or_ge k 65 with h | h
          · exact h
          · obtain rfl : k = 65 := by omega
            unfold total at n1; omega
        go_wp2_with fail
        refine (wt_calls W _ hs a l cap _ ?_ hlen hr).mono ?_
        · unfold I64; omega
        rintro _ _ ⟨rfl, y, rfl⟩
        by_cases hc : pre l (k + 1) ≤ n
        · have hc' : wt l ((k : Int) - 32) ≤ n - pre l k := by rw [hsucc.out] at hc; omega
          go_wp2_with fail
          refine (wt_calls W _ hs a l cap _ ?_ hlen hr).mono ?_
          · unfold I64; omega
          rintro _ _ ⟨rfl, y, rfl⟩
          generalize hS : pre l k = S at *
          generalize hT : wt l ((k : Int) - 32) = T at *
          clear hS hT
          go_wp2_with fail
          go_roundw
          case rel => exact ⟨k + 1, by omega, by omega, by go_num, by rw [hsucc.out]; go_num, hc, _, rfl⟩
          case measure => simp [intOf]; omega
        · have hc' : n - pre l k < wt l ((k : Int) - 32) := by rw [hsucc.out] at hc; omega
          have hres := Lib.hid (atV_eq HG.out ⟨k, hlt, rfl, hpk, by omega⟩)
          go_wp2_with fail
          go_ret2
          exact ⟨ret_two (by rw [hat.out.2, hres.out]) (by first | exact hat.out.1.symm), Hup.out _⟩
    · have hat := Lib.hid (at_out HG.out hn)
      have hn' : n < 0 ∨ total l ≤ n := by omega
      go_enter Tryd.func71, Tryd.ntmps71
      go_upto_region 1 with fail
      have hb0_0 : ∀ y : Since (x.w.alloc (.cells #[.slice a l.length cap] 34)), y.w.cell? ⟨x.w.heap.size, 0, none⟩ = some (.slice a l.length cap) := fun y => Since.cell (by simp [go_sem]) (by first | (simp; done) | (simp; omega)) y
      have hf0 : ∀ (y : Since (x.w.alloc (.cells #[.slice a l.length cap] 34))) (o : Nat), y.w.frozen? ⟨x.w.heap.size, o, none⟩ = false := fun y o => Since.free (by simp [go_sem]) (by first | (simp; done) | (simp; omega)) y
      have hWup : ∃ z : Since w, (x.w.alloc (.cells #[.slice a l.length cap] 34)) = z.w := x.alloc _
      obtain ⟨y0, hy0⟩ := Since.refl (x.w.alloc (.cells #[.slice a l.length cap] 34))
      have Hbx := Lib.hid (And.intro x.b.size (show x.w.heap.size + 1 = (x.w.alloc (.cells #[.slice a l.length cap] 34)).heap.size from by simp))
      generalize hW : (x.w.alloc (.cells #[.slice a l.length cap] 34)) = W at *
      clear hW
      generalize x.w.heap.size = bx at *
      have Hup := Lib.hid (Since.up hWup)
      rw [hy0]
      clear hy0
      replace hr := hr.to hWup
      replace hs := hs.to hWup
      clear hWup
      go_wp2_with fail
      refine (total_calls W _ a l cap hcap hlen hr).mono ?_
      rintro _ _ ⟨rfl, y, rfl⟩
      rcases hn' with hn' | hn'
      · go_wp2_with fail
        go_ret2
        exact ⟨ret_two hat.out.2.symm hat.out.1.symm, Hup.out _⟩
      · by_cases hn0 : n < 0
        all_goals
          go_wp2_with fail
          go_ret2
          exact ⟨ret_two hat.out.2.symm hat.out.1.symm, Hup.out _⟩
  · have hg0 : check l = 32 := check_bad hg
    have hgt := totalF_bad hg
    have hat := Lib.hid (at_bad hg n)
    go_enter Tryd.func71, Tryd.ntmps71
    go_upto_region 1 with fail
    have hb0_0 : ∀ y : Since (x.w.alloc (.cells #[.slice a l.length cap] 34)), y.w.cell? ⟨x.w.heap.size, 0, none⟩ = some (.slice a l.length cap) := fun y => Since.cell (by simp [go_sem]) (by first | (simp; done) | (simp; omega)) y
    have hf0 : ∀ (y : Since (x.w.alloc (.cells #[.slice a l.length cap] 34))) (o : Nat), y.w.frozen? ⟨x.w.heap.size, o, none⟩ = false := fun y o => Since.free (by simp [go_sem]) (by first | (simp; done) | (simp; omega)) y
    have hWup : ∃ z : Since w, (x.w.alloc (.cells #[.slice a l.length cap] 34)) = z.w := x.alloc _
    obtain ⟨y0, hy0⟩ := Since.refl (x.w.alloc (.cells #[.slice a l.length cap] 34))
    have Hbx := Lib.hid (And.intro x.b.size (show x.w.heap.size + 1 = (x.w.alloc (.cells #[.slice a l.length cap] 34)).heap.size from by simp))
    generalize hW : (x.w.alloc (.cells #[.slice a l.length cap] 34)) = W at *
    clear hW
    generalize x.w.heap.size = bx at *
    have Hup := Lib.hid (Since.up hWup)
    rw [hy0]
    clear hy0
    replace hr := hr.to hWup
    clear hWup
    go_wp2_with fail
    refine (total_calls W _ a l cap hcap hlen hr).mono ?_
    rintro _ _ ⟨rfl, y, rfl⟩
    go_wp2_with fail
    go_ret2
    exact ⟨ret_two hat.out.2.symm hat.out.1.symm, Hup.out _⟩
end Go.Proofs.YtdkcclngionihaaDoor
/- The walks of noise, sixth part: the reference's At, Excess. -/
namespace Go.Proofs.YtdkcclngionihaaDoor
open Go.RowKit

set_option maxHeartbeats 1000000 in
theorem rat_calls (w : World) (x : Since w) (a : Option Addr) (l : List Int) (cap : Nat) (n : Int) (hlen : l.length ≤ 9223372036854775807) (hr : IntRow w a l) :
    Calls Tryd.prog 74 #[.agg #[.slice a l.length cap], .int .i64 n] x.w fun e w' => e = .returned (.tuple #[.int .i64 (atF l n), .int .i64 (atE l n)]) ∧ ∃ y : Since w, w' = y.w := by
  by_cases hg : Good l
  · have hg0 : check l = 0 := check_good hg
    have hgt := totalF_good hg
    have HG := Lib.hid hg
    have htb := total_bd hg
    have h1 := hg.1
    have h33 := hg.2.1
    clear hg
    by_cases hn : 0 ≤ n ∧ n < total l
    · obtain ⟨n0, n1⟩ := hn
      have hat := Lib.hid (at_in HG.out n0 n1)
      go_enter Tryd.func74, Tryd.ntmps74
      go_upto_region 1 with fail
      have hb0_0 : ∀ y : Since (x.w.alloc (.cells #[.slice a l.length cap] 34)), y.w.cell? ⟨x.w.heap.size, 0, none⟩ = some (.slice a l.length cap) := fun y => Since.cell (by simp [go_sem]) (by first | (simp; done) | (simp; omega)) y
      have hf0 : ∀ (y : Since (x.w.alloc (.cells #[.slice a l.length cap] 34))) (o : Nat), y.w.frozen? ⟨x.w.heap.size, o, none⟩ = false := fun y o => Since.free (by simp [go_sem]) (by first | (simp; done) | (simp; omega)) y
      have hWup : ∃ z : Since w, (x.w.alloc (.cells #[.slice a l.length cap] 34)) = z.w := x.alloc _
      obtain ⟨y0, hy0⟩ := Since.refl (x.w.alloc (.cells #[.slice a l.length cap] 34))
      have Hbx := Lib.hid (And.intro x.b.size (show x.w.heap.size + 1 = (x.w.alloc (.cells #[.slice a l.length cap] 34)).heap.size from by simp))
      generalize hW : (x.w.alloc (.cells #[.slice a l.length cap] 34)) = W at *
      clear hW
      generalize x.w.heap.size = bx at *
      have Hup := Lib.hid (Since.up hWup)
      rw [hy0]
      clear hy0
      replace hr := hr.to hWup
      clear hWup
      go_wp2_with fail
      refine (rtotal_calls W _ a l cap hlen hr).mono ?_
      rintro _ _ ⟨rfl, y, rfl⟩
      go_wp2_with fail
      go_loopw [8, 9] (fun s v wr => ∃ k : Nat, k ≤ 65 ∧ v = .int .i64 ((k : Int) - 32) ∧ s = .int .i64 (pre l k) ∧ pre l k ≤ n ∧ ∃ y : Since W, wr = y.w) (fun _ v _ => (33 - (intOf v)).toNat)
      case atStart => exact ⟨0, by omega, rfl, rfl, n0, _, rfl⟩
      case round =>
        obtain ⟨k, hk, rfl, rfl, hpk, y, rfl⟩ := hrel
        have hsucc := Lib.hid (pre_succ l k)
        have hp := pre_bd HG.out k
        have hw := wt_bd HG.out ((k : Int) - 32)
        have hwg := Lib.hid (weight_good HG.out ((k : Int) - 32))
        have hlt : k < 65 := by
          rcases Nat.lt_or_ge k 65 with h | h
          · exact h
          · obtain rfl : k = 65 := by omega
            unfold total at n1; omega
        go_wp2_with fail
        refine (rweight_calls W _ a l cap _ ?_ hlen hr).mono ?_
        · unfold I64; omega
        rintro _ _ ⟨rfl, y, rfl⟩
        rw [hwg.out]
        by_cases hc : pre l (k + 1) ≤ n
        · have hc' : pre l k + wt l ((k : Int) - 32) ≤ n := by rw [hsucc.out] at hc; omega
          generalize hS : pre l k = S at *
          generalize hT : wt l ((k : Int) - 32) = T at *
          clear hS hT
          go_wp2_with fail
          go_roundw
          case rel => exact ⟨k + 1, by omega, by go_num, by rw [hsucc.out], hc, _, rfl⟩
          case measure => simp [intOf]; omega
        · have hc' : n < pre l k + wt l ((k : Int) - 32) := by rw [hsucc.out] at hc; omega
          have hres := Lib.hid (atV_eq HG.out ⟨k, hlt, rfl, hpk, by omega⟩)
          go_wp2_with fail
          go_ret2
          exact ⟨ret_two (by rw [hat.out.2, hres.out]) (by first | exact hat.out.1.symm), Hup.out _⟩
    · have hat := Lib.hid (at_out HG.out hn)
      have hn' : n < 0 ∨ (0 ≤ n ∧ total l ≤ n) := by omega
      go_enter Tryd.func74, Tryd.ntmps74
      go_upto_region 1 with fail
      have hb0_0 : ∀ y : Since (x.w.alloc (.cells #[.slice a l.length cap] 34)), y.w.cell? ⟨x.w.heap.size, 0, none⟩ = some (.slice a l.length cap) := fun y => Since.cell (by simp [go_sem]) (by first | (simp; done) | (simp; omega)) y
      have hf0 : ∀ (y : Since (x.w.alloc (.cells #[.slice a l.length cap] 34))) (o : Nat), y.w.frozen? ⟨x.w.heap.size, o, none⟩ = false := fun y o => Since.free (by simp [go_sem]) (by first | (simp; done) | (simp; omega)) y
      have hWup : ∃ z : Since w, (x.w.alloc (.cells #[.slice a l.length cap] 34)) = z.w := x.alloc _
      obtain ⟨y0, hy0⟩ := Since.refl (x.w.alloc (.cells #[.slice a l.length cap] 34))
      have Hbx := Lib.hid (And.intro x.b.size (show x.w.heap.size + 1 = (x.w.alloc (.cells #[.slice a l.length cap] 34)).heap.size from by simp))
      generalize hW : (x.w.alloc (.cells #[.slice a l.length cap] 34)) = W at *
      clear hW
      generalize x.w.heap.size = bx at *
      have Hup := Lib.hid (Since.up hWup)
      rw [hy0]
      clear hy0
      replace hr := hr.to hWup
      clear hWup
      go_wp2_with fail
      refine (rtotal_calls W _ a l cap hlen hr).mono ?_
      rintro _ _ ⟨rfl, y, rfl⟩
      rcases hn' with hn' | ⟨hn', hn''⟩
      all_goals
        go_wp2_with fail
        go_ret2
        exact ⟨ret_two hat.out.2.symm hat.out.1.symm, Hup.out _⟩
  · have hg0 : check l = 32 := check_bad hg
    have hgt := totalF_bad hg
    have hat := Lib.hid (at_bad hg n)
    go_enter Tryd.func74, Tryd.ntmps74
    go_upto_region 1 with fail
    have hb0_0 : ∀ y : Since (x.w.alloc (.cells #[.slice a l.length cap] 34)), y.w.cell? ⟨x.w.heap.size, 0, none⟩ = some (.slice a l.length cap) := fun y => Since.cell (by simp [go_sem]) (by first | (simp; done) | (simp; omega)) y
    have hf0 : ∀ (y : Since (x.w.alloc (.cells #[.slice a l.length cap] 34))) (o : Nat), y.w.frozen? ⟨x.w.heap.size, o, none⟩ = false := fun y o => Since.free (by simp [go_sem]) (by first | (simp; done) | (simp; omega)) y
    have hWup : ∃ z : Since w, (x.w.alloc (.cells #[.slice a l.length cap] 34)) = z.w := x.alloc _
    obtain ⟨y0, hy0⟩ := Since.refl (x.w.alloc (.cells #[.slice a l.length cap] 34))
    have Hbx := Lib.hid (And.intro x.b.size (show x.w.heap.size + 1 = (x.w.alloc (.cells #[.slice a l.length cap] 34)).heap.size from by simp))
    generalize hW : (x.w.alloc (.cells #[.slice a l.length cap] 34)) = W at *
    clear hW
    generalize x.w.heap.size = bx at *
    have Hup := Lib.hid (Since.up hWup)
    rw [hy0]
    clear hy0
    replace hr := hr.to hWup
    clear hWup
    go_wp2_with fail
    refine (rtotal_calls W _ a l cap hlen hr).mono ?_
    rintro _ _ ⟨rfl, y, rfl⟩
    go_wp2_with fail
    go_ret2
    exact ⟨ret_two hat.out.2.symm hat.out.1.symm, Hup.out _⟩

end Go.Proofs.YtdkcclngionihaaDoor
/- The walks of noise, seventh part: Make. -/
namespace Go.Proofs.YtdkcclngionihaaDoor
open Go.RowKit

theorem ints : SliceOf Tryd.prog 22 3 (.int .i64 0) 1 8 := SliceOf.mk' (by kernel_rfl) (by kernel_rfl) rfl (by decide)

theorem nmap_at {l : List Int} {n i : Nat} (hn : l.length = n) (h : i < n) : (l.map (Value.int .i64)).getD i undef = .int .i64 (at0 l i) := by
  unfold at0
  simp [List.getD_eq_getElem?_getD, List.getElem?_map, List.getElem?_eq_getElem (show i < l.length by omega)]
/-- new numbers in memory -/
def NewInts (w0 : World) (l : List Int) (v : Value) (w' : World) : Prop := ∃ a cap, v = .slice a l.length cap ∧ l.length ≤ cap ∧ ∃ y : Since w0, w' = y.w ∧ IntRow y.w a l
/-- what Make gives back -/
instance (num den : Int) : Decidable (Right num den) := by unfold Right; infer_instance
end Go.Proofs.YtdkcclngionihaaDoor
/- The walks of noise, ninth part: math/bits.Len64, Power. -/
namespace Go.Proofs.YtdkcclngionihaaDoor
open Go.RowKit

/-- n has L bits -/
def IsLen (n L : Nat) : Prop := n < 2 ^ L ∧ (L = 0 ∨ 2 ^ (L - 1) ≤ n)
instance (n L : Nat) : Decidable (IsLen n L) := by unfold IsLen; infer_instance
def lenN (n : Nat) : Nat := if n = 0 then 0 else n.log2 + 1
theorem lenN_is (n : Nat) : IsLen n (lenN n) := by
  unfold lenN; split
  · subst_vars; exact ⟨by decide, .inl rfl⟩
  · rename_i h; exact ⟨Nat.lt_log2_self, .inr (by simpa using Nat.log2_self_le h)⟩
theorem IsLen.unique {n L M : Nat} (h : IsLen n L) (k : IsLen n M) : L = M := by
  rcases Nat.lt_trichotomy L M with c | c | c
  · have : 2 ^ L ≤ 2 ^ (M - 1) := Nat.pow_le_pow_right (by decide) (by omega)
    rcases k.2 with e | e
    · omega
    · have := h.1; omega
  · exact c
  · have : 2 ^ M ≤ 2 ^ (L - 1) := Nat.pow_le_pow_right (by decide) (by omega)
    rcases h.2 with e | e
    · omega
    · have := k.1; omega
theorem IsLen.shift {n L : Nat} (s : Nat) (h : IsLen (n / 2 ^ s) L) (hn : 2 ^ s ≤ n) : IsLen n (s + L) := by
  have hp : 0 < 2 ^ s := Nat.pow_pos (by decide)
  have h1 : 1 ≤ n / 2 ^ s := (Nat.le_div_iff_mul_le hp).2 (by omega)
  have hL : L ≠ 0 := fun e => by subst e; have := h.1; simp at this; omega
  refine ⟨?_, .inr ?_⟩
  · have := (Nat.div_lt_iff_lt_mul hp).1 h.1; rw [Nat.pow_add, Nat.mul_comm]; exact this
  · rcases h.2 with e | e
    · exact (hL e).elim
    · have := (Nat.le_div_iff_mul_le hp).1 e
      rw [show s + L - 1 = (L - 1) + s by omega, Nat.pow_add]; exact this
def bitTab : ByteArray := ⟨#[0, 1, 2, 2, 3, 3, 3, 3, 4, 4, 4, 4, 4, 4, 4, 4, 5, 5, 5, 5, 5, 5, 5, 5, 5, 5, 5, 5, 5, 5, 5, 5, 6, 6, 6, 6, 6, 6, 6, 6, 6, 6, 6, 6, 6, 6, 6, 6, 6, 6, 6, 6, 6, 6, 6, 6, 6, 6, 6, 6, 6, 6, 6, 6, 7, 7, 7, 7, 7, 7, 7, 7, 7, 7, 7, 7, 7, 7, 7, 7, 7, 7, 7, 7, 7, 7, 7, 7, 7, 7, 7, 7, 7, 7, 7, 7, 7, 7, 7, 7, 7, 7, 7, 7, 7, 7, 7, 7, 7, 7, 7, 7, 7, 7, 7, 7, 7, 7, 7, 7, 7, 7, 7, 7, 7, 7, 7, 7, 8, 8, 8, 8, 8, 8, 8, 8, 8, 8, 8, 8, 8, 8, 8, 8, 8, 8, 8, 8, 8, 8, 8, 8, 8, 8, 8, 8, 8, 8, 8, 8, 8, 8, 8, 8, 8, 8, 8, 8, 8, 8, 8, 8, 8, 8, 8, 8, 8, 8, 8, 8, 8, 8, 8, 8, 8, 8, 8, 8, 8, 8, 8, 8, 8, 8, 8, 8, 8, 8, 8, 8, 8, 8, 8, 8, 8, 8, 8, 8, 8, 8, 8, 8, 8, 8, 8, 8, 8, 8, 8, 8, 8, 8, 8, 8, 8, 8, 8, 8, 8, 8, 8, 8, 8, 8, 8, 8, 8, 8, 8, 8, 8, 8, 8, 8, 8, 8, 8, 8, 8, 8, 8, 8, 8, 8, 8, 8]⟩
theorem bitTab_size : bitTab.size = 256 := by decide +kernel
theorem bitTab_lt {k : Nat} (h : k < 256) : k < bitTab.size := by rw [bitTab_size]; exact h
theorem bitTab_is : ∀ k : Fin 256, IsLen k.1 (bitTab[k.1]'(bitTab_lt k.2)).toNat ∧ (bitTab[k.1]'(bitTab_lt k.2)).toNat ≤ 8 := by decide +kernel
theorem len_res {n m : Int} (c : Nat) (hn : 0 ≤ n) (hc : c ≤ 48) (hm : m = n / 2 ^ c) (h : (2 : Int) ^ c ≤ n ∨ c = 0) (hk : m.toNat < 256) : wrap64 (c + wrap64 ((bitTab[m.toNat]'(bitTab_lt hk)).toNat : Int)) = (lenN n.toNat : Int) := by
  have h1 := bitTab_is ⟨m.toNat, hk⟩
  simp only at h1
  have h2 : IsLen n.toNat (c + (bitTab[m.toNat]'(bitTab_lt hk)).toNat) := by
    rcases h with h | h
    · refine IsLen.shift c ?_ ?_
      · have : n.toNat / 2 ^ c = m.toNat := by
          rw [hm]
          obtain ⟨k, rfl⟩ : ∃ k : Nat, n = k := ⟨n.toNat, by omega⟩
          have : ((k : Int) / 2 ^ c) = ((k / 2 ^ c : Nat) : Int) := by simp
          rw [this]; simp only [Int.toNat_natCast]
        rw [this]; exact h1.1
      · obtain ⟨k, rfl⟩ : ∃ k : Nat, n = k := ⟨n.toNat, by omega⟩
        have : (2 ^ c : Int) = ((2 ^ c : Nat) : Int) := by simp
        rw [this] at h; simp; omega
    · subst h
      have : m = n := by rw [hm]; simp
      subst this; simpa using h1.1
  have h3 := h2.unique (lenN_is _)
  have e1 : wrap64 ((bitTab[m.toNat]'(bitTab_lt hk)).toNat : Int) = ((bitTab[m.toNat]'(bitTab_lt hk)).toNat : Int) := IntWalk.wrap64_in _ (by omega)
  rw [e1, IntWalk.wrap64_in _ (by omega)]
  omega
theorem len_res0 {n : Int} (hn : 0 ≤ n) (hk : n.toNat < 256) : wrap64 (wrap64 ((bitTab[n.toNat]'(bitTab_lt hk)).toNat : Int)) = (lenN n.toNat : Int) := by
  have := len_res (n := n) (m := n) 0 hn (by omega) (by simp) (.inr rfl) hk
  simpa using this

set_option maxRecDepth 100000 in
theorem len64_calls (w : World) (x : Since w) (n : Int) (h0 : 0 ≤ n) (h1 : n ≤ 1125899906842624) :
    Calls Tryd.prog 90 #[.int .u64 n] x.w fun e w' => e = .returned (.int .i64 (lenN n.toNat)) ∧ ∃ y : Since w, w' = y.w := by
  by_cases c1 : 4294967296 ≤ n
  · by_cases c2 : 65536 ≤ n / 4294967296
    · have c3 : n / 4294967296 / 65536 < 256 := by omega
      go_enter Tryd.func90, Tryd.ntmps90
      go_wp2_with fail
      go_ret
      exact ⟨ret_int (len_res 48 h0 (by omega) (by omega) (.inl (by omega)) (by omega)), _, rfl⟩
    · by_cases c3 : 256 ≤ n / 4294967296
      · skip
        go_enter Tryd.func90, Tryd.ntmps90
        go_wp2_with fail
        go_ret
        exact ⟨ret_int (len_res 40 h0 (by omega) (by omega) (.inl (by omega)) (by omega)), _, rfl⟩
      · skip
        go_enter Tryd.func90, Tryd.ntmps90
        go_wp2_with fail
        go_ret
        exact ⟨ret_int (len_res 32 h0 (by omega) (by omega) (.inl (by omega)) (by omega)), _, rfl⟩
  · by_cases c2 : 65536 ≤ n
    · by_cases c3 : 256 ≤ n / 65536
      · skip
        go_enter Tryd.func90, Tryd.ntmps90
        go_wp2_with fail
        go_ret
        exact ⟨ret_int (len_res 24 h0 (by omega) (by omega) (.inl (by omega)) (by omega)), _, rfl⟩
      · skip
        go_enter Tryd.func90, Tryd.ntmps90
        go_wp2_with fail
        go_ret
        exact ⟨ret_int (len_res 16 h0 (by omega) (by omega) (.inl (by omega)) (by omega)), _, rfl⟩
    · by_cases c3 : 256 ≤ n
      · skip
        go_enter Tryd.func90, Tryd.ntmps90
        go_wp2_with fail
        go_ret
        exact ⟨ret_int (len_res 8 h0 (by omega) (by omega) (.inl (by omega)) (by omega)), _, rfl⟩
      · skip
        go_enter Tryd.func90, Tryd.ntmps90
        go_wp2_with fail
        go_ret
        exact ⟨ret_int (len_res0 h0 (by omega)), _, rfl⟩
end Go.Proofs.YtdkcclngionihaaDoor
/- The walks of noise, tenth part: Power, Below. -/
namespace Go.Proofs.YtdkcclngionihaaDoor
open Go.RowKit

theorem lenN_bd {n : Nat} (h : n < 1125899906842624) : lenN n ≤ 50 := by
  have h1 := lenN_is n
  rcases h1.2 with e | e
  · omega
  · rcases Nat.lt_or_ge 50 (lenN n) with c | c
    · have : 2 ^ 50 ≤ 2 ^ (lenN n - 1) := Nat.pow_le_pow_right (by decide) (by omega)
      omega
    · exact c
/-- the least power of 2 that is not less than n -/
def pw (n : Int) : Int := ((2 ^ lenN (n - 1).toNat : Nat) : Int)
theorem pow_bd {k : Nat} (h : k ≤ 50) : 1 ≤ 2 ^ k ∧ 2 ^ k ≤ 1125899906842624 := ⟨Nat.pow_pos (by decide), by
  have : 2 ^ k ≤ 2 ^ 50 := Nat.pow_le_pow_right (by decide) h
  omega⟩

set_option maxHeartbeats 1000000 in
theorem power_calls (w : World) (x : Since w) (n : Int) (h0 : 1 ≤ n) (h1 : n ≤ 1125899906842624) :
    Calls Tryd.prog 91 #[.int .i64 n] x.w fun e w' => e = .returned (.int .i64 (pw n)) ∧ ∃ y : Since w, w' = y.w := by
  go_enter Tryd.func91, Tryd.ntmps91
  go_wp2_with fail
  go_loop [3] (fun p => ∃ k : Nat, k ≤ 50 ∧ p = .int .i64 ((2 ^ k : Nat) : Int) ∧ (k = 0 ∨ 2 ^ (k - 1) < n.toNat)) (fun p => (n - intOf p).toNat)
  case atStart => exact ⟨0, by omega, rfl, .inl rfl⟩
  case round =>
    obtain ⟨k, hk, rfl, hk2⟩ := hrel
    have hp := pow_bd hk
    have Hk := Lib.hid hk2; clear hk2
    have hpw := Lib.hid (show (2 ^ (k + 1) : Nat) = 2 * 2 ^ k by rw [Nat.pow_succ, Nat.mul_comm])
    by_cases hlt : ((2 ^ k : Nat) : Int) < n
    · have hk50 : k < 50 := by
        rcases Nat.lt_or_ge k 50 with c | c
        · exact c
        · obtain rfl : k = 50 := by omega
          omega
      generalize hP : (2 ^ k : Nat) = p at *
      have HP := Lib.hid hP; clear hP
      go_wp2_with fail
      go_round
      case rel => exact ⟨k + 1, by omega, by rw [hpw.out]; go_num, .inr (by simp only [Nat.add_sub_cancel]; rw [HP.out]; omega)⟩
      case measure => simp [intOf]; omega
    · have hres := Lib.hid (show pw n = ((2 ^ k : Nat) : Int) from by
        unfold pw
        congr 2
        exact ((lenN_is _).unique ⟨by omega, by rcases Hk.out with h | h; exact .inl h; exact .inr (by omega)⟩))
      generalize (2 ^ k : Nat) = p at *
      go_wp2_with fail
      go_ret
      exact ⟨ret_int hres.out.symm, _, rfl⟩

/-- the first of n numbers that q says yes to; n if there is none -/
def firstN (q : Nat → Bool) : Nat → Nat
  | 0 => 0
  | n + 1 => if firstN q n < n then firstN q n else if q n then n else n + 1
theorem firstN_no (q : Nat → Bool) (n : Nat) (h : ∀ i, i < n → q i = false) : firstN q n = n := by
  induction n with
  | zero => rfl
  | succ n ih =>
    have h1 := ih (fun i hi => h i (by omega))
    have h2 := h n (by omega)
    unfold firstN; rw [h1, if_neg (by omega), h2]; simp
theorem firstN_yes (q : Nat → Bool) (n k : Nat) (hk : k < n) (h : ∀ i, i < k → q i = false) (hq : q k = true) : firstN q n = k := by
  induction n with
  | zero => omega
  | succ n ih =>
    by_cases hkn : k < n
    · have h1 := ih hkn
      unfold firstN; rw [h1, if_pos hkn]
    · obtain rfl : k = n := by omega
      unfold firstN; rw [firstN_no q k h, if_neg (by omega), hq]; simp
/-- what Below gives back: the place of the word that is taken -/
def bI (ws : List Int) (n : Int) : Nat := firstN (fun i => decide (at0 ws i % pw n < n)) ws.length
def bE (ws : List Int) (n : Int) : Int := if 1 ≤ n ∧ n ≤ 1125899906842624 then (if bI ws n < ws.length then 0 else 4) else 1
def bV (ws : List Int) (n : Int) : Int := if bE ws n = 0 then at0 ws (bI ws n) % pw n else 0
def bU (ws : List Int) (n : Int) : Int := if bE ws n = 0 then (bI ws n : Int) + 1 else 0

theorem pw_bd {n : Int} (h0 : 1 ≤ n) (h1 : n ≤ 1125899906842624) : 1 ≤ pw n ∧ pw n ≤ 1125899906842624 := by
  have hL := lenN_bd (n := (n - 1).toNat) (by omega)
  have := pow_bd hL
  unfold pw; omega
theorem wrap_u64 {z : Int} (h1 : 0 ≤ z) (h2 : z < 18446744073709551616) : IntKind.u64.wrap z = z := by
  unfold IntKind.wrap IntKind.signed IntKind.bits
  simp only [Bool.false_and]
  show z % 18446744073709551616 = z
  exact Int.emod_eq_of_lt h1 h2
theorem and_pw {x n : Int} (hx : 0 ≤ x ∧ x < 18446744073709551616) (h0 : 1 ≤ n) (h1 : n ≤ 1125899906842624) : bits .and .u64 x (pw n - 1) = x % pw n := by
  have hL := lenN_bd (n := (n - 1).toNat) (by omega)
  unfold pw
  generalize lenN (n - 1).toNat = L at *
  have hp := pow_bd hL
  obtain ⟨k, rfl⟩ : ∃ k : Nat, x = k := ⟨x.toNat, by omega⟩
  have e1 : (BitVec.ofInt 64 (k : Int) &&& BitVec.ofInt 64 (((2 ^ L : Nat) : Int) - 1)).toNat = k % 2 ^ L := by
    have h1 : (BitVec.ofInt 64 (k : Int)).toNat = k := by
      rw [BitVec.toNat_ofInt]; omega
    have h2 : (BitVec.ofInt 64 (((2 ^ L : Nat) : Int) - 1)).toNat = 2 ^ L - 1 := by
      rw [BitVec.toNat_ofInt]; omega
    rw [BitVec.toNat_and, h1, h2, Nat.and_two_pow_sub_one_eq_mod]
  show IntKind.u64.wrap (((BitVec.ofInt 64 (k : Int) &&& BitVec.ofInt 64 (((2 ^ L : Nat) : Int) - 1)).toNat : Nat) : Int) = _
  rw [e1]
  have hlt : k % 2 ^ L < 2 ^ L := Nat.mod_lt _ (by omega)
  rw [wrap_u64 (by omega) (by omega)]
  simp
theorem pw_mod_bd {x n : Int} (_hx : 0 ≤ x) (h0 : 1 ≤ n) (h1 : n ≤ 1125899906842624) : 0 ≤ x % pw n ∧ x % pw n < 1125899906842624 := by
  have := pw_bd h0 h1
  exact ⟨Int.emod_nonneg _ (by omega), by have := Int.emod_lt_of_pos x (show 0 < pw n by omega); omega⟩
theorem mask_eq {L : Nat} (h : L ≤ 50) : IntKind.u64.wrap (IntKind.u64.wrap (2 ^ L) - 1) = ((2 ^ L : Nat) : Int) - 1 := by
  have hp := pow_bd h
  have e : (2 : Int) ^ L = ((2 ^ L : Nat) : Int) := by simp
  rw [e]
  generalize (2 ^ L : Nat) = p at *
  rw [wrap_u64 (z := p) (by omega) (by omega), wrap_u64 (by omega) (by omega)]
theorem b_yes {ws : List Int} {n : Int} {k : Nat} (h0 : 1 ≤ n) (h1 : n ≤ 1125899906842624) (hk : k < ws.length) (hno : ∀ i, i < k → decide (at0 ws i % pw n < n) = false) (hc : at0 ws k % pw n < n) :
    at0 ws k % pw n = bV ws n ∧ (k : Int) + 1 = bU ws n ∧ 0 = bE ws n := by
  have hb : bI ws n = k := firstN_yes _ _ _ hk hno (decide_eq_true hc)
  have he : bE ws n = 0 := by unfold bE; rw [if_pos ⟨h0, h1⟩, hb, if_pos hk]
  exact ⟨by unfold bV; rw [if_pos he, hb], by unfold bU; rw [if_pos he, hb], he.symm⟩
theorem b_no {ws : List Int} {n : Int} (h0 : 1 ≤ n) (h1 : n ≤ 1125899906842624) (hno : ∀ i, i < ws.length → decide (at0 ws i % pw n < n) = false) : 0 = bV ws n ∧ 0 = bU ws n ∧ 4 = bE ws n := by
  have hb : bI ws n = ws.length := firstN_no _ _ hno
  have he : bE ws n = 4 := by unfold bE; rw [if_pos ⟨h0, h1⟩, hb, if_neg (by omega)]
  exact ⟨by unfold bV; rw [if_neg (by omega)], by unfold bU; rw [if_neg (by omega)], he.symm⟩
theorem b_out {ws : List Int} {n : Int} (h : ¬ (1 ≤ n ∧ n ≤ 1125899906842624)) : 0 = bV ws n ∧ 0 = bU ws n ∧ 1 = bE ws n := by
  have he : bE ws n = 1 := by unfold bE; rw [if_neg h]
  exact ⟨by unfold bV; rw [if_neg (by omega)], by unfold bU; rw [if_neg (by omega)], he.symm⟩
theorem ret_three {k j i : IntKind} {a b c a' b' c' : Int} (h : a = a') (h' : b = b') (h'' : c = c') : Ending.returned (.tuple #[.int k a, .int j b, .int i c]) = .returned (.tuple #[.int k a', .int j b', .int i c']) := by rw [h, h', h'']
def BelowJ (w : World) (a : Option Addr) (ws : List Int) (cap : Nat) (n : Int) (a' : Act) (w' : World) : Prop :=
  (∃ y : Since w, w' = y.w) ∧ ∃ (k : Nat) (u2 u3 u9 u10 u11 u12 u13 u14 u15 u16 u17 u18 u19 u20 u21 u22 u23 u24 u25 u26 u27 u28 u29 u30 u31 u32 u33 u34 u35 u36 u37 u38 u39 u40 : Value), a' = { tmps := #[.slice a ws.length cap, .int .i64 n, u2, u3, .int .i64 0, .int .i64 0, .int .i64 0, .int .u64 (pw n - 1), .int .i64 (k : Int), u9, u10, u11, u12, u13, u14, u15, u16, u17, u18, u19, u20, u21, u22, u23, u24, u25, u26, u27, u28, u29, u30, u31, u32, u33, u34, u35, u36, u37, u38, u39, u40], defers := [] } ∧ k ≤ ws.length ∧ ∀ i, i < k → decide (at0 ws i % pw n < n) = false

set_option maxHeartbeats 1000000 in
theorem below_calls (w : World) (x : Since w) (a : Option Addr) (ws : List Int) (cap : Nat) (n : Int) (hlen : ws.length ≤ 9223372036854775807) (hr : Row w a ws.length fun i => .int .u64 (at0 ws i)) (hw : ∀ i, 0 ≤ at0 ws i ∧ at0 ws i < 18446744073709551616) :
    Calls Tryd.prog 70 #[.slice a ws.length cap, .int .i64 n] x.w fun e w' => e = .returned (.tuple #[.int .i64 (bV ws n), .int .i64 (bU ws n), .int .i64 (bE ws n)]) ∧ ∃ y : Since w, w' = y.w := by
  by_cases hn : 1 ≤ n ∧ n ≤ 1125899906842624
  · obtain ⟨n0, n1⟩ := hn
    have hL := lenN_bd (n := (n - 1).toNat) (by omega)
    have hpb := pw_bd n0 n1
    go_enter Tryd.func70, Tryd.ntmps70
    go_wp2_with fail
    refine wp_scope_jumps 0 (BelowJ w a ws cap n) (fun a' _ => ws.length - (intOf (a'.tmps.getD 8 undef)).toNat) rfl ?_ ?_
    · go_wp2_with fail
      refine (len64_calls w x (n - 1) (by omega) (by omega)).mono ?_
      rintro _ _ ⟨rfl, y, rfl⟩
      have hmask := mask_eq hL
      rw [show ((2 ^ lenN (n - 1).toNat : Nat) : Int) = pw n from rfl] at hmask
      generalize lenN (n - 1).toNat = L at *
      go_wp2_with fail
      go_step3
      by_cases hlt : 0 < ws.length
      · obtain ⟨b, off, rfl, _, _⟩ := hr 0 hlt
        have hcell : ∀ y : Since w, y.w.cell? ⟨b, off, none⟩ = some (.int .u64 (at0 ws 0)) := fun y => by simpa using Since.at hr 0 hlt y
        have hand := and_pw (hw 0) n0 n1
        have hmb := pw_mod_bd (hw 0).1 n0 n1
        have hkl : ((0 : Int) == (ws.length : Int)) = false := by simp; omega
        clear hr hw
        by_cases hc : at0 ws 0 % pw n < n
        · have hres := Lib.hid (b_yes n0 n1 hlt (fun i hi => by omega) hc)
          generalize at0 ws 0 % pw n = M at *
          go_wp2_with fail
          simp only [Exit.jump]
          go_ret3
          exact ⟨ret_three hres.out.1 (by have := hres.out.2.1; simpa using this) hres.out.2.2, _, rfl⟩
        · have hno : ∀ i, i < 1 → decide (at0 ws i % pw n < n) = false := fun i hi => by
            obtain rfl : i = 0 := by omega
            exact decide_eq_false hc
          have Hno2 := Lib.hid hno; clear hno
          have hge : n ≤ at0 ws 0 % pw n := by omega
          clear hc
          generalize at0 ws 0 % pw n = M at *
          go_wp2_with fail
          go_step3
          exact ⟨rfl, ⟨_, rfl⟩, 1, _, _, _, _, _, _, _, _, _, _, _, _, _, _, _, _, _, _, _, _, _, _, _, _, _, _, _, _, _, _, _, _, _, _, rfl, by omega, Hno2.out⟩
      · have hkl : ((0 : Int) == (ws.length : Int)) = true := by simp; omega
        have hres := Lib.hid (b_no (ws := ws) n0 n1 (fun i hi => by omega))
        clear hr hw
        go_wp2_with fail
        simp only [Exit.jump]
        go_ret3
        exact ⟨ret_three hres.out.1 hres.out.2.1 hres.out.2.2, _, rfl⟩
    · rintro a' w' ⟨⟨y, rfl⟩, k, u2, u3, u9, u10, u11, u12, u13, u14, u15, u16, u17, u18, u19, u20, u21, u22, u23, u24, u25, u26, u27, u28, u29, u30, u31, u32, u33, u34, u35, u36, u37, u38, u39, u40, rfl, hk, hno⟩
      have Hno := Lib.hid hno; clear hno
      by_cases hlt : k < ws.length
      · obtain ⟨b, off, rfl, _, _⟩ := hr k hlt
        have hcell : ∀ y : Since w, y.w.cell? ⟨b, off + k, none⟩ = some (.int .u64 (at0 ws k)) := Since.at hr k hlt
        have hand := and_pw (hw k) n0 n1
        have hmb := pw_mod_bd (hw k).1 n0 n1
        have hkl : ((k : Int) == (ws.length : Int)) = false := by simp; omega
        clear hr hw
        by_cases hc : at0 ws k % pw n < n
        · have hres := Lib.hid (b_yes n0 n1 hlt Hno.out hc)
          generalize at0 ws k % pw n = M at *
          go_wp2_with fail
          simp only [Exit.jump]
          go_ret3
          exact ⟨ret_three hres.out.1 hres.out.2.1 hres.out.2.2, _, rfl⟩
        · have hno : ∀ i, i < k + 1 → decide (at0 ws i % pw n < n) = false := fun i hi => by
            by_cases hik : i < k
            · exact Hno.out i hik
            · obtain rfl : i = k := by omega
              exact decide_eq_false hc
          have Hno2 := Lib.hid hno; clear hno
          have hge : n ≤ at0 ws k % pw n := by omega
          clear hc
          generalize at0 ws k % pw n = M at *
          go_wp2_with fail
          go_step3
          exact ⟨rfl, ⟨⟨_, rfl⟩, k + 1, _, _, _, _, _, _, _, _, _, _, _, _, _, _, _, _, _, _, _, _, _, _, _, _, _, _, _, _, _, _, _, _, _, _, rfl, by omega, Hno2.out⟩, by simp [intOf]; omega⟩
      · obtain rfl : k = ws.length := by omega
        have hres := Lib.hid (b_no n0 n1 Hno.out)
        clear hr hw
        go_wp2_with fail
        simp only [Exit.jump]
        go_ret3
        exact ⟨ret_three hres.out.1 hres.out.2.1 hres.out.2.2, _, rfl⟩
  · have hres := Lib.hid (b_out (ws := ws) hn)
    rcases (by omega : n < 1 ∨ (1 ≤ n ∧ 1125899906842624 < n)) with h | ⟨h, h'⟩
    all_goals
      clear hn
      go_enter Tryd.func70, Tryd.ntmps70
      go_wp2_with fail
      go_step3
      go_wp2_with fail
      rw [Exit.noGoto_ret]
      go_ret3
      exact ⟨ret_three hres.out.1 hres.out.2.1 hres.out.2.2, _, rfl⟩
end Go.Proofs.YtdkcclngionihaaDoor
/- The walks of noise, eleventh part: the reference's Below. -/
namespace Go.Proofs.YtdkcclngionihaaDoor
open Go.RowKit

set_option maxHeartbeats 1000000 in
theorem rbelow_calls (w : World) (x : Since w) (a : Option Addr) (ws : List Int) (cap : Nat) (n : Int) (hlen : ws.length ≤ 9223372036854775807) (hr : Row w a ws.length fun i => .int .u64 (at0 ws i)) (hw : ∀ i, 0 ≤ at0 ws i ∧ at0 ws i < 18446744073709551616) :
    Calls Tryd.prog 73 #[.slice a ws.length cap, .int .i64 n] x.w fun e w' => e = .returned (.tuple #[.int .i64 (bV ws n), .int .i64 (bU ws n), .int .i64 (bE ws n)]) ∧ ∃ y : Since w, w' = y.w := by
  by_cases hn : 1 ≤ n ∧ n ≤ 1125899906842624
  · obtain ⟨n0, n1⟩ := hn
    have hpb := pw_bd n0 n1
    have d1 : decide (n < 1) = false := decide_eq_false (by omega)
    have d2 : decide (1125899906842624 < n) = false := decide_eq_false (by omega)
    go_enter Tryd.func73, Tryd.ntmps73
    go_wp2_with fail
    go_loopw [7] (fun i wr => ∃ k : Nat, k ≤ ws.length ∧ i = .int .i64 k ∧ (∀ i, i < k → decide (at0 ws i % pw n < n) = false) ∧ ∃ y : Since w, wr = y.w) (fun i _ => ws.length - (intOf i).toNat)
    case atStart => exact ⟨0, by omega, rfl, fun i hi => by omega, _, rfl⟩
    case round =>
      obtain ⟨k, hk, rfl, hno, y, rfl⟩ := hrel
      have Hno := Lib.hid hno; clear hno
      by_cases hlt : k < ws.length
      · obtain ⟨b, off, rfl, _, _⟩ := hr k hlt
        have hcell : ∀ y : Since w, y.w.cell? ⟨b, off + k, none⟩ = some (.int .u64 (at0 ws k)) := Since.at hr k hlt
        have hmb := pw_mod_bd (hw k).1 n0 n1
        have hw0 := hw k
        have hk0 : (0 : Int) ≤ (k : Int) := by omega
        have hkl : (k : Int) < (ws.length : Int) := by omega
        clear hr hw
        by_cases hc : at0 ws k % pw n < n
        · have hres := Lib.hid (b_yes n0 n1 hlt Hno.out hc)
          go_wp2_with fail
          refine wp_region_since (by kernel_rfl) (by kernel_rfl) ?_
          repeat (go_big_quiet_step ((go_at_call 91; exact power_calls w _ n n0 n1)))
          refine wpQuiet_nil ?_
          rintro _ ⟨y, rfl⟩
          go_wp2_with fail
          go_ret3
          exact ⟨ret_three hres.out.1 hres.out.2.1 hres.out.2.2, _, rfl⟩
        · have hno : ∀ i, i < k + 1 → decide (at0 ws i % pw n < n) = false := fun i hi => by
            by_cases hik : i < k
            · exact Hno.out i hik
            · obtain rfl : i = k := by omega
              exact decide_eq_false hc
          have Hno2 := Lib.hid hno; clear hno
          have hge : n ≤ at0 ws k % pw n := by omega
          clear hc
          go_wp2_with fail
          refine wp_region_since (by kernel_rfl) (by kernel_rfl) ?_
          repeat (go_big_quiet_step ((go_at_call 91; exact power_calls w _ n n0 n1)))
          refine wpQuiet_nil ?_
          rintro _ ⟨y, rfl⟩
          go_wp2_with fail
          go_roundw
          case rel => exact ⟨k + 1, by omega, by go_num, Hno2.out, _, rfl⟩
          case measure => simp [intOf]; omega
      · obtain rfl : k = ws.length := by omega
        have hres := Lib.hid (b_no n0 n1 Hno.out)
        clear hr hw
        go_wp2_with fail
        go_ret3
        exact ⟨ret_three hres.out.1 hres.out.2.1 hres.out.2.2, _, rfl⟩
  · have hres := Lib.hid (b_out (ws := ws) hn)
    rcases (by omega : n < 1 ∨ (1 ≤ n ∧ 1125899906842624 < n)) with h | ⟨h, h'⟩
    all_goals
      clear hn
      go_enter Tryd.func73, Tryd.ntmps73
      go_wp2_with fail
      go_ret3
      exact ⟨ret_three hres.out.1 hres.out.2.1 hres.out.2.2, _, rfl⟩
end Go.Proofs.YtdkcclngionihaaDoor
/- The plain mathematics of Add: which words are used, what comes out. -/
namespace Go.Proofs.YtdkcclngionihaaDoor

theorem at0_drop (l : List Int) (u i : Nat) : at0 (l.drop u) i = at0 l (u + i) := by
  unfold at0; simp [List.getD_eq_getElem?_getD, List.getElem?_drop]
/-- how many words k numbers use -/
def us (t : Int) (ws : List Int) : Nat → Nat
  | 0 => 0
  | k + 1 => us t ws k + (bI (ws.drop (us t ws k)) t + 1)
def okw (t : Int) (ws : List Int) (k : Nat) : Prop := bE (ws.drop (us t ws k)) t = 0
noncomputable def outv (l xs ws : List Int) (k : Nat) : Int := at0 xs k + atV l (bV (ws.drop (us (total l) ws k)) (total l))
noncomputable def outL (l xs ws : List Int) (n : Nat) : List Int := (List.range n).map (outv l xs ws)
theorem outL_length (l xs ws : List Int) (n : Nat) : (outL l xs ws n).length = n := by simp [outL]
theorem outL_at {l xs ws : List Int} {n i : Nat} (h : i < n) : at0 (outL l xs ws n) i = outv l xs ws i := by
  unfold at0 outL; rw [List.getD_eq_getElem?_getD]; simp [List.getElem?_range h]
theorem outL_succ (l xs ws : List Int) (n : Nat) : outL l xs ws (n + 1) = outL l xs ws n ++ [outv l xs ws n] := by simp [outL, List.range_succ]
def InR (xs : List Int) : Prop := ∀ i, i < xs.length → -1000000 ≤ at0 xs i ∧ at0 xs i ≤ 1000000
noncomputable def addE (l xs ws : List Int) : Int := open Classical in
  if ¬ Good l then 32 else if 512 < xs.length then 8 else if ¬ InR xs then 1 else if ∀ k, k < xs.length → okw (total l) ws k then 0 else 4
theorem addE_bad {l : List Int} (h : ¬ Good l) (xs ws : List Int) : addE l xs ws = 32 := by unfold addE; simp [h]
theorem addE_full {l xs : List Int} (h : Good l) (h2 : 512 < xs.length) (ws : List Int) : addE l xs ws = 8 := by unfold addE; simp [h, h2]
theorem addE_range {l xs : List Int} (h : Good l) (h2 : ¬ 512 < xs.length) (h3 : ¬ InR xs) (ws : List Int) : addE l xs ws = 1 := by unfold addE; simp [h, h2, h3]
theorem addE_short {l xs ws : List Int} (h : Good l) (h2 : ¬ 512 < xs.length) (h3 : InR xs) {k : Nat} (hk : k < xs.length) (h4 : ¬ okw (total l) ws k) : addE l xs ws = 4 := by
  have : ¬ ∀ k, k < xs.length → okw (total l) ws k := fun h => h4 (h k hk)
  unfold addE; simp only [h, h2, h3, this]; simp
theorem addE_ok {l xs ws : List Int} (h : Good l) (h2 : ¬ 512 < xs.length) (h3 : InR xs) (h4 : ∀ k, k < xs.length → okw (total l) ws k) : addE l xs ws = 0 := by
  unfold addE; simp only [h, h2, h3]; simp; exact h4
theorem addE_zero {l xs ws : List Int} (h : addE l xs ws = 0) : Good l ∧ ¬ 512 < xs.length ∧ InR xs ∧ ∀ k, k < xs.length → okw (total l) ws k := by
  by_cases h1 : Good l
  · by_cases h2 : 512 < xs.length
    · rw [addE_full h1 h2] at h; omega
    · by_cases h3 : InR xs
      · refine ⟨h1, h2, h3, fun k hk => ?_⟩
        by_cases h4 : okw (total l) ws k
        · exact h4
        · rw [addE_short h1 h2 h3 hk h4] at h; omega
      · rw [addE_range h1 h2 h3] at h; omega
  · rw [addE_bad h1] at h; omega
theorem bE_zero {ws : List Int} {n : Int} (h : bE ws n = 0) : 1 ≤ n ∧ n ≤ 1125899906842624 ∧ bI ws n < ws.length := by
  unfold bE at h
  split at h
  · rename_i h1; split at h
    · rename_i h2; exact ⟨h1.1, h1.2, h2⟩
    · omega
  · omega
theorem firstN_hit (q : Nat → Bool) (n : Nat) (h : firstN q n < n) : q (firstN q n) = true := by
  induction n with
  | zero => omega
  | succ n ih =>
    unfold firstN at h ⊢
    split
    · rename_i h1; exact ih h1
    · rename_i h1; rw [if_neg h1] at h; split at h
      · rename_i h2; rw [if_pos h2]; exact h2
      · omega
theorem bV_bd {ws : List Int} {n : Int} (hw : ∀ i, 0 ≤ at0 ws i ∧ at0 ws i < 18446744073709551616) (h : bE ws n = 0) : 0 ≤ bV ws n ∧ bV ws n < n := by
  obtain ⟨h0, h1, h2⟩ := bE_zero h
  have hq := firstN_hit _ _ h2
  simp only [decide_eq_true_eq] at hq
  unfold bV; rw [if_pos h]
  exact ⟨(pw_mod_bd (hw _).1 h0 h1).1, hq⟩
theorem us_le {t : Int} {ws : List Int} {n : Nat} (h : ∀ k, k < n → okw t ws k) : us t ws n ≤ ws.length := by
  induction n with
  | zero => simp [us]
  | succ n ih =>
    have h1 := ih (fun k hk => h k (by omega))
    have h2 := (bE_zero (h n (by omega))).2.2
    rw [List.length_drop] at h2
    unfold us; omega
theorem bU_eq {ws : List Int} {n : Int} (h : bE ws n = 0) : bU ws n = (bI ws n : Int) + 1 := by unfold bU; rw [if_pos h]
end Go.Proofs.YtdkcclngionihaaDoor
/- The walks of noise, twelfth part: Add. -/
namespace Go.Proofs.YtdkcclngionihaaDoor
open Go.RowKit

/-- what Add gives back -/
def Added (w0 : World) (l xs ws : List Int) (e : Ending) (w' : World) : Prop :=
  if addE l xs ws = 0 then ∃ v, e = .returned (.tuple #[v, .int .i64 (us (total l) ws xs.length), .int .i64 0]) ∧ NewInts w0 (outL l xs ws xs.length) v w'
  else e = .returned (.tuple #[.slice none 0 0, .int .i64 0, .int .i64 (addE l xs ws)]) ∧ ∃ y : Since w0, w' = y.w
theorem Added.fail {w0 : World} {l xs ws : List Int} {n : Int} (h : addE l xs ws = n) (hn : n ≠ 0) {w' : World} (hw : ∃ y : Since w0, w' = y.w) : Added w0 l xs ws (.returned (.tuple #[.slice none 0 0, .int .i64 0, .int .i64 n])) w' := by
  unfold Added; rw [if_neg (by omega), h]; exact ⟨rfl, hw⟩
theorem Added.done {w0 w' : World} {l xs ws : List Int} {base : Nat} {v : Value} (h : addE l xs ws = 0) (hown : w'.ownsRow base 3 1 v xs.length ((outL l xs ws xs.length).map (.int .i64))) (hw : ∃ y : Since w0, w' = y.w) :
    Added w0 l xs ws (.returned (.tuple #[v, .int .i64 (us (total l) ws xs.length), .int .i64 0])) w' := by
  unfold Added; rw [if_pos h]
  obtain ⟨a, cap, rfl, hcap, hrow, _⟩ := own_row hown
  obtain ⟨y, rfl⟩ := hw
  refine ⟨_, rfl, a, cap, by rw [outL_length], by rw [outL_length]; exact hcap, y, rfl, ?_⟩
  intro i hi
  rw [outL_length] at hi
  obtain ⟨b, off, h1, h2, h3⟩ := hrow i hi
  exact ⟨b, off, h1, h2, by rw [h3]; exact congrArg some (nmap_at (outL_length _ _ _ _) hi)⟩
theorem cell_drop {w : World} {a : Option Addr} {ws : List Int} (h : Row w a ws.length fun i => .int .u64 (at0 ws i)) (u cap : Nat) (hc : ws.length ≤ cap) : Row w (cutA a u cap 1) (ws.drop u).length fun i => .int .u64 (at0 (ws.drop u) i) := by
  have := h.cut u cap hc
  rw [List.length_drop]
  intro i hi
  obtain ⟨b, off, h1, h2, h3⟩ := this i hi
  exact ⟨b, off, h1, h2, by rw [h3]; simp only [at0_drop]⟩

theorem next_all {p : Nat → Prop} {k : Nat} (h : ∀ j, j < k → p j) (hk : p k) : ∀ j, j < k + 1 → p j := fun j hj => by
  by_cases hjk : j < k
  · exact h j hjk
  · obtain rfl : j = k := by omega
    exact hk
end Go.Proofs.YtdkcclngionihaaDoor
