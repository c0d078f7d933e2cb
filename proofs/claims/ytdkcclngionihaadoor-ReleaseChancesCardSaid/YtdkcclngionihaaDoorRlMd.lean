/- The walks of noise, first part: checks, weights, ratios. -/
import Derived.Test.YtdkcclngionihaaDoorRlMc
import Derived.Test.YtdkcclngionihaaDoorRows
import Derived.Deep.QuietTactic
import Derived.BigQuiet
import Derived.Shelf.SlSortCmp.NoneTotal
import Derived.Test.YtdkcclngionihaaDoorProg
import Derived.IntWalk
namespace Go.Proofs.YtdkcclngionihaaDoor
open Go.RowKit

theorem bad_at {l : List Int} {k : Nat} (hk : k < l.length) (h : ¬ okAt l k) : check l = 32 := check_bad fun hg => h (hg.2.2 k hk)
theorem next_ok {l : List Int} {k : Nat} (hok : ∀ j, j < k → okAt l j) (h : okAt l k) : ∀ j, j < k + 1 → okAt l j := fun j hj => by
  by_cases hjk : j < k
  · exact hok j hjk
  · obtain rfl : j = k := by omega
    exact h

set_option maxHeartbeats 400000 in
theorem ncheck_calls (w : World) (x : Since w) (a : Option Addr) (l : List Int) (cap : Nat) (hlen : l.length ≤ 9223372036854775807) (hr : IntRow w a l) :
    Calls Tryd.prog 37 #[.agg #[.slice a l.length cap]] x.w fun e w' => e = .returned (.int .i64 (check l)) ∧ ∃ y : Since w, w' = y.w := by
  by_cases h : 1 ≤ l.length ∧ l.length ≤ 33
  · obtain ⟨h1, h2⟩ := h
    have c1 : decide ((l.length : Int) < 1) = false := decide_eq_false (by omega)
    have c2 : decide ((33 : Int) < (l.length : Int)) = false := decide_eq_false (by omega)
    go_enter Tryd.func37, Tryd.ntmps37
    go_wp2
    have hbx : ∀ y : Since (x.w.alloc (.cells #[.slice a l.length cap] 34)), y.w.cell? ⟨x.w.heap.size, 0, none⟩ = some (.slice a l.length cap) := fun y => Since.cell (by simp [go_sem]) (by simp) y
    have hWup : ∃ z : Since w, (x.w.alloc (.cells #[.slice a l.length cap] 34)) = z.w := x.alloc _
    obtain ⟨y0, hy0⟩ := Since.refl (x.w.alloc (.cells #[.slice a l.length cap] 34))
    generalize hW : x.w.alloc (.cells #[.slice a l.length cap] 34) = W at *
    clear hW
    have Hup := Lib.hid (Since.up hWup)
    rw [hy0]
    clear hy0
    replace hr := hr.to hWup
    clear hWup
    go_loopw [18] (fun i wr => ∃ k : Nat, k ≤ l.length ∧ i = .int .i64 k ∧ (∀ j, j < k → okAt l j) ∧ ∃ y : Since W, wr = y.w) (fun i _ => l.length - (intOf i).toNat)
    case atStart => exact ⟨0, by omega, rfl, fun j hj => by omega, _, rfl⟩
    case round =>
      obtain ⟨k, hk, rfl, hok, y, rfl⟩ := hrel
      have Hok := Lib.hid hok; clear hok
      by_cases hlt : k < l.length
      · obtain ⟨b, off, rfl, _, _⟩ := hr k hlt
        have hcell : ∀ y : Since W, y.w.cell? ⟨b, off + k, none⟩ = some (.int .i64 (at0 l k)) := Since.at hr k hlt
        have hcell' : 0 < k → ∀ y : Since W, y.w.cell? ⟨b, off + (k - 1), none⟩ = some (.int .i64 (at0 l (k-1))) := fun h0 => Since.at hr (k-1) (by omega)
        clear hr
        go_wp2
        all_goals first
          | (go_ret
             exact ⟨ret_int (bad_at hlt (by unfold okAt; omega)).symm, Hup.out _⟩)
          | (go_roundw
             case rel => exact ⟨k + 1, by omega, by go_num, next_ok Hok.out (by unfold okAt; omega), _, rfl⟩
             case measure => simp [intOf]; omega)
      · go_wp2
        go_ret
        exact ⟨ret_int (check_good ⟨h1, h2, fun i hi => Hok.out i (by omega)⟩).symm, Hup.out _⟩
  · have hn : ¬ Good l := fun hg => h ⟨hg.1, hg.2.1⟩
    by_cases h1 : l.length < 1
    · go_enter Tryd.func37, Tryd.ntmps37
      go_wp2
      go_ret
      exact ⟨ret_int (check_bad hn).symm, x.alloc _⟩
    · have h33 : 33 < l.length := by omega
      go_enter Tryd.func37, Tryd.ntmps37
      go_wp2
      go_ret
      exact ⟨ret_int (check_bad hn).symm, x.alloc _⟩

set_option maxHeartbeats 1000000 in
theorem nrcheck_calls (w : World) (x : Since w) (a : Option Addr) (l : List Int) (cap : Nat) (hlen : l.length ≤ 9223372036854775807) (hr : IntRow w a l) :
    Calls Tryd.prog 40 #[.agg #[.slice a l.length cap]] x.w fun e w' => e = .returned (.int .i64 (check l)) ∧ ∃ y : Since w, w' = y.w := by
  by_cases h : 1 ≤ l.length ∧ l.length ≤ 33
  · obtain ⟨h1, h2⟩ := h
    have c1 : decide ((l.length : Int) < 1) = false := decide_eq_false (by omega)
    have c2 : decide ((33 : Int) < (l.length : Int)) = false := decide_eq_false (by omega)
    go_enter Tryd.func40, Tryd.ntmps40
    go_wp2
    have hbx : ∀ y : Since (x.w.alloc (.cells #[.slice a l.length cap] 34)), y.w.cell? ⟨x.w.heap.size, 0, none⟩ = some (.slice a l.length cap) := fun y => Since.cell (by simp [go_sem]) (by simp) y
    have hWup : ∃ z : Since w, (x.w.alloc (.cells #[.slice a l.length cap] 34)) = z.w := x.alloc _
    obtain ⟨y0, hy0⟩ := Since.refl (x.w.alloc (.cells #[.slice a l.length cap] 34))
    generalize hW : x.w.alloc (.cells #[.slice a l.length cap] 34) = W at *
    clear hW
    have Hup := Lib.hid (Since.up hWup)
    rw [hy0]
    clear hy0
    replace hr := hr.to hWup
    clear hWup
    go_loopw [3] (fun i wr => ∃ k : Nat, k ≤ l.length ∧ i = .int .i64 k ∧ (∀ j, j < k → okAt l j) ∧ ∃ y : Since W, wr = y.w) (fun i _ => l.length - (intOf i).toNat)
    case atStart => exact ⟨0, by omega, rfl, fun j hj => by omega, _, rfl⟩
    case round =>
      obtain ⟨k, hk, rfl, hok, y, rfl⟩ := hrel
      have Hok := Lib.hid hok; clear hok
      by_cases hlt : k < l.length
      · obtain ⟨b, off, rfl, _, _⟩ := hr k hlt
        have hcell : ∀ y : Since W, y.w.cell? ⟨b, off + k, none⟩ = some (.int .i64 (at0 l k)) := Since.at hr k hlt
        have hcell' : 0 < k → ∀ y : Since W, y.w.cell? ⟨b, off + (k - 1), none⟩ = some (.int .i64 (at0 l (k-1))) := fun h0 => Since.at hr (k-1) (by omega)
        have hk0 : (0 : Int) ≤ (k : Int) := by omega
        have hkl : (k : Int) < (l.length : Int) := by omega
        clear hr
        rcases chk_cases l k with h | ⟨h, h'⟩ | ⟨h, h', h0⟩ | ⟨h, h', h'', h3⟩ | ⟨h, h', h'', h3⟩
        · have d1 : decide (at0 l k < 1) = true := decide_eq_true h
          go_wp2
          refine wp_region_since (by kernel_rfl) (by kernel_rfl) ?_
          repeat (go_big_quiet_step (fail))
          refine wpQuiet_nil ?_
          rintro _ ⟨y, rfl⟩
          go_wp2
          go_ret
          exact ⟨ret_int (bad_at hlt (by unfold okAt; omega)).symm, Hup.out _⟩
        · have d1 : decide (at0 l k < 1) = false := decide_eq_false (by omega)
          have d2 : decide (16777216 < at0 l k) = true := decide_eq_true h'
          go_wp2
          refine wp_region_since (by kernel_rfl) (by kernel_rfl) ?_
          repeat (go_big_quiet_step (fail))
          refine wpQuiet_nil ?_
          rintro _ ⟨y, rfl⟩
          go_wp2
          go_ret
          exact ⟨ret_int (bad_at hlt (by unfold okAt; omega)).symm, Hup.out _⟩
        · have d1 : decide (at0 l k < 1) = false := decide_eq_false (by omega)
          have d2 : decide (16777216 < at0 l k) = false := decide_eq_false (by omega)
          have d3 : decide (0 < k) = false := decide_eq_false (by omega)
          have H0 := Lib.hid h0; clear h0
          go_wp2
          refine wp_region_since (by kernel_rfl) (by kernel_rfl) ?_
          repeat (go_big_quiet_step (fail))
          refine wpQuiet_nil ?_
          rintro _ ⟨y, rfl⟩
          go_wp2
          go_roundw
          case rel => exact ⟨k + 1, by omega, by go_num, next_ok Hok.out (by have := H0.out; unfold okAt; omega), _, rfl⟩
          case measure => simp [intOf]; omega
        · have d1 : decide (at0 l k < 1) = false := decide_eq_false (by omega)
          have d2 : decide (16777216 < at0 l k) = false := decide_eq_false (by omega)
          have d3 : decide (0 < (k : Int)) = true := decide_eq_true (by omega)
          have d4 : decide (at0 l (k-1) < at0 l k) = true := decide_eq_true h3
          go_wp2
          refine wp_region_since (by kernel_rfl) (by kernel_rfl) ?_
          repeat (go_big_quiet_step (fail))
          refine wpQuiet_nil ?_
          rintro _ ⟨y, rfl⟩
          go_wp2
          go_ret
          exact ⟨ret_int (bad_at hlt (by unfold okAt; omega)).symm, Hup.out _⟩
        · have d1 : decide (at0 l k < 1) = false := decide_eq_false (by omega)
          have d2 : decide (16777216 < at0 l k) = false := decide_eq_false (by omega)
          have d3 : decide (0 < (k : Int)) = true := decide_eq_true (by omega)
          have d4 : decide (at0 l (k-1) < at0 l k) = false := decide_eq_false (by omega)
          go_wp2
          refine wp_region_since (by kernel_rfl) (by kernel_rfl) ?_
          repeat (go_big_quiet_step (fail))
          refine wpQuiet_nil ?_
          rintro _ ⟨y, rfl⟩
          go_wp2
          go_roundw
          case rel => exact ⟨k + 1, by omega, by go_num, next_ok Hok.out (by unfold okAt; omega), _, rfl⟩
          case measure => simp [intOf]; omega
      · go_wp2
        go_ret
        exact ⟨ret_int (check_good ⟨h1, h2, fun i hi => Hok.out i (by omega)⟩).symm, Hup.out _⟩
  · have hn : ¬ Good l := fun hg => h ⟨hg.1, hg.2.1⟩
    by_cases h1 : l.length < 1
    · go_enter Tryd.func40, Tryd.ntmps40
      go_wp2
      go_ret
      exact ⟨ret_int (check_bad hn).symm, x.alloc _⟩
    · have h33 : 33 < l.length := by omega
      go_enter Tryd.func40, Tryd.ntmps40
      go_wp2
      go_ret
      exact ⟨ret_int (check_bad hn).symm, x.alloc _⟩
end Go.Proofs.YtdkcclngionihaaDoor
/- The walks of noise, second part: weights, ratios. -/
namespace Go.Proofs.YtdkcclngionihaaDoor
open Go.RowKit

/-- the table of signs is as the text lays it -/
def Signs (w : World) : Prop := 0 < w.heap.size ∧ w.cell? ⟨0, 0, none⟩ = some (.int .i64 (-1)) ∧ w.cell? ⟨0, 1, none⟩ = some (.int .i64 1)
theorem Signs.to {w W : World} (h : Signs w) (hW : ∃ z : Since w, W = z.w) : Signs W := by
  obtain ⟨z, rfl⟩ := hW
  exact ⟨Nat.lt_of_lt_of_le h.1 z.b.size, Since.cell h.2.1 h.1 z, Since.cell h.2.2 h.1 z⟩
theorem Signs.at {w : World} (h : Signs w) (y : Since w) : y.w.cell? ⟨0, 0, none⟩ = some (.int .i64 (-1)) ∧ y.w.cell? ⟨0, 1, none⟩ = some (.int .i64 1) :=
  ⟨Since.cell h.2.1 h.1 y, Since.cell h.2.2 h.1 y⟩

set_option maxHeartbeats 1000000 in
theorem wt_calls (w : World) (x : Since w) (hs : Signs w) (a : Option Addr) (l : List Int) (cap : Nat) (v : Int) (hv : I64 v) (hlen : l.length ≤ 9223372036854775807) (hr : IntRow w a l) :
    Calls Tryd.prog 60 #[.agg #[.slice a l.length cap], .int .i64 v] x.w fun e w' => e = .returned (.int .i64 (wt l v)) ∧ ∃ y : Since w, w' = y.w := by
  obtain ⟨v0, v1⟩ := hv
  have i0 : ∀ w, (Instr.index 109 (.agg #[.int .i64 (-1), .int .i64 1]) (.int .i64 0)).run Tryd.prog w = .ok (.int .i64 (-1)) w := fun _ => by kernel_rfl
  have i1 : ∀ w, (Instr.index 109 (.agg #[.int .i64 (-1), .int .i64 1]) (.int .i64 1)).run Tryd.prog w = .ok (.int .i64 1) w := fun _ => by kernel_rfl
  go_enter Tryd.func60, Tryd.ntmps60
  go_upto_region 1 with fail
  have hbx : ∀ y : Since (x.w.alloc (.cells #[.slice a l.length cap] 34)), y.w.cell? ⟨x.w.heap.size, 0, none⟩ = some (.slice a l.length cap) := fun y => Since.cell (by simp [go_sem]) (by simp) y
  have hWup : ∃ z : Since w, (x.w.alloc (.cells #[.slice a l.length cap] 34)) = z.w := x.alloc _
  obtain ⟨y0, hy0⟩ := Since.refl (x.w.alloc (.cells #[.slice a l.length cap] 34))
  generalize hW : x.w.alloc (.cells #[.slice a l.length cap] 34) = W at *
  clear hW
  have Hup := Lib.hid (Since.up hWup)
  rw [hy0]
  clear hy0
  replace hr := hr.to hWup
  replace hs := hs.to hWup
  clear hWup
  have s0 : ∀ y : Since W, y.w.cell? ⟨0, 0, none⟩ = some (.int .i64 (-1)) := fun y => (hs.at y).1
  have s1 : ∀ y : Since W, y.w.cell? ⟨0, 1, none⟩ = some (.int .i64 1) := fun y => (hs.at y).2
  go_wp2
  go_loop [9] (fun i => ∃ k : Nat, k ≤ 2 ∧ i = .int .i64 k ∧ (1 ≤ k → 0 < v ∨ l.length ≤ v.natAbs) ∧ (2 ≤ k → v < 0 ∨ l.length ≤ v.natAbs)) (fun i => 2 - (intOf i).toNat)
  case atStart => exact ⟨0, by omega, rfl, by omega, by omega⟩
  case round =>
    obtain ⟨k, hk, rfl, h1, h2⟩ := hrel
    have H1 := Lib.hid h1; have H2 := Lib.hid h2; clear h1 h2
    by_cases hk2 : k = 2
    · subst hk2
      go_wp2
      go_ret
      exact ⟨ret_int (wt_out (by have := H1.out; have := H2.out; omega)).symm, Hup.out _⟩
    · have hmin : v = -9223372036854775808 → wrap64 (-v) = v := fun h => by subst h; kernel_rfl
      have Hmin := Lib.hid hmin; clear hmin
      by_cases hk0 : k = 0
      · subst hk0
        by_cases c1 : v ≤ 0 ∧ -v < l.length
        · obtain ⟨m, rfl⟩ : ∃ m : Nat, v = -(m : Int) := ⟨(-v).toNat, by omega⟩
          have hm : m < l.length := by omega
          obtain ⟨b, off, rfl, _, _⟩ := hr m hm
          have hcell : ∀ y : Since W, y.w.cell? ⟨b, off + m, none⟩ = some (.int .i64 (at0 l m)) := Since.at hr m hm
          have H := Lib.hid c1; clear hr hk2 c1
          go_wp2
          go_ret
          exact ⟨ret_int (by rw [wt_in (by omega)]; congr 1; omega), Hup.out _⟩
        · have hrel1 : 0 < v ∨ l.length ≤ v.natAbs := by omega
          have H := Lib.hid hrel1
          by_cases c2 : v = -9223372036854775808
          · have hw := Hmin.out c2
            have hneg : v < 0 := by omega
            clear hr hk2 c1 c2 hrel1
            go_wp2
            go_round
            case rel => exact ⟨1, by omega, rfl, fun _ => H.out, by omega⟩
            case measure => simp [intOf]
          · have c2' : -9223372036854775808 < v := by omega
            clear hr hk2 c2
            by_cases c3 : 0 < v
            · clear c1 hrel1
              go_wp2
              go_round
              case rel => exact ⟨1, by omega, rfl, fun _ => H.out, by omega⟩
              case measure => simp [intOf]
            · have c4 : (l.length : Int) ≤ -v := by omega
              clear c1 hrel1
              go_wp2
              go_round
              case rel => exact ⟨1, by omega, rfl, fun _ => H.out, by omega⟩
              case measure => simp [intOf]
      · obtain rfl : k = 1 := by omega
        by_cases c1 : 0 ≤ v ∧ v < l.length
        · obtain ⟨m, rfl⟩ : ∃ m : Nat, v = (m : Int) := ⟨v.toNat, by omega⟩
          have hm : m < l.length := by omega
          obtain ⟨b, off, rfl, _, _⟩ := hr m hm
          have hcell : ∀ y : Since W, y.w.cell? ⟨b, off + m, none⟩ = some (.int .i64 (at0 l m)) := Since.at hr m hm
          have H := Lib.hid c1; clear hr hk2 c1
          go_wp2
          go_ret
          exact ⟨ret_int (by rw [wt_in (by omega)]; congr 1), Hup.out _⟩
        · have hrel2 : v < 0 ∨ l.length ≤ v.natAbs := by omega
          have H := Lib.hid hrel2
          by_cases c3 : v < 0
          · clear c1 hrel2 hr
            go_wp2
            go_round
            case rel => exact ⟨2, by omega, rfl, fun _ => H1.out (by omega), fun _ => H.out⟩
            case measure => simp [intOf]
          · have c4 : (l.length : Int) ≤ v := by omega
            clear c1 hrel2 hr
            go_wp2
            go_round
            case rel => exact ⟨2, by omega, rfl, fun _ => H1.out (by omega), fun _ => H.out⟩
            case measure => simp [intOf]
end Go.Proofs.YtdkcclngionihaaDoor
/- The walks of noise, third part: Weight, ratios. -/
namespace Go.Proofs.YtdkcclngionihaaDoor
open Go.RowKit

set_option maxHeartbeats 1000000 in
theorem weight_calls (w : World) (x : Since w) (hs : Signs w) (a : Option Addr) (l : List Int) (cap : Nat) (v : Int) (hv : I64 v) (hlen : l.length ≤ 9223372036854775807) (hr : IntRow w a l) :
    Calls Tryd.prog 38 #[.agg #[.slice a l.length cap], .int .i64 v] x.w fun e w' => e = .returned (.int .i64 (weight l v)) ∧ ∃ y : Since w, w' = y.w := by
  by_cases hg : Good l
  · have hg0 : check l = 0 := check_good hg
    have hgw := weight_good hg v
    go_enter Tryd.func38, Tryd.ntmps38
    go_upto_region 1 with fail
    have hbx : ∀ y : Since (x.w.alloc (.cells #[.slice a l.length cap] 34)), y.w.cell? ⟨x.w.heap.size, 0, none⟩ = some (.slice a l.length cap) := fun y => Since.cell (by simp [go_sem]) (by simp) y
    have hWup : ∃ z : Since w, (x.w.alloc (.cells #[.slice a l.length cap] 34)) = z.w := x.alloc _
    obtain ⟨y0, hy0⟩ := Since.refl (x.w.alloc (.cells #[.slice a l.length cap] 34))
    generalize hW : x.w.alloc (.cells #[.slice a l.length cap] 34) = W at *
    clear hW
    generalize x.w.heap.size = bx at *
    have Hup := Lib.hid (Since.up hWup)
    rw [hy0]
    clear hy0
    replace hr := hr.to hWup
    replace hs := hs.to hWup
    clear hWup
    go_wp2_with fail
    refine (ncheck_calls W _ a l cap hlen hr).mono ?_
    rintro _ _ ⟨rfl, y, rfl⟩
    go_wp2_with fail
    refine (wt_calls W _ hs a l cap v hv hlen hr).mono ?_
    rintro _ _ ⟨rfl, y, rfl⟩
    go_wp2_with fail
    go_ret
    exact ⟨ret_int hgw.symm, Hup.out _⟩
  · have hg0 : check l = 32 := check_bad hg
    have hgw := weight_bad hg v
    go_enter Tryd.func38, Tryd.ntmps38
    go_upto_region 1 with fail
    have hbx : ∀ y : Since (x.w.alloc (.cells #[.slice a l.length cap] 34)), y.w.cell? ⟨x.w.heap.size, 0, none⟩ = some (.slice a l.length cap) := fun y => Since.cell (by simp [go_sem]) (by simp) y
    have hWup : ∃ z : Since w, (x.w.alloc (.cells #[.slice a l.length cap] 34)) = z.w := x.alloc _
    obtain ⟨y0, hy0⟩ := Since.refl (x.w.alloc (.cells #[.slice a l.length cap] 34))
    generalize hW : x.w.alloc (.cells #[.slice a l.length cap] 34) = W at *
    clear hW
    generalize x.w.heap.size = bx at *
    have Hup := Lib.hid (Since.up hWup)
    rw [hy0]
    clear hy0
    replace hr := hr.to hWup
    clear hWup
    go_wp2_with fail
    refine (ncheck_calls W _ a l cap hlen hr).mono ?_
    rintro _ _ ⟨rfl, y, rfl⟩
    go_wp2_with fail
    go_ret
    exact ⟨ret_int hgw.symm, Hup.out _⟩

set_option maxHeartbeats 1000000 in
theorem rweight_calls (w : World) (x : Since w) (a : Option Addr) (l : List Int) (cap : Nat) (v : Int) (hv : I64 v) (hlen : l.length ≤ 9223372036854775807) (hr : IntRow w a l) :
    Calls Tryd.prog 41 #[.agg #[.slice a l.length cap], .int .i64 v] x.w fun e w' => e = .returned (.int .i64 (weight l v)) ∧ ∃ y : Since w, w' = y.w := by
  obtain ⟨v0, v1⟩ := hv
  by_cases hg : Good l
  · have hg0 : check l = 0 := check_good hg
    have hgw := weight_good hg v
    have hl33 := hg.2.1
    clear hg
    rcases (by omega : v < -32 ∨ 32 < v ∨ (-32 ≤ v ∧ v < 0 ∧ (l.length : Int) ≤ -v) ∨ (0 ≤ v ∧ v ≤ 32 ∧ (l.length : Int) ≤ v) ∨ (-32 ≤ v ∧ v < 0 ∧ -v < (l.length : Int)) ∨ (0 ≤ v ∧ v ≤ 32 ∧ v < (l.length : Int))) with c | c | ⟨c, c', c''⟩ | ⟨c, c', c''⟩ | ⟨c, c', c''⟩ | ⟨c, c', c''⟩
    · have hw := Lib.hid (hgw.trans (wt_out (l := l) (v := v) (by omega)))
      clear hgw
      go_enter Tryd.func41, Tryd.ntmps41
      go_upto_region 1 with fail
      have hbx : ∀ y : Since (x.w.alloc (.cells #[.slice a l.length cap] 34)), y.w.cell? ⟨x.w.heap.size, 0, none⟩ = some (.slice a l.length cap) := fun y => Since.cell (by simp [go_sem]) (by simp) y
      have hWup : ∃ z : Since w, (x.w.alloc (.cells #[.slice a l.length cap] 34)) = z.w := x.alloc _
      obtain ⟨y0, hy0⟩ := Since.refl (x.w.alloc (.cells #[.slice a l.length cap] 34))
      generalize hW : x.w.alloc (.cells #[.slice a l.length cap] 34) = W at *
      clear hW
      generalize x.w.heap.size = bx at *
      have Hup := Lib.hid (Since.up hWup)
      rw [hy0]
      clear hy0
      replace hr := hr.to hWup
      clear hWup
      go_wp2_with fail
      refine (nrcheck_calls W _ a l cap hlen hr).mono ?_
      rintro _ _ ⟨rfl, y, rfl⟩
      go_wp2_with fail
      go_ret
      exact ⟨ret_int hw.out.symm, Hup.out _⟩
    · have hw := Lib.hid (hgw.trans (wt_out (l := l) (v := v) (by omega)))
      clear hgw
      go_enter Tryd.func41, Tryd.ntmps41
      go_upto_region 1 with fail
      have hbx : ∀ y : Since (x.w.alloc (.cells #[.slice a l.length cap] 34)), y.w.cell? ⟨x.w.heap.size, 0, none⟩ = some (.slice a l.length cap) := fun y => Since.cell (by simp [go_sem]) (by simp) y
      have hWup : ∃ z : Since w, (x.w.alloc (.cells #[.slice a l.length cap] 34)) = z.w := x.alloc _
      obtain ⟨y0, hy0⟩ := Since.refl (x.w.alloc (.cells #[.slice a l.length cap] 34))
      generalize hW : x.w.alloc (.cells #[.slice a l.length cap] 34) = W at *
      clear hW
      generalize x.w.heap.size = bx at *
      have Hup := Lib.hid (Since.up hWup)
      rw [hy0]
      clear hy0
      replace hr := hr.to hWup
      clear hWup
      go_wp2_with fail
      refine (nrcheck_calls W _ a l cap hlen hr).mono ?_
      rintro _ _ ⟨rfl, y, rfl⟩
      go_wp2_with fail
      go_ret
      exact ⟨ret_int hw.out.symm, Hup.out _⟩
    · have hw := Lib.hid (hgw.trans (wt_out (l := l) (v := v) (by omega)))
      clear hgw
      go_enter Tryd.func41, Tryd.ntmps41
      go_upto_region 1 with fail
      have hbx : ∀ y : Since (x.w.alloc (.cells #[.slice a l.length cap] 34)), y.w.cell? ⟨x.w.heap.size, 0, none⟩ = some (.slice a l.length cap) := fun y => Since.cell (by simp [go_sem]) (by simp) y
      have hWup : ∃ z : Since w, (x.w.alloc (.cells #[.slice a l.length cap] 34)) = z.w := x.alloc _
      obtain ⟨y0, hy0⟩ := Since.refl (x.w.alloc (.cells #[.slice a l.length cap] 34))
      generalize hW : x.w.alloc (.cells #[.slice a l.length cap] 34) = W at *
      clear hW
      generalize x.w.heap.size = bx at *
      have Hup := Lib.hid (Since.up hWup)
      rw [hy0]
      clear hy0
      replace hr := hr.to hWup
      clear hWup
      go_wp2_with fail
      refine (nrcheck_calls W _ a l cap hlen hr).mono ?_
      rintro _ _ ⟨rfl, y, rfl⟩
      go_wp2_with fail
      go_ret
      exact ⟨ret_int hw.out.symm, Hup.out _⟩
    · have hw := Lib.hid (hgw.trans (wt_out (l := l) (v := v) (by omega)))
      clear hgw
      go_enter Tryd.func41, Tryd.ntmps41
      go_upto_region 1 with fail
      have hbx : ∀ y : Since (x.w.alloc (.cells #[.slice a l.length cap] 34)), y.w.cell? ⟨x.w.heap.size, 0, none⟩ = some (.slice a l.length cap) := fun y => Since.cell (by simp [go_sem]) (by simp) y
      have hWup : ∃ z : Since w, (x.w.alloc (.cells #[.slice a l.length cap] 34)) = z.w := x.alloc _
      obtain ⟨y0, hy0⟩ := Since.refl (x.w.alloc (.cells #[.slice a l.length cap] 34))
      generalize hW : x.w.alloc (.cells #[.slice a l.length cap] 34) = W at *
      clear hW
      generalize x.w.heap.size = bx at *
      have Hup := Lib.hid (Since.up hWup)
      rw [hy0]
      clear hy0
      replace hr := hr.to hWup
      clear hWup
      go_wp2_with fail
      refine (nrcheck_calls W _ a l cap hlen hr).mono ?_
      rintro _ _ ⟨rfl, y, rfl⟩
      go_wp2_with fail
      go_ret
      exact ⟨ret_int hw.out.symm, Hup.out _⟩
    · obtain ⟨m, rfl⟩ : ∃ m : Nat, v = -(m : Int) := ⟨v.natAbs, by omega⟩
      have hm : m < l.length := by omega
      have hw := Lib.hid (hgw.trans (wt_in (l := l) (v := -(m : Int)) (by omega)))
      clear hgw
      go_enter Tryd.func41, Tryd.ntmps41
      go_upto_region 1 with fail
      have hbx : ∀ y : Since (x.w.alloc (.cells #[.slice a l.length cap] 34)), y.w.cell? ⟨x.w.heap.size, 0, none⟩ = some (.slice a l.length cap) := fun y => Since.cell (by simp [go_sem]) (by simp) y
      have hWup : ∃ z : Since w, (x.w.alloc (.cells #[.slice a l.length cap] 34)) = z.w := x.alloc _
      obtain ⟨y0, hy0⟩ := Since.refl (x.w.alloc (.cells #[.slice a l.length cap] 34))
      generalize hW : x.w.alloc (.cells #[.slice a l.length cap] 34) = W at *
      clear hW
      generalize x.w.heap.size = bx at *
      have Hup := Lib.hid (Since.up hWup)
      rw [hy0]
      clear hy0
      replace hr := hr.to hWup
      clear hWup
      go_wp2_with fail
      refine (nrcheck_calls W _ a l cap hlen hr).mono ?_
      rintro _ _ ⟨rfl, y, rfl⟩
      obtain ⟨b, off, rfl, _, _⟩ := hr m hm
      have hcell : ∀ y : Since W, y.w.cell? ⟨b, off + m, none⟩ = some (.int .i64 (at0 l m)) := Since.at hr m hm
      clear hr
      go_wp2_with fail
      go_ret
      exact ⟨ret_int (by rw [hw.out]; first | rfl | (congr 1; omega)), Hup.out _⟩
    · obtain ⟨m, rfl⟩ : ∃ m : Nat, v = (m : Int) := ⟨v.natAbs, by omega⟩
      have hm : m < l.length := by omega
      have hw := Lib.hid (hgw.trans (wt_in (l := l) (v := (m : Int)) (by omega)))
      clear hgw
      go_enter Tryd.func41, Tryd.ntmps41
      go_upto_region 1 with fail
      have hbx : ∀ y : Since (x.w.alloc (.cells #[.slice a l.length cap] 34)), y.w.cell? ⟨x.w.heap.size, 0, none⟩ = some (.slice a l.length cap) := fun y => Since.cell (by simp [go_sem]) (by simp) y
      have hWup : ∃ z : Since w, (x.w.alloc (.cells #[.slice a l.length cap] 34)) = z.w := x.alloc _
      obtain ⟨y0, hy0⟩ := Since.refl (x.w.alloc (.cells #[.slice a l.length cap] 34))
      generalize hW : x.w.alloc (.cells #[.slice a l.length cap] 34) = W at *
      clear hW
      generalize x.w.heap.size = bx at *
      have Hup := Lib.hid (Since.up hWup)
      rw [hy0]
      clear hy0
      replace hr := hr.to hWup
      clear hWup
      go_wp2_with fail
      refine (nrcheck_calls W _ a l cap hlen hr).mono ?_
      rintro _ _ ⟨rfl, y, rfl⟩
      obtain ⟨b, off, rfl, _, _⟩ := hr m hm
      have hcell : ∀ y : Since W, y.w.cell? ⟨b, off + m, none⟩ = some (.int .i64 (at0 l m)) := Since.at hr m hm
      clear hr
      go_wp2_with fail
      go_ret
      exact ⟨ret_int (by rw [hw.out]; first | rfl | (congr 1; omega)), Hup.out _⟩
  · have hg0 : check l = 32 := check_bad hg
    have hgw := weight_bad hg v
    go_enter Tryd.func41, Tryd.ntmps41
    go_upto_region 1 with fail
    have hbx : ∀ y : Since (x.w.alloc (.cells #[.slice a l.length cap] 34)), y.w.cell? ⟨x.w.heap.size, 0, none⟩ = some (.slice a l.length cap) := fun y => Since.cell (by simp [go_sem]) (by simp) y
    have hWup : ∃ z : Since w, (x.w.alloc (.cells #[.slice a l.length cap] 34)) = z.w := x.alloc _
    obtain ⟨y0, hy0⟩ := Since.refl (x.w.alloc (.cells #[.slice a l.length cap] 34))
    generalize hW : x.w.alloc (.cells #[.slice a l.length cap] 34) = W at *
    clear hW
    generalize x.w.heap.size = bx at *
    have Hup := Lib.hid (Since.up hWup)
    rw [hy0]
    clear hy0
    replace hr := hr.to hWup
    clear hWup
    go_wp2_with fail
    refine (nrcheck_calls W _ a l cap hlen hr).mono ?_
    rintro _ _ ⟨rfl, y, rfl⟩
    go_wp2_with fail
    go_ret
    exact ⟨ret_int hgw.symm, Hup.out _⟩

theorem right_calls (w : World) (x : Since w) (num den : Int) :
    Calls Tryd.prog 48 #[.agg #[.int .i64 num, .int .i64 den]] x.w fun e w' => e = .returned (.bool (rightB num den)) ∧ ∃ y : Since w, w' = y.w := by
  go_enter Tryd.func48, Tryd.ntmps48
  go_wp2
  all_goals go_ret
  all_goals exact ⟨ret_bool (by rw [Bool.eq_iff_iff, rightB_iff]; unfold Right; simp; omega), x.alloc _⟩
end Go.Proofs.YtdkcclngionihaaDoor
/- Worlds with new blocks and draws, no more; comparing numbers: what the library's sort asks of a comparison. -/
namespace Go.Proofs.YtdkcclngionihaaDoor
open Go.RowKit Go.Sort

/-- new blocks and draws, no more -/
def Gr (w w' : World) : Prop := ∃ (q : Nat) (os : Array Obj), w' = grow (w.drewN q) os
theorem Gr.refl (w : World) : Gr w w := ⟨0, #[], by simp [grow, World.drewN]⟩
theorem Gr.trans {a b c : World} (h : Gr a b) (k : Gr b c) : Gr a c := by
  obtain ⟨q, os, rfl⟩ := h
  obtain ⟨q', os', rfl⟩ := k
  exact ⟨q + q', os ++ os', by simp [grow, World.drewN, Nat.add_assoc, Array.append_assoc]⟩
theorem Gr.alloc (w : World) (o : Obj) : Gr w (w.alloc o) := ⟨0, #[o], by rw [alloc_eq_grow]; rfl⟩
theorem Gr.drewN (w : World) (q : Nat) : Gr w (w.drewN q) := ⟨q, #[], by rw [grow_empty]⟩
theorem Gr.since {w w' : World} (h : Gr w w') : ∃ y : Since w, w' = y.w := by
  obtain ⟨q, os, rfl⟩ := h
  exact ⟨⟨grow (w.drewN q) os, ⟨rfl, rfl, rfl, by simp [grow, World.drewN], fun b hb => by simp [grow, World.drewN, Array.getElem?_append, hb]⟩⟩, rfl⟩

structure GrW (w0 : World) where
  w : World
  g : Gr w0 w
instance (w0 : World) : Nonempty (GrW w0) := ⟨⟨w0, Gr.refl _⟩⟩
theorem wp_region_gr {P : Program} {id : Nat} {Q : Exit → Act → World → Prop} {a : Act} {w0 : World} {x : GrW w0} {l : List Oper} (hm : P.follows .mixedOrders = true) (hB : Region.lexB .any l.toArray = true)
    (h : wpQuiet P l.toArray (fun w' => ∃ y : GrW w0, w' = y.w) (fun a' => ∀ w', (∃ y : GrW w0, w' = y.w) → Q .normal a' w') l a) : (Code.region id l.toArray true).wp P Q a x.w :=
  wp_region_quiet (C := fun w' => ∃ y : GrW w0, w' = y.w) hm hB ⟨⟨_, x.g.trans (Gr.drewN x.w 1)⟩, rfl⟩ (by simpa using h)
theorem GrW.refl (w0 : World) : ∃ y : GrW w0, w0 = y.w := ⟨⟨w0, Gr.refl _⟩, rfl⟩
theorem GrW.step {w0 : World} (x : GrW w0) {w : World} (h : Gr x.w w) : ∃ y : GrW w0, w = y.w := ⟨⟨w, x.g.trans h⟩, rfl⟩
theorem GrW.cell {w0 : World} {a : Addr} {v : Value} (h : w0.cell? a = some v) (y : GrW w0) : y.w.cell? a = some v := by
  obtain ⟨z, e⟩ := y.g.since
  rw [e]
  have hb := World.block_lt_of_cell? w0 _ h
  rw [z.b.cell (p := a) hb]; exact h
theorem Gr.drew' {a b : World} (h : Gr a b) : Gr a b.drew := h.trans (Gr.drewN b 1)
theorem Gr.alloc' {a b : World} (h : Gr a b) (o : Obj) : Gr a (b.alloc o) := h.trans (Gr.alloc b o)
theorem Gr.cell {W w : World} {a : Addr} {v : Value} (h : W.cell? a = some v) (hw : Gr W w) : w.cell? a = some v := GrW.cell h ⟨w, hw⟩
/-- a number before another one -/
def ccmp (x y : Int) : Int := if x < y then -1 else if y < x then 1 else 0
theorem nan_calls (x : Int) (w : World) : Calls Tryd.prog 85 #[.int .i64 x] w fun e w' => e = .returned (.bool false) ∧ w = w' := by
  have h : (x != x) = false := by simp
  go_enter Tryd.func85, Tryd.ntmps85
  go_wp2_with fail
  go_ret
  exact ⟨rfl, rfl⟩
theorem ccmp_calls (x y : Int) (w : World) : Calls Tryd.prog 65 #[.int .i64 x, .int .i64 y] w fun e w' => e = .returned (.int .i64 (ccmp x y)) ∧ w = w' := by
  rcases (by omega : x < y ∨ (¬ x < y ∧ y < x) ∨ (¬ x < y ∧ ¬ y < x)) with h | ⟨h, h'⟩ | ⟨h, h'⟩
  · have hc := Lib.hid (show ccmp x y = -1 from by unfold ccmp; rw [if_pos h])
    go_enter Tryd.func65, Tryd.ntmps65
    go_wp2_with (go_at_call 85; refine (nan_calls _ _).mono ?_; rintro _ _ ⟨rfl, rfl⟩)
    go_ret
    exact ⟨ret_int hc.out.symm, rfl⟩
  · have hc := Lib.hid (show ccmp x y = 1 from by unfold ccmp; rw [if_neg h, if_pos h'])
    have h2 : y ≤ x := by omega
    go_enter Tryd.func65, Tryd.ntmps65
    go_wp2_with (go_at_call 85; refine (nan_calls _ _).mono ?_; rintro _ _ ⟨rfl, rfl⟩)
    go_ret
    exact ⟨ret_int hc.out.symm, rfl⟩
  · have hc := Lib.hid (show ccmp x y = 0 from by unfold ccmp; rw [if_neg h, if_neg h'])
    have h2 : y ≤ x := by omega
    have h3 : x ≤ y := by omega
    go_enter Tryd.func65, Tryd.ntmps65
    go_wp2_with (go_at_call 85; refine (nan_calls _ _).mono ?_; rintro _ _ ⟨rfl, rfl⟩)
    go_ret
    exact ⟨ret_int hc.out.symm, rfl⟩

end Go.Proofs.YtdkcclngionihaaDoor
/- Passes and the rides that they pay: the plain mathematics: no program in sight. -/
namespace Go.Proofs.YtdkcclngionihaaDoor
open Go.RowKit

/-- a pass: number, rider, first day, day behind the last one, rides of a day, seconds -/
structure Pass where
  id : Int
  rd : Int
  f : Int
  t : Int
  n : Int
  s : Int
def Pass.cs (x : Pass) : List Value := [.int .i64 x.id, .int .i64 x.rd, .int .i64 x.f, .int .i64 x.t, .int .i64 x.n, .int .i64 x.s]
theorem Pass.len (x : Pass) : x.cs.length = 6 := rfl
instance : Inhabited Pass := ⟨⟨0, 0, 0, 0, 0, 0⟩⟩
structure PassCells (w : World) (b o : Nat) (e : Pass) : Prop where
  c0 : ∀ y : Since w, y.w.cell? ⟨b, o, none⟩ = some (.int .i64 e.id)
  c1 : ∀ y : Since w, y.w.cell? ⟨b, o + 1, none⟩ = some (.int .i64 e.rd)
  c2 : ∀ y : Since w, y.w.cell? ⟨b, o + 2, none⟩ = some (.int .i64 e.f)
  c3 : ∀ y : Since w, y.w.cell? ⟨b, o + 3, none⟩ = some (.int .i64 e.t)
  c4 : ∀ y : Since w, y.w.cell? ⟨b, o + 4, none⟩ = some (.int .i64 e.n)
  c5 : ∀ y : Since w, y.w.cell? ⟨b, o + 5, none⟩ = some (.int .i64 e.s)
theorem Els.pass {w : World} {a : Option Addr} {l : List Pass} (h : Els Pass.cs 6 w a l) {k : Nat} {x : Pass} (hk : l[k]? = some x) : ∃ b off, a = some ⟨b, off, none⟩ ∧ PassCells w b (off + k * 6) x := by
  obtain ⟨b, off, ha, hb, hc⟩ := h k x hk
  refine ⟨b, off, ha, ?_⟩
  have hh : ∀ j v, x.cs[j]? = some v → ∀ y : Since w, y.w.cell? ⟨b, off + k * 6 + j, none⟩ = some v := fun j v hv => Since.cell (hc j v hv) hb
  exact ⟨hh 0 _ rfl, hh 1 _ rfl, hh 2 _ rfl, hh 3 _ rfl, hh 4 _ rfl, hh 5 _ rfl⟩
abbrev PassRow (w : World) (a : Option Addr) (l : List Pass) : Prop := Els Pass.cs 6 w a l

def goodP (p : Pass) : Bool := decide (1 ≤ p.id) && decide (p.id ≤ 1000000) && decide (0 ≤ p.rd) && decide (p.rd ≤ 127) && decide (1 ≤ p.n) && decide (p.n ≤ 256) && decide (0 ≤ p.s) && decide (p.s ≤ 86400) && decide (0 ≤ p.f) && decide (p.f < p.t) && decide (p.t ≤ 49710)
theorem goodP_iff (p : Pass) : goodP p = true ↔ 1 ≤ p.id ∧ p.id ≤ 1000000 ∧ 0 ≤ p.rd ∧ p.rd ≤ 127 ∧ 1 ≤ p.n ∧ p.n ≤ 256 ∧ 0 ≤ p.s ∧ p.s ≤ 86400 ∧ 0 ≤ p.f ∧ p.f < p.t ∧ p.t ≤ 49710 := by simp [goodP, and_assoc]
/-- some number is there twice -/
def dupB (l : List Int) : Bool := !decide l.Nodup
theorem dupB_true {l : List Int} (h : ¬ l.Nodup) : dupB l = true := by unfold dupB; rw [decide_eq_false h]; rfl
theorem dupB_false {l : List Int} (h : l.Nodup) : dupB l = false := by unfold dupB; rw [decide_eq_true h]; rfl
theorem dupB_cases (l : List Int) : (dupB l = true ∧ ¬ l.Nodup) ∨ (dupB l = false ∧ l.Nodup) := by
  by_cases h : l.Nodup
  · exact .inr ⟨dupB_false h, h⟩
  · exact .inl ⟨dupB_true h, h⟩
theorem nodup_take_next {l : List Int} {k : Nat} {x : Int} (hx : l[k]? = some x) : (l.take (k + 1)).Nodup ↔ (l.take k).Nodup ∧ x ∉ l.take k := by
  rw [List.take_succ_eq_append_getElem (List.getElem?_eq_some_iff.1 hx).1, (List.getElem?_eq_some_iff.1 hx).2, List.nodup_append]
  constructor
  · rintro ⟨h1, _, h3⟩; exact ⟨h1, fun h => h3 x h x (by simp) rfl⟩
  · rintro ⟨h1, h2⟩; exact ⟨h1, by simp, fun a ha b hb hab => h2 (by simp at hb; subst hb; subst hab; exact ha)⟩
theorem nodup_of_take {l : List Int} {k : Nat} (h : l.Nodup) : (l.take k).Nodup := h.sublist (List.take_sublist _ _)
/-- the error of passes -/
def passE (l : List Pass) : Int := if 64 < l.length then 8 else if l.all goodP = false then 1 else if dupB (l.map (·.id)) = true then 6 else 0
/-- the first error of rides -/
def firstErr (l : List Ride) : Int := match l.find? (fun r => rideE r != 0) with | some r => rideE r | none => 0
theorem firstErr_at {l : List Ride} {k : Nat} {r : Ride} (hr : l[k]? = some r) (he : rideE r ≠ 0) (hn : ∀ j, j < k → ∀ x, l[j]? = some x → rideE x = 0) : firstErr l = rideE r := by
  unfold firstErr
  have : l.find? (fun r => rideE r != 0) = some r := by
    rw [List.find?_eq_some_iff_getElem]
    refine ⟨by simpa using he, k, (List.getElem?_eq_some_iff.1 hr).1, (List.getElem?_eq_some_iff.1 hr).2, fun j hj => ?_⟩
    have := hn j hj _ (List.getElem?_eq_getElem (by have := (List.getElem?_eq_some_iff.1 hr).1; omega))
    simp [this]
  rw [this]
theorem firstErr_none {l : List Ride} (hn : ∀ j, j < l.length → ∀ x, l[j]? = some x → rideE x = 0) : firstErr l = 0 := by
  unfold firstErr
  have : l.find? (fun r => rideE r != 0) = none := by
    rw [List.find?_eq_none]
    intro x hx
    obtain ⟨j, hj⟩ := List.mem_iff_getElem?.1 hx
    simp [hn j (List.getElem?_eq_some_iff.1 hj).1 x hj]
  rw [this]
/-- the error of a list of rides -/
def ridesE (l : List Ride) : Int := if 256 < l.length then 8 else if firstErr l ≠ 0 then firstErr l else if dupB (l.map (·.id)) = true then 6 else 0
def usesE (lp : List Pass) (lr : List Ride) : Int := if passE lp ≠ 0 then passE lp else ridesE lr

def day (r : Ride) : Int := r.s0 / 86400
/-- a comes before b -/
def bef (a b : Ride) : Bool := decide (a.s0 < b.s0) || (decide (a.s0 = b.s0) && (decide (a.e0 < b.e0) || (decide (a.e0 = b.e0) && decide (a.id < b.id))))
theorem bef_iff (a b : Ride) : bef a b = true ↔ a.s0 < b.s0 ∨ (a.s0 = b.s0 ∧ (a.e0 < b.e0 ∨ (a.e0 = b.e0 ∧ a.id < b.id))) := by simp [bef]
theorem bef_irrefl (a : Ride) : bef a a = false := by
  cases h : bef a a
  · rfl
  · rw [bef_iff] at h; omega
theorem bef_trans {a b c : Ride} (h1 : bef a b = true) (h2 : bef b c = true) : bef a c = true := by rw [bef_iff] at *; omega
theorem bef_asymm {a b : Ride} (h : bef a b = true) : bef b a = false := by
  cases h2 : bef b a
  · rfl
  · have := bef_trans h h2; rw [bef_irrefl] at this; cases this
theorem bef_total {a b : Ride} (h1 : bef a b = false) (h2 : bef b a = false) : a.id = b.id := by
  have n1 : ¬ bef a b = true := by rw [h1]; simp
  have n2 : ¬ bef b a = true := by rw [h2]; simp
  rw [bef_iff] at n1 n2; omega
theorem bef_ntrans {a b c : Ride} (h1 : bef a b = false) (h2 : bef b c = false) : bef a c = false := by
  have n1 : ¬ bef a b = true := by rw [h1]; simp
  have n2 : ¬ bef b c = true := by rw [h2]; simp
  cases h : bef a c
  · rfl
  · rw [bef_iff] at n1 n2 h; omega
/-- pass p belongs to the rider of r and is valid on its day -/
def vP (p : Pass) (r : Ride) : Bool := decide (p.rd = r.rd) && (decide (p.f ≤ day r) && decide (day r < p.t))
def rAt (R : List Ride) (i : Nat) : Ride := R.getD i default
def pAt (l : List Pass) (i : Nat) : Pass := l.getD i default
theorem rAt_eq {R : List Ride} {i : Nat} {x : Ride} (h : R[i]? = some x) : rAt R i = x := by unfold rAt; rw [List.getD_eq_getElem?_getD, h]; rfl
theorem pAt_eq {R : List Pass} {i : Nat} {x : Pass} (h : R[i]? = some x) : pAt R i = x := by unfold pAt; rw [List.getD_eq_getElem?_getD, h]; rfl
/-- how many rides of the day of x that come before it are paid by pass k -/
def cnt (R : List Ride) (u : Nat → Int) (x : Ride) (k : Int) : Nat := ((List.range R.length).filter fun j => bef (rAt R j) x && decide (u j = k) && decide (day (rAt R j) = day x)).length
/-- the first pass that pays r, if pass k has paid c k rides -/
def firstP (lp : List Pass) (r : Ride) (c : Int → Nat) : Int := match (List.range lp.length).find? (fun k => vP (pAt lp k) r && decide ((c (k : Int) : Int) < (pAt lp k).n)) with | some k => (k : Int) | none => -1
/-- u says for each ride which pass pays it -/
def IsUse (lp : List Pass) (R : List Ride) (u : Nat → Int) : Prop := ∀ i, i < R.length → u i = firstP lp (rAt R i) (cnt R u (rAt R i))
theorem firstP_congr {lp : List Pass} {r : Ride} {c d : Int → Nat} (h : ∀ k, k < lp.length → c (k : Int) = d (k : Int)) : firstP lp r c = firstP lp r d := by
  unfold firstP
  have : (List.range lp.length).find? (fun k => vP (pAt lp k) r && decide ((c (k : Int) : Int) < (pAt lp k).n)) = (List.range lp.length).find? (fun k => vP (pAt lp k) r && decide ((d (k : Int) : Int) < (pAt lp k).n)) := by
    have hg : ∀ l : List Nat, (∀ k ∈ l, k < lp.length) → l.find? (fun k => vP (pAt lp k) r && decide ((c (k : Int) : Int) < (pAt lp k).n)) = l.find? (fun k => vP (pAt lp k) r && decide ((d (k : Int) : Int) < (pAt lp k).n)) := by
      intro l
      induction l with
      | nil => intro _; rfl
      | cons a l ih =>
        intro hl
        simp only [List.find?_cons]
        rw [h a (hl a (by simp)), ih (fun k hk => hl k (by simp [hk]))]
    exact hg _ (fun k hk => List.mem_range.1 hk)
  rw [this]
theorem firstP_yes {lp : List Pass} {r : Ride} {c : Int → Nat} {k : Nat} (hk : k < lp.length) (h : (vP (pAt lp k) r && decide ((c (k : Int) : Int) < (pAt lp k).n)) = true) (hn : ∀ j, j < k → (vP (pAt lp j) r && decide ((c (j : Int) : Int) < (pAt lp j).n)) = false) : firstP lp r c = k := by
  unfold firstP
  have : (List.range lp.length).find? (fun k => vP (pAt lp k) r && decide ((c (k : Int) : Int) < (pAt lp k).n)) = some k := by
    rw [List.find?_eq_some_iff_getElem]
    refine ⟨h, k, by simpa using hk, by simp, fun j hj => ?_⟩
    simp only [List.getElem_range]
    rw [hn j hj]; rfl
  rw [this]
theorem firstP_no {lp : List Pass} {r : Ride} {c : Int → Nat} (hn : ∀ j, j < lp.length → (vP (pAt lp j) r && decide ((c (j : Int) : Int) < (pAt lp j).n)) = false) : firstP lp r c = -1 := by
  unfold firstP
  have : (List.range lp.length).find? (fun k => vP (pAt lp k) r && decide ((c (k : Int) : Int) < (pAt lp k).n)) = none := by
    rw [List.find?_eq_none]
    intro j hj
    rw [hn j (List.mem_range.1 hj)]; simp
  rw [this]
/-- what it means -/
theorem firstP_cases (lp : List Pass) (r : Ride) (c : Int → Nat) : (∃ k : Nat, k < lp.length ∧ firstP lp r c = k ∧ (vP (pAt lp k) r && decide ((c (k : Int) : Int) < (pAt lp k).n)) = true ∧ ∀ j, j < k → (vP (pAt lp j) r && decide ((c (j : Int) : Int) < (pAt lp j).n)) = false) ∨
    (firstP lp r c = -1 ∧ ∀ j, j < lp.length → (vP (pAt lp j) r && decide ((c (j : Int) : Int) < (pAt lp j).n)) = false) := by
  cases h : (List.range lp.length).find? (fun k => vP (pAt lp k) r && decide ((c (k : Int) : Int) < (pAt lp k).n)) with
  | none =>
    refine .inr ⟨by unfold firstP; rw [h], fun j hj => ?_⟩
    rw [List.find?_eq_none] at h
    simpa using h j (List.mem_range.2 hj)
  | some k =>
    refine .inl ⟨k, ?_⟩
    have h' := h
    rw [List.find?_eq_some_iff_getElem] at h'
    obtain ⟨hp, i, hi, hik, hn⟩ := h'
    simp at hik; subst hik
    refine ⟨by simpa using hi, by unfold firstP; rw [h], hp, fun j hj => ?_⟩
    have := hn j hj
    simpa only [List.getElem_range, Bool.not_eq_true'] using this
theorem filter_lt {α : Type} {p q : α → Bool} : ∀ {l : List α} {a : α}, a ∈ l → (∀ x, p x = true → q x = true) → q a = true → p a = false → (l.filter p).length < (l.filter q).length
  | [], _, h, _, _, _ => by cases h
  | x :: l, a, h, hpq, hq, hp => by
    have hle : (l.filter p).length ≤ (l.filter q).length := by
      clear h
      induction l with
      | nil => simp
      | cons y l ih =>
        simp only [List.filter_cons]
        cases hy : p y
        · cases hy2 : q y <;> simp <;> omega
        · rw [hpq y hy]; simp; exact ih
    rcases List.mem_cons.1 h with rfl | h
    · simp only [List.filter_cons, hp, hq]; simp; omega
    · have ih := filter_lt h hpq hq hp
      simp only [List.filter_cons]
      cases hx : p x
      · cases hx2 : q x <;> simp <;> omega
      · rw [hpq x hx]; simp; exact ih
/-- how many rides come before x -/
def rank (R : List Ride) (x : Ride) : Nat := ((List.range R.length).filter fun j => bef (rAt R j) x).length
theorem rank_lt {R : List Ride} {j : Nat} {x : Ride} (hj : j < R.length) (h : bef (rAt R j) x = true) : rank R (rAt R j) < rank R x :=
  filter_lt (List.mem_range.2 hj) (fun _ hi => bef_trans hi h) h (bef_irrefl _)
theorem cnt_congr {R : List Ride} {u v : Nat → Int} {x : Ride} (h : ∀ j, j < R.length → bef (rAt R j) x = true → u j = v j) (k : Int) : cnt R u x k = cnt R v x k := by
  unfold cnt
  congr 1
  refine List.filter_congr fun j hj => ?_
  cases hb : bef (rAt R j) x
  · rfl
  · rw [h j (List.mem_range.1 hj) hb]
theorem use_unique {lp : List Pass} {R : List Ride} {u v : Nat → Int} (hu : IsUse lp R u) (hv : IsUse lp R v) : ∀ i, i < R.length → u i = v i := by
  have : ∀ n i, i < R.length → rank R (rAt R i) = n → u i = v i := by
    intro n
    induction n using Nat.strongRecOn with
    | _ n ih =>
      intro i hi hn
      rw [hu i hi, hv i hi]
      refine firstP_congr fun k _ => cnt_congr (fun j hj hb => ?_) _
      exact ih _ (by rw [← hn]; exact rank_lt hj hb) j hj rfl
  exact fun i hi => this _ i hi rfl
end Go.Proofs.YtdkcclngionihaaDoor
/- Trips between zones: which rides are counted, zones, tables: plain mathematics, no program in sight. -/
namespace Go.Proofs.YtdkcclngionihaaDoor
open Go.RowKit

/-- a comes before b -/
def bf (a b : Ride) : Bool := decide (a.s0 < b.s0) || (decide (a.s0 = b.s0) && decide (a.id < b.id))
theorem bf_iff (a b : Ride) : bf a b = true ↔ a.s0 < b.s0 ∨ (a.s0 = b.s0 ∧ a.id < b.id) := by simp [bf]
theorem bf_irrefl (a : Ride) : bf a a = false := by
  cases h : bf a a
  · rfl
  · rw [bf_iff] at h; omega
theorem bf_trans {a b c : Ride} (h1 : bf a b = true) (h2 : bf b c = true) : bf a c = true := by rw [bf_iff] at *; omega
theorem bf_asymm {a b : Ride} (h : bf a b = true) : bf b a = false := by
  cases h2 : bf b a
  · rfl
  · have := bf_trans h h2; rw [bf_irrefl] at this; cases this
theorem bf_total {a b : Ride} (h1 : bf a b = false) (h2 : bf b a = false) : a.id = b.id := by
  have n1 : ¬ bf a b = true := by rw [h1]; simp
  have n2 : ¬ bf b a = true := by rw [h2]; simp
  rw [bf_iff] at n1 n2; omega
theorem bf_ntrans {a b c : Ride} (h1 : bf a b = false) (h2 : bf b c = false) : bf a c = false := by
  have n1 : ¬ bf a b = true := by rw [h1]; simp
  have n2 : ¬ bf b c = true := by rw [h2]; simp
  cases h : bf a c
  · rfl
  · rw [bf_iff] at n1 n2 h; omega
/-- of one rider and day -/
def key (r : Ride) : Int × Int := (r.rd, day r)
/-- r has ended, is of the rider and day k -/
def ofK (k : Int × Int) (r : Ride) : Bool := !r.op && decide (key r = k)
/-- how many rides of the rider and day of x, which have ended, come before x -/
def ahd (R : List Ride) (x : Ride) : Nat := (R.filter fun r => ofK (key x) r && bf r x).length
/-- x is counted -/
def ctd (R : List Ride) (each : Int) (x : Ride) : Bool := !x.op && decide ((ahd R x : Int) < each)
def eachL (R : List Ride) (each : Int) : List Ride := R.filter (ctd R each)
def eachE (R : List Ride) (each : Int) : Int := if each < 0 ∨ 256 < each then 1 else ridesE R
/-- zones -/
def badZ (zs : List Int) : Bool := zs.any fun z => decide (z < 0) || decide (8 ≤ z)
def zlenB (zs : List Int) : Bool := decide (64 ≤ zs.length) && decide (zs.length ≤ 96)
def zoneE (zs : List Int) (wh pl : Int) : Int :=
  if zlenB zs = false ∨ badZ zs = true then 3
  else if wh = 2 then (if 0 ≤ pl ∧ pl < 64 then 0 else 7)
  else if wh = 1 then (if 0 ≤ pl ∧ pl / 32 < (zs.length : Int) - 64 then 0 else 7)
  else 14
def zoneV (zs : List Int) (wh pl : Int) : Int :=
  if zoneE zs wh pl = 0 then (if wh = 2 then at0 zs pl.toNat else at0 zs (64 + pl / 32).toNat) else 0
/-- the error of a ride's ends -/
def endE (zs : List Int) (r : Ride) : Int := if zoneE zs r.fw r.fp ≠ 0 then zoneE zs r.fw r.fp else zoneE zs r.wh r.pl
def fromZ (zs : List Int) (r : Ride) : Int := zoneV zs r.fw r.fp
def toZ (zs : List Int) (r : Ride) : Int := zoneV zs r.wh r.pl
/-- a ride that begins in the window and ends at a dock or in the street -/
def inT (f t : Int) (r : Ride) : Bool := decide (f ≤ r.s0) && decide (r.s0 < t) && (decide (r.wh = 1) || decide (r.wh = 2))
def cntL (R : List Ride) (each f t : Int) : List Ride := (eachL R each).filter (inT f t)
/-- the first error of the ends of rides -/
def endsE (zs : List Int) (L : List Ride) : Int := match L.find? (fun r => endE zs r != 0) with | some r => endE zs r | none => 0
def bigR (zs : List Int) (size : Int) (r : Ride) : Bool := decide (size ≤ fromZ zs r) || decide (size ≤ toZ zs r)
/-- the cell of a ride -/
def celR (zs : List Int) (size : Int) (r : Ride) : Int := fromZ zs r * size + toZ zs r
/-- how many rides are counted in a cell -/
def celN (zs : List Int) (size : Int) (L : List Ride) (i : Nat) : Int := ((L.filter fun r => !bigR zs size r && decide (celR zs size r = (i : Int))).length : Nat)
def tabE (zs : List Int) (size : Int) (R : List Ride) (f t each : Int) : Int :=
  if size < 1 ∨ 8 < size ∨ f < 0 ∨ t < f ∨ 4294944000 < t then 1
  else if eachE R each ≠ 0 then eachE R each
  else if endsE zs (cntL R each f t) ≠ 0 then endsE zs (cntL R each f t)
  else if (cntL R each f t).any (bigR zs size) = true then 7 else 0
/-- a table -/
structure Tab where
  r : Int
  c : Int
  l : List Int
def tab0 : Tab := ⟨0, 0, []⟩
def cells (zs : List Int) (size : Int) (L : List Ride) : List Int := (List.range (size * size).toNat).map fun i => celN zs size L i
def tabV (zs : List Int) (size : Int) (R : List Ride) (f t each : Int) : Tab := if tabE zs size R f t each = 0 then ⟨size, size, cells zs size (cntL R each f t)⟩ else tab0
/-- the error of a table -/
def chkE (t : Tab) : Int := if t.r < 1 ∨ 8 < t.r ∨ t.c < 1 ∨ 8 < t.c then 1 else if (t.l.length : Int) ≠ t.r * t.c then 3 else if t.l.any (fun n => decide (n < -1000000) || decide (1000000 < n)) = true then 1 else 0
def apE (a b : Tab) : Int := if chkE a ≠ 0 then chkE a else if chkE b ≠ 0 then chkE b else if a.r ≠ b.r ∨ a.c ≠ b.c then 3 else 0
/-- the sum of the differences of the first k cells -/
def apS (a b : List Int) : Nat → Int
  | 0 => 0
  | k + 1 => apS a b k + max (at0 a k - at0 b k) (at0 b k - at0 a k)
def apV (a b : Tab) : Int := if apE a b = 0 then apS a.l b.l a.l.length else 0
end Go.Proofs.YtdkcclngionihaaDoor
/- The frame of the laws of releases: the table of signs; opening releases, tables, ratios. -/
namespace Go.Proofs.YtdkcclngionihaaDoor
open Go.ChangeShapes Go.WideShapes Go.ChangeAt Go.RowKit

def laidL : List (String × DataW Unit) := Rows.releaseChancesRow.laid
def signsName : String := ((laidL.map Prod.fst).head?).getD default
theorem gSigns : Tryd.prog.globalNamed signsName = some 0 := by kernel_rfl
theorem tSigns : (Tryd.prog.globals[0]?).map (·.type) = some 109 := by kernel_rfl
theorem cNoise : Tryd.prog.cellsOf 34 = 1 := by kernel_rfl
theorem cSlice : Tryd.prog.cellsOf 22 = 1 := by kernel_rfl
theorem cInts : Tryd.prog.cellsOf 22 = 1 := by kernel_rfl
theorem cBools : Tryd.prog.cellsOf 32 = 1 := by kernel_rfl
theorem cArr : Tryd.prog.cellsOf 109 = 2 := by kernel_rfl
theorem cWin : Tryd.prog.cellsOf 25 = 2 := by kernel_rfl
theorem cTable : Tryd.prog.cellsOf 31 = 3 := by kernel_rfl
theorem cRel : Tryd.prog.cellsOf 36 = 10 := by kernel_rfl
theorem cRatio : Tryd.prog.cellsOf 50 = 2 := by kernel_rfl
theorem cTwo : Tryd.prog.cellsOf 48 = 6 := by kernel_rfl
set_option maxRecDepth 20000 in
theorem door_met (os : Os) (args : Array Value) : laidMetH Tryd.prog laidL ((World.doorLaid Tryd.prog 400 os).forCall (fun _ _ => 0) ⟨#[], args, []⟩).memory :=
  laidMetH_of_parts3 (fuel := 8) (laidMet_of_run' 8 (by kernel_rfl) (by kernel_rfl)) (by kernel_rfl) (by kernel_rfl)

set_option maxRecDepth 20000 in
theorem signs_of_laid {W : World} (h : laidMetH Tryd.prog laidL W) : Signs W := by
  rw [MakeChecks.laidMetH_plain _ _ _ (by kernel_rfl)] at h
  obtain ⟨ps, ⟨g0, t0, cs0, f0, p0, q0, hg0, ht0, hv0, hd0, _⟩, _⟩ := h
  obtain rfl := Option.some.inj (gSigns.symm.trans hg0)
  obtain rfl := Option.some.inj (tSigns.symm.trans ht0)
  obtain ⟨xs, m1, rfl, hx1, hlen, hn3, hel⟩ := DataW.trod_array Tryd.underlying109 hd0
  have h0 := hel 0 (by decide)
  have h1 := hel 1 (by decide)
  rw [cInt] at h0 h1
  rw [cArr] at hlen
  obtain ⟨l⟩ := cs0
  match l, hlen, xs, hn3, hx1, h0, h1, hv0 with
  | [c0, c1], _, [x0, x1], _, hx1, h0, h1, hv0 =>
    simp only [List.map_cons, List.map_nil, List.cons.injEq, Prod.mk.injEq, Rows.laid_bikeshare_noise_signs, DataW.agg.injEq] at hx1
    obtain ⟨k0, e0, d0, _⟩ := DataW.trod_int Tryd.underlying3 (show DataW.trod _ Tryd.prog W 0 _ _ m1 3 _ = some x0 from h0)
    obtain ⟨k1, e1, d1, _⟩ := DataW.trod_int Tryd.underlying3 (show DataW.trod _ Tryd.prog W 0 _ _ m1 3 _ = some x1 from h1)
    rw [d0, d1] at hx1
    have hk0 : k0 = -1 := by simpa using hx1.1.1.symm
    have hk1 : k1 = 1 := by simpa using hx1.1.2.1.symm
    have hc0 : c0 = .int .i64 (-1) := by rw [← hk0]; simpa using e0
    have hc1 : c1 = .int .i64 1 := by rw [← hk1]; simpa using e1
    have c0' : W.cell? ⟨0, 0, none⟩ = some (.int .i64 (-1)) := by
      rw [World.var?_cell hg0 hv0 0, hc0]; rfl
    have c1' : W.cell? ⟨0, 1, none⟩ = some (.int .i64 1) := by
      rw [World.var?_cell hg0 hv0 1, hc1]; rfl
    exact ⟨World.block_lt_of_cell? W _ c0', c0', c1'⟩

noncomputable def winF : Array Field := Tryd.prog.fieldsOf 25
theorem uWin : Tryd.prog.underlying 25 = some (.struct winF) := by kernel_rfl
theorem winL : (winF.toList.map fun f => (f.offset, f.type)) = [(0, 3), (1, 3)] := by kernel_rfl
noncomputable def tableF : Array Field := Tryd.prog.fieldsOf 31
theorem uTable : Tryd.prog.underlying 31 = some (.struct tableF) := by kernel_rfl
theorem tableL : (tableF.toList.map fun f => (f.offset, f.type)) = [(0, 3), (1, 3), (2, 22)] := by kernel_rfl
noncomputable def relF : Array Field := Tryd.prog.fieldsOf 36
theorem uRel : Tryd.prog.underlying 36 = some (.struct relF) := by kernel_rfl
theorem relL : (relF.toList.map fun f => (f.offset, f.type)) = [(0, 25), (2, 3), (3, 31), (6, 32), (7, 22), (8, 22), (9, 34)] := by kernel_rfl
noncomputable def noiseF : Array Field := Tryd.prog.fieldsOf 34
theorem uNoise : Tryd.prog.underlying 34 = some (.struct noiseF) := by kernel_rfl
theorem noiseL : (noiseF.toList.map fun f => (f.offset, f.type)) = [(0, 22)] := by kernel_rfl
noncomputable def ratioF : Array Field := Tryd.prog.fieldsOf 50
theorem uRatio : Tryd.prog.underlying 50 = some (.struct ratioF) := by kernel_rfl
theorem ratioL : (ratioF.toList.map fun f => (f.offset, f.type)) = [(0, 3), (1, 3)] := by kernel_rfl
noncomputable def twoF : Array Field := Tryd.prog.fieldsOf 48
theorem uTwo : Tryd.prog.underlying 48 = some (.struct twoF) := by kernel_rfl
theorem twoL : (twoF.toList.map fun f => (f.offset, f.type)) = [(0, 31), (3, 31)] := by kernel_rfl
section
variable {H : Type} {enc : TypeId × Value → H} {w : World} {base fuel : Nat} {spare : Nat → Bool} {held : Bool} {cs : List Value} {y : DataW H × List MemPlace}
set_option maxRecDepth 20000 in
theorem win1 {c d : Value} (h : DataW.trod enc Tryd.prog w base spare held fuel 25 [c, d] = some y) : ∃ m n : Int, c = .int .i64 m ∧ d = .int .i64 n ∧ I64 m ∧ I64 n := by
  obtain ⟨_, hf⟩ := trod_fields uWin winL h
  obtain ⟨_, _, h0⟩ := hf 0 _ rfl
  obtain ⟨_, _, h1⟩ := hf 1 _ rfl
  simp only [cInt] at h0 h1
  obtain ⟨m, rfl, hm⟩ := int1 h0
  obtain ⟨n, rfl, hn⟩ := int1 h1
  exact ⟨m, n, rfl, rfl, hm, hn⟩
set_option maxRecDepth 20000 in
theorem table1 (h : DataW.trod enc Tryd.prog w base spare held fuel 31 cs = some y) : ∃ (T : Tab) (a : Option Addr) (c : Nat), cs = [.int .i64 T.r, .int .i64 T.c, .slice a T.l.length c] ∧ IntRow w a T.l ∧ T.l.length ≤ 9223372036854775807 ∧ I64 T.r ∧ I64 T.c ∧ ∀ z ∈ T.l, I64 z := by
  obtain ⟨hl, hf⟩ := trod_fields uTable tableL h
  rw [cTable] at hl
  match cs, hl with
  | [c0, c1, c2], _ =>
    obtain ⟨_, _, h0⟩ := hf 0 _ rfl
    obtain ⟨_, _, h1⟩ := hf 1 _ rfl
    obtain ⟨_, _, h2⟩ := hf 2 _ rfl
    simp only [cInt, cInts] at h0 h1 h2
    obtain ⟨r, rfl, i0⟩ := int1 h0
    obtain ⟨c, rfl, i1⟩ := int1 h1
    obtain ⟨a, l, cap, rfl, k1, k2, k3, k4⟩ := open_row Tryd.underlying22 Tryd.underlying3 cInt h2
    exact ⟨⟨r, c, l⟩, a, cap, rfl, k3, Nat.le_trans k1 k2, i0, i1, fun z hz => wf_i64 (k4 z hz)⟩
set_option maxRecDepth 20000 in
theorem bools1 {c : Value} (h : DataW.trod enc Tryd.prog w base spare held fuel 32 [c] = some y) : ∃ (a : Option Addr) (n cap : Nat), c = .slice a n cap := by
  rcases DataW.trod_slice Tryd.underlying32 h with ⟨hcs, _⟩ | ⟨a, len, cap, elems, rest, n, _, hcs, _⟩
  · simp at hcs; exact ⟨none, 0, 0, hcs⟩
  · simp at hcs; exact ⟨some a, len, cap, hcs⟩
set_option maxRecDepth 20000 in
theorem noise1 {c : Value} (h : DataW.trod enc Tryd.prog w base spare held fuel 34 [c] = some y) : ∃ (a : Option Addr) (l : List Int) (cap : Nat), c = .slice a l.length cap ∧ IntRow w a l ∧ l.length ≤ cap ∧ l.length ≤ 9223372036854775807 ∧ ∀ z ∈ l, I64 z := by
  obtain ⟨hl, hf⟩ := trod_fields uNoise noiseL h
  obtain ⟨_, _, h0⟩ := hf 0 _ rfl
  simp only [cInts] at h0
  obtain ⟨a, l, cap, rfl, k1, k2, k3, k4⟩ := open_row Tryd.underlying22 Tryd.underlying3 cInt h0
  exact ⟨a, l, cap, rfl, k3, k1, Nat.le_trans k1 k2, fun z hz => wf_i64 (k4 z hz)⟩
set_option maxRecDepth 20000 in
theorem rel1 (h : DataW.trod enc Tryd.prog w base spare held fuel 36 cs = some y) : ∃ (f t each : Int) (A : Tab) (N : List Int) (a1 a2 a3 a4 a5 : Option Addr) (c1 n2 c2 n3 c3 n4 c4 c5 : Nat), cs = [.int .i64 f, .int .i64 t, .int .i64 each, .int .i64 A.r, .int .i64 A.c, .slice a1 A.l.length c1, .slice a2 n2 c2, .slice a3 n3 c3, .slice a4 n4 c4, .slice a5 N.length c5] ∧ IntRow w a1 A.l ∧ A.l.length ≤ 9223372036854775807 ∧ IntRow w a5 N ∧ N.length ≤ 9223372036854775807 := by
  obtain ⟨hl, hf⟩ := trod_fields uRel relL h
  rw [cRel] at hl
  match cs, hl with
  | [d0, d1, d2, d3, d4, d5, d6, d7, d8, d9], _ =>
    obtain ⟨_, _, h0⟩ := hf 0 _ rfl
    obtain ⟨_, _, h1⟩ := hf 1 _ rfl
    obtain ⟨_, _, h2⟩ := hf 2 _ rfl
    obtain ⟨_, _, h3⟩ := hf 3 _ rfl
    obtain ⟨_, _, h4⟩ := hf 4 _ rfl
    obtain ⟨_, _, h5⟩ := hf 5 _ rfl
    obtain ⟨_, _, h6⟩ := hf 6 _ rfl
    simp only [cInt, cInts, cWin, cTable, cBools, cNoise] at h0 h1 h2 h3 h4 h5 h6
    obtain ⟨f, t, rfl, rfl, _, _⟩ := win1 h0
    obtain ⟨each, rfl, _⟩ := int1 h1
    obtain ⟨A, a1, c1, e2, k1, k2, _⟩ := table1 h2
    obtain ⟨a2, n2, c2, rfl⟩ := bools1 h3
    obtain ⟨a3, l3, c3, rfl, _⟩ := open_row Tryd.underlying22 Tryd.underlying3 cInt h4
    obtain ⟨a4, l4, c4, rfl, _⟩ := open_row Tryd.underlying22 Tryd.underlying3 cInt h5
    obtain ⟨a5, N, c5, rfl, k3, _, k4, _⟩ := noise1 h6
    obtain ⟨rfl, rfl, rfl⟩ : d3 = .int .i64 A.r ∧ d4 = .int .i64 A.c ∧ d5 = .slice a1 A.l.length c1 := by simpa using e2
    exact ⟨f, t, each, A, N, a1, a2, a3, a4, a5, c1, n2, c2, l3.length, c3, l4.length, c4, c5, rfl, k1, k2, k3, k4⟩
set_option maxRecDepth 20000 in
theorem two1 (h : DataW.trod enc Tryd.prog w base spare held fuel 48 cs = some y) : ∃ (T U : Tab) (a b : Option Addr) (c d : Nat), cs = [.int .i64 T.r, .int .i64 T.c, .slice a T.l.length c, .int .i64 U.r, .int .i64 U.c, .slice b U.l.length d] ∧ IntRow w a T.l ∧ T.l.length ≤ 9223372036854775807 ∧ IntRow w b U.l ∧ U.l.length ≤ 9223372036854775807 := by
  obtain ⟨hl, hf⟩ := trod_fields uTwo twoL h
  rw [cTwo] at hl
  match cs, hl with
  | [d0, d1, d2, d3, d4, d5], _ =>
    obtain ⟨_, _, h0⟩ := hf 0 _ rfl
    obtain ⟨_, _, h1⟩ := hf 1 _ rfl
    simp only [cTable] at h0 h1
    obtain ⟨T, a, c, e1, k1, k2, _⟩ := table1 h0
    obtain ⟨U, b, d, e2, k3, k4, _⟩ := table1 h1
    obtain ⟨rfl, rfl, rfl⟩ : d0 = .int .i64 T.r ∧ d1 = .int .i64 T.c ∧ d2 = .slice a T.l.length c := by simpa using e1
    obtain ⟨rfl, rfl, rfl⟩ : d3 = .int .i64 U.r ∧ d4 = .int .i64 U.c ∧ d5 = .slice b U.l.length d := by simpa using e2
    exact ⟨T, U, a, b, c, d, rfl, k1, k2, k3, k4⟩
set_option maxRecDepth 20000 in
theorem ratio1 (h : DataW.trod enc Tryd.prog w base spare held fuel 50 cs = some y) : ∃ m n : Int, cs = [.int .i64 m, .int .i64 n] := by
  obtain ⟨hl, hf⟩ := trod_fields uRatio ratioL h
  rw [cRatio] at hl
  match cs, hl with
  | [c, d], _ =>
    obtain ⟨_, _, h0⟩ := hf 0 _ rfl
    obtain ⟨_, _, h1⟩ := hf 1 _ rfl
    simp only [cInt] at h0 h1
    obtain ⟨m, rfl, hm⟩ := int1 h0
    obtain ⟨n, rfl, hn⟩ := int1 h1
    exact ⟨m, n, rfl⟩
end
section
variable {H : Type} {enc : TypeId × Value → H} {w : World} {b0 : Nat} {r : Reach} {held : Bool} {v : Value} {d : DataW H} {p : List MemPlace}
set_option maxRecDepth 20000 in
theorem open_table (hv : Value.okWide Tryd.prog w r b0 31 v) (h : DataW.Trod enc Tryd.prog w 0 (fun _ => true) held 31 v d p) :
    ∃ (T : Tab) (a : Option Addr) (c : Nat), v = .agg #[.int .i64 T.r, .int .i64 T.c, .slice a T.l.length c] ∧ IntRow w a T.l ∧ T.l.length ≤ 9223372036854775807 ∧ I64 T.r ∧ I64 T.c ∧ ∀ z ∈ T.l, I64 z := by
  obtain ⟨cs, rfl, hsz⟩ := okWide_struct uTable hv
  obtain ⟨l⟩ := cs
  obtain ⟨fuel, hf⟩ := h
  obtain ⟨T, a, c, hq, hi⟩ := table1 (show DataW.trod enc Tryd.prog w 0 (fun _ => true) held fuel 31 l = some (d, p) from hf)
  subst hq
  exact ⟨T, a, c, rfl, hi⟩
set_option maxRecDepth 20000 in
theorem open_rel (hv : Value.okWide Tryd.prog w r b0 36 v) (h : DataW.Trod enc Tryd.prog w 0 (fun _ => true) held 36 v d p) :
    ∃ (f t each : Int) (A : Tab) (N : List Int) (a1 a2 a3 a4 a5 : Option Addr) (c1 n2 c2 n3 c3 n4 c4 c5 : Nat), v = .agg #[.int .i64 f, .int .i64 t, .int .i64 each, .int .i64 A.r, .int .i64 A.c, .slice a1 A.l.length c1, .slice a2 n2 c2, .slice a3 n3 c3, .slice a4 n4 c4, .slice a5 N.length c5] ∧ IntRow w a1 A.l ∧ A.l.length ≤ 9223372036854775807 ∧ IntRow w a5 N ∧ N.length ≤ 9223372036854775807 := by
  obtain ⟨cs, rfl, hsz⟩ := okWide_struct uRel hv
  obtain ⟨l⟩ := cs
  obtain ⟨fuel, hf⟩ := h
  obtain ⟨f, t, each, A, N, a1, a2, a3, a4, a5, c1, n2, c2, n3, c3, n4, c4, c5, hq, hi⟩ := rel1 (show DataW.trod enc Tryd.prog w 0 (fun _ => true) held fuel 36 l = some (d, p) from hf)
  subst hq
  exact ⟨f, t, each, A, N, a1, a2, a3, a4, a5, c1, n2, c2, n3, c3, n4, c4, c5, rfl, hi⟩
set_option maxRecDepth 20000 in
theorem open_two (hv : Value.okWide Tryd.prog w r b0 48 v) (h : DataW.Trod enc Tryd.prog w 0 (fun _ => true) held 48 v d p) :
    ∃ (T U : Tab) (a b : Option Addr) (c d : Nat), v = .agg #[.int .i64 T.r, .int .i64 T.c, .slice a T.l.length c, .int .i64 U.r, .int .i64 U.c, .slice b U.l.length d] ∧ IntRow w a T.l ∧ T.l.length ≤ 9223372036854775807 ∧ IntRow w b U.l ∧ U.l.length ≤ 9223372036854775807 := by
  obtain ⟨cs, rfl, hsz⟩ := okWide_struct uTwo hv
  obtain ⟨l⟩ := cs
  obtain ⟨fuel, hf⟩ := h
  obtain ⟨T, U, a, b, c, d', hq, hi⟩ := two1 (show DataW.trod enc Tryd.prog w 0 (fun _ => true) held fuel 48 l = some (d, p) from hf)
  subst hq
  exact ⟨T, U, a, b, c, d', rfl, hi⟩
set_option maxRecDepth 20000 in
theorem open_ratioR (hv : Value.okWide Tryd.prog w r b0 50 v) (h : DataW.Trod enc Tryd.prog w 0 (fun _ => true) held 50 v d p) :
    ∃ m n : Int, v = .agg #[.int .i64 m, .int .i64 n] := by
  obtain ⟨cs, rfl, hsz⟩ := okWide_struct uRatio hv
  obtain ⟨l⟩ := cs
  obtain ⟨fuel, hf⟩ := h
  obtain ⟨m, n, hq⟩ := ratio1 (show DataW.trod enc Tryd.prog w 0 (fun _ => true) held fuel 50 l = some (d, p) from hf)
  subst hq
  exact ⟨m, n, rfl⟩
end
end Go.Proofs.YtdkcclngionihaaDoor
/- Flows between two nodes of a network: the greatest amount is that of a cut: plain mathematics, no program in sight. -/
namespace Go.Proofs.YtdkcclngionihaaDoor

/-- an arc -/
structure Arc where
  u : Int
  v : Int
  cap : Int
  cost : Int
instance : Inhabited Arc := ⟨⟨0, 0, 0, 0⟩⟩
/-- sums -/
def sumF (f : Nat → Int) : Nat → Int
  | 0 => 0
  | n + 1 => sumF f n + f n
theorem sumF_congr {f g : Nat → Int} : ∀ n, (∀ i, i < n → f i = g i) → sumF f n = sumF g n
  | 0, _ => rfl
  | n + 1, h => by simp only [sumF]; rw [sumF_congr n fun i hi => h i (by omega), h n (by omega)]
theorem sumF_add (f g : Nat → Int) : ∀ n, sumF (fun i => f i + g i) n = sumF f n + sumF g n
  | 0 => rfl
  | n + 1 => by simp only [sumF]; rw [sumF_add f g n]; omega
theorem sumF_zero : ∀ n, sumF (fun _ => 0) n = 0
  | 0 => rfl
  | n + 1 => by simp only [sumF]; rw [sumF_zero n]; rfl
theorem sumF_le {f g : Nat → Int} : ∀ n, (∀ i, i < n → f i ≤ g i) → sumF f n ≤ sumF g n
  | 0, _ => Int.le_refl _
  | n + 1, h => by
    have := sumF_le n fun i hi => h i (by omega)
    have := h n (by omega)
    simp only [sumF]; omega
theorem sumF_pick (g : Nat → Int) (c : Int) : ∀ n : Nat, sumF (fun k => if c = (k : Int) then g k else 0) n = if 0 ≤ c ∧ c < n then g c.toNat else 0
  | 0 => by simp only [sumF]; rw [if_neg (by omega)]
  | n + 1 => by
    simp only [sumF]
    rw [sumF_pick g c n]
    by_cases h1 : c = (n : Int)
    · subst h1
      rw [if_pos rfl, if_neg (by omega), if_pos (by omega)]; simp
    · rw [if_neg h1]
      by_cases h2 : 0 ≤ c ∧ c < n
      · rw [if_pos h2, if_pos (by omega)]; omega
      · rw [if_neg h2, if_neg (by omega)]; rfl
theorem sumF_swap (F : Nat → Nat → Int) (n : Nat) : ∀ m, sumF (fun k => sumF (fun i => F k i) m) n = sumF (fun i => sumF (fun k => F k i) n) m
  | 0 => by simp only [sumF]; exact sumF_zero n
  | m + 1 => by
    simp only [sumF]
    rw [sumF_add, sumF_swap F n m]
theorem sumF_set (f : Nat → Int) (c : Nat) (d : Int) : ∀ n, sumF (fun i => if i = c then f i + d else f i) n = sumF f n + if c < n then d else 0
  | 0 => rfl
  | n + 1 => by
    simp only [sumF]
    rw [sumF_set f c d n]
    by_cases h1 : n = c
    · subst h1
      rw [if_pos rfl, if_neg (Nat.lt_irrefl _), if_pos (by omega)]; omega
    · rw [if_neg h1]
      by_cases h2 : c < n
      · rw [if_pos h2, if_pos (by omega)]; omega
      · rw [if_neg h2, if_neg (by omega)]; omega
/-- arc i -/
def arcAt (l : List Arc) (i : Nat) : Arc := l.getD i default
/-- what an arc's flow x gives to node k: out less in -/
def arcEx (a : Arc) (x k : Int) : Int := (if a.u = k then x else 0) - (if a.v = k then x else 0)
/-- what leaves node k, less what comes -/
def exc (l : List Arc) (f : Nat → Int) (k : Int) : Int := sumF (fun i => arcEx (arcAt l i) (f i) k) l.length
/-- the arcs' ends are nodes -/
def NetOk (n : Nat) (l : List Arc) : Prop := ∀ i, i < l.length → (0 ≤ (arcAt l i).u ∧ (arcAt l i).u < n) ∧ (0 ≤ (arcAt l i).v ∧ (arcAt l i).v < n) ∧ 0 ≤ (arcAt l i).cap
/-- a flow of amount v from s to t -/
structure Flow (n : Nat) (l : List Arc) (s t : Int) (f : Nat → Int) (v : Int) : Prop where
  c : ∀ i, i < l.length → 0 ≤ f i ∧ f i ≤ (arcAt l i).cap
  k : ∀ k : Int, k ≠ s → k ≠ t → exc l f k = 0
  s : exc l f s = v
/-- the capacity of a cut -/
def cutC (l : List Arc) (S : Int → Bool) : Int := sumF (fun i => if S (arcAt l i).u = true ∧ S (arcAt l i).v = false then (arcAt l i).cap else 0) l.length
/-- what a flow sends out of S -/
def outS (l : List Arc) (S : Int → Bool) (f : Nat → Int) : Int := sumF (fun i => (if S (arcAt l i).u = true then f i else 0) - (if S (arcAt l i).v = true then f i else 0)) l.length
theorem out_eq {n : Nat} {l : List Arc} (h : NetOk n l) (S : Int → Bool) (f : Nat → Int) : sumF (fun k => if S k = true then exc l f k else 0) n = outS l S f := by
  have h1 : sumF (fun k => if S k = true then exc l f k else 0) n = sumF (fun k => sumF (fun i => if S k = true then arcEx (arcAt l i) (f i) k else 0) l.length) n := by
    refine sumF_congr n fun k _ => ?_
    by_cases hs : S k = true
    · rw [if_pos hs]; exact sumF_congr _ fun i _ => by rw [if_pos hs]
    · rw [if_neg hs]
      exact (sumF_zero l.length).symm.trans (sumF_congr _ fun i _ => by rw [if_neg hs])
  rw [h1, sumF_swap]
  unfold outS
  refine sumF_congr _ fun i hi => ?_
  obtain ⟨hu, hv, _⟩ := h i hi
  have e : ∀ k : Nat, (if S k = true then arcEx (arcAt l i) (f i) k else 0) = (if (arcAt l i).u = (k : Int) then (fun k : Nat => if S k = true then f i else 0) k else 0) + (if (arcAt l i).v = (k : Int) then (fun k : Nat => if S k = true then - f i else 0) k else 0) := fun k => by
    unfold arcEx
    by_cases hs : S k = true <;> by_cases h1 : (arcAt l i).u = (k : Int) <;> by_cases h2 : (arcAt l i).v = (k : Int) <;> simp only [hs, h1, h2, if_true, if_false] <;> (try simp) <;> omega
  rw [sumF_congr n fun k _ => e k, sumF_add, sumF_pick, sumF_pick, if_pos hu, if_pos hv]
  simp only [Int.toNat_of_nonneg hu.1, Int.toNat_of_nonneg hv.1]
  by_cases hs : S (arcAt l i).u = true <;> by_cases ht : S (arcAt l i).v = true <;> simp [hs, ht] <;> omega
theorem Flow.out {n : Nat} {l : List Arc} {s t : Int} {f : Nat → Int} {v : Int} (hF : Flow n l s t f v) (h : NetOk n l) (hs : 0 ≤ s ∧ s < n) {S : Int → Bool} (h1 : S s = true) (h2 : S t = false) : outS l S f = v := by
  rw [← out_eq h S f]
  have e : ∀ k : Nat, (if S k = true then exc l f k else 0) = if s = (k : Int) then (fun _ => v) k else 0 := fun k => by
    by_cases hk : s = (k : Int)
    · rw [if_pos hk, ← hk, if_pos h1, hF.s]
    · rw [if_neg hk]
      by_cases hS : S k = true
      · rw [if_pos hS]
        exact hF.k k (fun h => hk h.symm) (fun h => by rw [h, h2] at hS; cases hS)
      · rw [if_neg hS]
  rw [sumF_congr n fun k _ => e k, sumF_pick, if_pos hs]
theorem out_le {n : Nat} {l : List Arc} {s t : Int} {f : Nat → Int} {v : Int} (hF : Flow n l s t f v) (S : Int → Bool) : outS l S f ≤ cutC l S := by
  unfold outS cutC
  refine sumF_le _ fun i hi => ?_
  have := hF.c i hi
  cases S (arcAt l i).u <;> cases S (arcAt l i).v <;> simp <;> omega
theorem Flow.le_cut {n : Nat} {l : List Arc} {s t : Int} {f : Nat → Int} {v : Int} (hF : Flow n l s t f v) (h : NetOk n l) (hs : 0 ≤ s ∧ s < n) {S : Int → Bool} (h1 : S s = true) (h2 : S t = false) : v ≤ cutC l S := by
  rw [← hF.out h hs h1 h2]; exact out_le hF S
/-- the greatest amount: that of a flow and of a cut -/
def IsMost (n : Nat) (l : List Arc) (s t v : Int) : Prop := (∃ f, Flow n l s t f v) ∧ ∃ S : Int → Bool, S s = true ∧ S t = false ∧ cutC l S = v
theorem IsMost.unique {n : Nat} {l : List Arc} {s t v w : Int} (h : NetOk n l) (hs : 0 ≤ s ∧ s < n) (hv : IsMost n l s t v) (hw : IsMost n l s t w) : v = w := by
  obtain ⟨⟨f, hf⟩, S, s1, s2, s3⟩ := hv
  obtain ⟨⟨g, hg⟩, T, t1, t2, t3⟩ := hw
  have a := hf.le_cut h hs t1 t2
  have b := hg.le_cut h hs s1 s2
  omega
/-- an edge of the residue: arc i, forwards or backwards, from a to b, with room -/
def Res (l : List Arc) (f : Nat → Int) (i : Nat) (fw : Bool) (a b room : Int) : Prop :=
  i < l.length ∧ ((fw = true ∧ (arcAt l i).u = a ∧ (arcAt l i).v = b ∧ room = (arcAt l i).cap - f i ∧ f i < (arcAt l i).cap) ∨ (fw = false ∧ (arcAt l i).v = a ∧ (arcAt l i).u = b ∧ room = f i ∧ 0 < f i))
/-- nothing leads out of K: it is a cut of the flow's amount -/
theorem most_of_closed {n : Nat} {l : List Arc} {s t : Int} {f : Nat → Int} {v : Int} (hF : Flow n l s t f v) (h : NetOk n l) (hs : 0 ≤ s ∧ s < n) {K : Int → Bool} (h1 : K s = true) (h2 : K t = false) (hc : ∀ i fw a b room, Res l f i fw a b room → K a = true → K b = true) : IsMost n l s t v := by
  refine ⟨⟨f, hF⟩, K, h1, h2, ?_⟩
  rw [← hF.out h hs h1 h2]
  unfold outS cutC
  refine sumF_congr _ fun i hi => ?_
  have hr := hF.c i hi
  cases hu : K (arcAt l i).u
  · cases hv : K (arcAt l i).v
    · simp
    · have hz : f i = 0 := by
        by_cases hp : 0 < f i
        · have := hc i false _ _ (f i) ⟨hi, Or.inr ⟨rfl, rfl, rfl, rfl, hp⟩⟩ hv
          rw [hu] at this; cases this
        · omega
      simp [hz]
  · cases hv : K (arcAt l i).v
    · have hz : f i = (arcAt l i).cap := by
        by_cases hp : f i < (arcAt l i).cap
        · have := hc i true _ _ _ ⟨hi, Or.inl ⟨rfl, rfl, rfl, rfl, hp⟩⟩ hu
          rw [hv] at this; cases this
        · omega
      simp [hz]
    · simp
/-- one step of a push -/
def bump (f : Nat → Int) (i : Nat) (d : Int) : Nat → Int := fun j => if j = i then f j + d else f j
theorem exc_bump {l : List Arc} (f : Nat → Int) {i : Nat} (hi : i < l.length) (d k : Int) : exc l (bump f i d) k = exc l f k + arcEx (arcAt l i) d k := by
  unfold exc
  have e : ∀ j, arcEx (arcAt l j) (bump f i d j) k = if j = i then (fun j => arcEx (arcAt l j) (f j) k) j + arcEx (arcAt l i) d k else (fun j => arcEx (arcAt l j) (f j) k) j := fun j => by
    unfold bump
    by_cases h : j = i
    · subst h
      rw [if_pos rfl, if_pos rfl]
      unfold arcEx
      by_cases h1 : (arcAt l j).u = k <;> by_cases h2 : (arcAt l j).v = k <;> simp [h1, h2] <;> omega
    · rw [if_neg h, if_neg h]
  rw [sumF_congr _ fun j _ => e j, sumF_set, if_pos hi]
theorem exc_push {l : List Arc} {f : Nat → Int} {i : Nat} {fw : Bool} {a b room d : Int} {g : Nat → Int} (hr : Res l f i fw a b room) (k : Int) : exc l (bump g i (if fw = true then d else -d)) k = exc l g k + (if a = k then d else 0) - (if b = k then d else 0) := by
  rw [exc_bump g hr.1]
  unfold arcEx
  rcases hr.2 with ⟨rfl, rfl, rfl, _⟩ | ⟨rfl, rfl, rfl, _⟩
  · rw [if_pos rfl]; omega
  · simp only [Bool.false_eq_true, if_false]
    by_cases h1 : (arcAt l i).u = k <;> by_cases h2 : (arcAt l i).v = k <;> simp only [h1, h2, if_true, if_false] <;> omega
end Go.Proofs.YtdkcclngionihaaDoor
/- How nodes were reached over arcs that can take more; a push along the way: plain mathematics, no program in sight. -/
namespace Go.Proofs.YtdkcclngionihaaDoor

/-- how a node was reached: from where, over which arc, with what room, forwards or not; whether at all; after how many steps -/
structure Stp where
  fr : Int
  arc : Int
  room : Int
  fw : Bool
  kn : Bool
  dep : Int
instance : Inhabited Stp := ⟨⟨0, 0, 0, false, false, 0⟩⟩
/-- the nodes that were reached hang together -/
structure Tree (n : Nat) (l : List Arc) (f : Nat → Int) (s : Nat) (st : Nat → Stp) : Prop where
  sn : s < n
  r : (st s).kn = true ∧ (st s).dep = 0
  d : ∀ k, k < n → (st k).kn = true → 0 ≤ (st k).dep
  k : ∀ k, k < n → (st k).kn = true → k ≠ s → (∃ i : Nat, (st k).arc = (i : Int) ∧ Res l f i (st k).fw (st k).fr k (st k).room) ∧ (0 ≤ (st k).fr ∧ (st k).fr < n) ∧ (st (st k).fr.toNat).kn = true ∧ (st k).dep = (st (st k).fr.toNat).dep + 1
/-- the way back from t -/
def pth (st : Nat → Stp) (s t : Nat) : Nat → Nat
  | 0 => t
  | m + 1 => if pth st s t m = s then s else (st (pth st s t m)).fr.toNat
section
variable {n : Nat} {l : List Arc} {f : Nat → Int} {s : Nat} {st : Nat → Stp} (hT : Tree n l f s st)
include hT
theorem Tree.zero {k : Nat} (hk : k < n) (hn : (st k).kn = true) : (st k).dep = 0 ↔ k = s := by
  constructor
  · intro h
    by_cases hs : k = s
    · exact hs
    · obtain ⟨_, hf, hf2, hd⟩ := hT.k k hk hn hs
      have := hT.d (st k).fr.toNat (by omega) hf2
      omega
  · rintro rfl; exact hT.r.2
theorem Tree.way {t : Nat} (ht : t < n) (hk : (st t).kn = true) : ∀ m : Nat, (m : Int) ≤ (st t).dep → pth st s t m < n ∧ (st (pth st s t m)).kn = true ∧ (st (pth st s t m)).dep = (st t).dep - m
  | 0, _ => ⟨ht, hk, by simp [pth]⟩
  | m + 1, hm => by
    obtain ⟨h1, h2, h3⟩ := Tree.way ht hk m (by omega)
    have hs : pth st s t m ≠ s := fun h => by
      have := (hT.zero h1 h2).2 h
      omega
    obtain ⟨_, hf, hf2, hd⟩ := hT.k _ h1 h2 hs
    have e : pth st s t (m + 1) = (st (pth st s t m)).fr.toNat := if_neg hs
    rw [e]
    exact ⟨by omega, hf2, by omega⟩
/-- one step of the way: an edge of the residue -/
theorem Tree.edge {t : Nat} (ht : t < n) (hk : (st t).kn = true) {m : Nat} (hm : (m : Int) < (st t).dep) : pth st s t m ≠ s ∧ (st (pth st s t m)).fr = (pth st s t (m + 1) : Nat) ∧ ∃ i : Nat, (st (pth st s t m)).arc = (i : Int) ∧ Res l f i (st (pth st s t m)).fw (pth st s t (m + 1) : Nat) (pth st s t m : Nat) (st (pth st s t m)).room := by
  obtain ⟨h1, h2, h3⟩ := hT.way ht hk m (by omega)
  have hs : pth st s t m ≠ s := fun h => by
    have := (hT.zero h1 h2).2 h
    omega
  obtain ⟨⟨i, hi, hr⟩, hf, hf2, hd⟩ := hT.k _ h1 h2 hs
  have e : pth st s t (m + 1) = (st (pth st s t m)).fr.toNat := if_neg hs
  have e2 : ((pth st s t (m + 1) : Nat) : Int) = (st (pth st s t m)).fr := by rw [e]; exact Int.toNat_of_nonneg hf.1
  exact ⟨hs, e2.symm, i, hi, e2 ▸ hr⟩
theorem Tree.last {t : Nat} (ht : t < n) (hk : (st t).kn = true) {m : Nat} (hm : (m : Int) = (st t).dep) : pth st s t m = s := by
  obtain ⟨h1, h2, h3⟩ := hT.way ht hk m (by omega)
  exact (hT.zero h1 h2).1 (by omega)
/-- what a push of d has done when it has come to the m-th node of the way -/
structure Push (l : List Arc) (f : Nat → Int) (st : Nat → Stp) (s t : Nat) (d : Int) (m : Nat) (g : Nat → Int) : Prop where
  e : ∀ k : Int, exc l g k = exc l f k + (if ((pth st s t m : Nat) : Int) = k then d else 0) - (if (t : Int) = k then d else 0)
  c : ∀ i, i < l.length → 0 ≤ g i ∧ g i ≤ (arcAt l i).cap
  u : ∀ i : Nat, g i = f i ∨ ∃ j, j < m ∧ (st (pth st s t j)).arc = (i : Int)
omit hT in
theorem push_start (hc : ∀ i, i < l.length → 0 ≤ f i ∧ f i ≤ (arcAt l i).cap) (t : Nat) (d : Int) : Push l f st s t d 0 f :=
  ⟨fun k => by simp only [pth]; omega, hc, fun i => Or.inl rfl⟩
theorem Push.step {t : Nat} (ht : t < n) (hk : (st t).kn = true) {m : Nat} (hm : (m : Int) < (st t).dep) {d : Int} (hd : 0 ≤ d) (hroom : d ≤ (st (pth st s t m)).room) {g : Nat → Int} (h : Push l f st s t d m g) :
    ∃ i : Nat, (st (pth st s t m)).arc = (i : Int) ∧ i < l.length ∧ Push l f st s t d (m + 1) (bump g i (if (st (pth st s t m)).fw = true then d else -d)) := by
  obtain ⟨hs, hfr, i, hi, hr⟩ := hT.edge ht hk hm
  refine ⟨i, hi, hr.1, ⟨fun k => ?_, fun j hj => ?_, fun j => ?_⟩⟩
  · rw [exc_push hr, h.e k]
    omega
  · have hu : g i = f i := by
      rcases h.u i with hu | ⟨j', hj', ha⟩
      · exact hu
      · obtain ⟨_, _, i', hi', hr'⟩ := hT.edge ht hk (m := j') (by omega)
        obtain rfl : i' = i := by have := hi'.symm.trans ha; omega
        obtain ⟨_, _, a1⟩ := hT.way ht hk m (by omega)
        obtain ⟨_, _, a2⟩ := hT.way ht hk (m + 1) (by omega)
        obtain ⟨_, _, b1⟩ := hT.way ht hk j' (by omega)
        obtain ⟨_, _, b2⟩ := hT.way ht hk (j' + 1) (by omega)
        have key : ∀ x y : Nat, ((x : Nat) : Int) = ((y : Nat) : Int) → (st x).dep = (st y).dep := fun x y hxy => by rw [show x = y by omega]
        rcases hr.2 with ⟨_, p1, p2, _⟩ | ⟨_, p1, p2, _⟩ <;> rcases hr'.2 with ⟨_, q1, q2, _⟩ | ⟨_, q1, q2, _⟩
        · have := key _ _ (p2.symm.trans q2); omega
        · have h1 := key _ _ (p1.symm.trans q2); have h2 := key _ _ (p2.symm.trans q1); push_cast at *; omega
        · have h1 := key _ _ (p1.symm.trans q2); have h2 := key _ _ (p2.symm.trans q1); push_cast at *; omega
        · have := key _ _ (p2.symm.trans q2); omega
    unfold bump
    by_cases hji : j = i
    · subst hji
      rw [if_pos rfl, hu]
      rcases hr.2 with ⟨p0, _, _, p3, p4⟩ | ⟨p0, _, _, p3, p4⟩
      · rw [p0, if_pos rfl]; have := h.c j hj; rw [hu] at this; omega
      · rw [p0]; simp only [Bool.false_eq_true, if_false]; have := h.c j hj; rw [hu] at this; omega
    · rw [if_neg hji]; exact h.c j hj
  · by_cases hji : j = i
    · exact Or.inr ⟨m, by omega, by rw [hji]; exact hi⟩
    · unfold bump
      rw [if_neg hji]
      rcases h.u j with h1 | ⟨j', h1, h2⟩
      · exact Or.inl h1
      · exact Or.inr ⟨j', by omega, h2⟩
theorem Push.done {t : Nat} (ht : t < n) (hk : (st t).kn = true) (hts : t ≠ s) {m : Nat} (hm : (m : Int) = (st t).dep) {d : Int} {g : Nat → Int} (h : Push l f st s t d m g) {v : Int} (hF : Flow n l s t f v) : Flow n l s t g (v + d) := by
  have hl := hT.last ht hk hm
  refine ⟨h.c, fun k h1 h2 => ?_, ?_⟩
  · rw [h.e k, hl, hF.k k h1 h2, if_neg (fun e => h1 e.symm), if_neg (fun e => h2 e.symm)]; rfl
  · rw [h.e s, hl, hF.s, if_pos rfl, if_neg (by omega)]; omega
end
end Go.Proofs.YtdkcclngionihaaDoor
/- Reaching nodes: what is called for every edge of the residue, walked. -/
namespace Go.Proofs.YtdkcclngionihaaDoor
open Go.RowKit

/-- the end of a function without results -/
theorem bodyPost_end {P : Program} {fn : Func} {R : Ending → World → Prop} {a : Act} {w : World} {v : Value} (hr : (results fn a.tmps).run P w = .ok v w) (hd : a.defers = []) (hR : R (.returned v) w) : bodyPost P fn R .normal a w := ⟨hd, v, hr, hR⟩
def Stp.cs (x : Stp) : List Value := [.int .i64 x.fr, .int .i64 x.arc, .int .i64 x.room, .bool x.fw, .bool x.kn, .int .i64 x.dep]
theorem Stp.len (x : Stp) : x.cs.length = 6 := rfl
/-- the boxes of a search: the slice's, the steps, the depth, whether something was found -/
structure RS (w : World) (gp gS gd gg : Nat) (L : List Stp) (dep : Int) (gr : Bool) : Prop where
  p : BoxIs w gp [.slice (some ⟨gS, 0, none⟩) L.length L.length]
  s : BoxIs w gS (flat Stp.cs L)
  d : BoxIs w gd [.int .i64 dep]
  g : BoxIs w gg [.bool gr]
/-- all blocks but these two are as they were -/
structure Kp (w w' : World) (gS gg : Nat) : Prop where
  sz : w.heap.size ≤ w'.heap.size
  h : ∀ g, g < w.heap.size → g ≠ gS → g ≠ gg → w'.heap[g]? = w.heap[g]?
theorem Kp.of {w : World} (y : Since w) (gS gg : Nat) : Kp w y.w gS gg := ⟨y.b.size, fun g hg _ _ => y.b.block g hg⟩
theorem Kp.trans {a b c : World} {gS gg : Nat} (h : Kp a b gS gg) (k : Kp b c gS gg) : Kp a c gS gg := ⟨Nat.le_trans h.sz k.sz, fun g hg h1 h2 => (k.h g (Nat.lt_of_lt_of_le hg h.sz) h1 h2).trans (h.h g hg h1 h2)⟩
theorem Kp.set1 (w : World) (gS gg j : Nat) (v : Value) : Kp w (w.setCell ⟨gS, j, none⟩ v) gS gg := ⟨by simp [World.setCell], fun g _ h1 _ => Below.heap_setCell w ⟨gS, j, none⟩ v g h1⟩
theorem Kp.set2 (w : World) (gS gg j : Nat) (v : Value) : Kp w (w.setCell ⟨gg, j, none⟩ v) gS gg := ⟨by simp [World.setCell], fun g _ _ h2 => Below.heap_setCell w ⟨gg, j, none⟩ v g h2⟩
theorem BoxIs.kp {w w' : World} {g gS gg : Nat} {vs : List Value} (h : BoxIs w g vs) (hk : Kp w w' gS gg) (h1 : g ≠ gS) (h2 : g ≠ gg) : BoxIs w' g vs := by
  have hb := hk.h g h.lt h1 h2
  refine ⟨Nat.lt_of_lt_of_le h.lt hk.sz, fun j v hv => ?_, fun o => ?_⟩
  · rw [World.cell?_of_block (w := w) (a := ⟨g, j, none⟩) hb]; exact h.c j v hv
  · have := h.f o
    simp only [World.frozen?] at this ⊢
    rw [hb]; exact this
/-- the step that is taken -/
def fires (L : List Stp) (dep : Int) (a b : Nat) : Bool := (L.getD a default).kn && decide ((L.getD a default).dep = dep) && !(L.getD b default).kn
def vis (L : List Stp) (dep : Int) (a b : Nat) (arc room : Int) (fw : Bool) : List Stp := if fires L dep a b = true then L.set b ⟨a, arc, room, fw, true, dep + 1⟩ else L
theorem stp_cells {w : World} {gS : Nat} {L : List Stp} (h : BoxIs w gS (flat Stp.cs L)) {k : Nat} (hk : k < L.length) : w.cell? ⟨gS, k * 6 + 4, none⟩ = some (.bool (L.getD k default).kn) ∧ w.cell? ⟨gS, k * 6 + 5, none⟩ = some (.int .i64 (L.getD k default).dep) := by
  have he : L[k]? = some (L.getD k default) := by rw [List.getD_eq_getElem?_getD, List.getElem?_eq_getElem hk]; rfl
  exact ⟨h.c _ _ (flat_at Stp.len L k _ 4 _ he rfl), h.c _ _ (flat_at Stp.len L k _ 5 _ he rfl)⟩
/-- where these boxes lie -/
structure RD (B : World) (gp gS gd gg : Nat) : Prop where
  bS : B.heap.size ≤ gS
  bg : B.heap.size ≤ gg
  pS : gp ≠ gS
  dS : gd ≠ gS
  gS : gg ≠ gS
  gp : gg ≠ gp
  gd : gg ≠ gd
theorem flat_setS (y : Stp) : ∀ (L : List Stp) (b : Nat), b < L.length → flat Stp.cs (L.set b y) = ((((((flat Stp.cs L).set (b * 6) (.int .i64 y.fr)).set (b * 6 + 1) (.int .i64 y.arc)).set (b * 6 + 2) (.int .i64 y.room)).set (b * 6 + 3) (.bool y.fw)).set (b * 6 + 4) (.bool y.kn)).set (b * 6 + 5) (.int .i64 y.dep)
  | [], b, h => by simp at h
  | x :: L, 0, _ => rfl
  | x :: L, b + 1, h => by
    have ih := flat_setS y L b (by simpa using h)
    have e : flat Stp.cs ((x :: L).set (b + 1) y) = x.cs ++ flat Stp.cs (L.set b y) := rfl
    have e2 : flat Stp.cs (x :: L) = x.cs ++ flat Stp.cs L := rfl
    rw [e, e2, ih]
    rw [List.set_append_right _ _ (by rw [Stp.len]; omega), List.set_append_right _ _ (by rw [Stp.len]; omega), List.set_append_right _ _ (by rw [Stp.len]; omega), List.set_append_right _ _ (by rw [Stp.len]; omega), List.set_append_right _ _ (by rw [Stp.len]; omega), List.set_append_right _ _ (by rw [Stp.len]; omega), Stp.len]
    rw [show (b + 1) * 6 - 6 = b * 6 by omega, show (b + 1) * 6 + 1 - 6 = b * 6 + 1 by omega, show (b + 1) * 6 + 2 - 6 = b * 6 + 2 by omega, show (b + 1) * 6 + 3 - 6 = b * 6 + 3 by omega, show (b + 1) * 6 + 4 - 6 = b * 6 + 4 by omega, show (b + 1) * 6 + 5 - 6 = b * 6 + 5 by omega]
set_option maxRecDepth 100000 in
set_option maxHeartbeats 8000000 in
theorem visit_calls (B : World) (w : World) (hB : IsSince B w) (gp gS gd gg : Nat) (hD : RD B gp gS gd gg) (L : List Stp) (dep : Int) (gr : Bool) (h : RS w gp gS gd gg L dep gr) (a b : Nat) (ha : a < L.length) (hb : b < L.length) (arc room cost : Int) (fw : Bool) (hd : 0 ≤ dep ∧ dep ≤ 100000) :
    Calls Tryd.prog 121 #[.int .i64 (a : Int), .int .i64 (b : Int), .int .i64 arc, .int .i64 room, .int .i64 cost, .bool fw, .pointer (some ⟨gp, 0, none⟩), .pointer (some ⟨gd, 0, none⟩), .pointer (some ⟨gg, 0, none⟩)] w fun o w' => o = .returned (.tuple #[]) ∧ ∃ y : Since B, w' = y.w ∧ RS y.w gp gS gd gg (vis L dep a b arc room fw) dep (gr || fires L dep a b) ∧ Kp w y.w gS gg := by
  go_enter Tryd.func121, Tryd.ntmps121
  obtain ⟨hd0, hd1⟩ := hd
  have Hh := Lib.hid h
  have HB := Lib.hid hB
  have p0 := fun q : Since w => (Hh.out.p.since q).c 0 _ rfl
  have d0 := fun q : Since w => (Hh.out.d.since q).c 0 _ rfl
  have a4 := fun q : Since w => (stp_cells (Hh.out.s.since q) ha).1
  have a5 := fun q : Since w => (stp_cells (Hh.out.s.since q) ha).2
  have b4 := fun q : Since w => (stp_cells (Hh.out.s.since q) hb).1
  have Hf := Lib.hid (show fires L dep a b = ((L.getD a default).kn && decide ((L.getD a default).dep = dep) && !(L.getD b default).kn) from rfl)
  have Hv := Lib.hid (show vis L dep a b arc room fw = if fires L dep a b = true then L.set b ⟨a, arc, room, fw, true, dep + 1⟩ else L from rfl)
  have Hbe := Lib.hid (show L[b]? = some (L.getD b default) by rw [List.getD_eq_getElem?_getD, List.getElem?_eq_getElem hb]; rfl)
  have ha0 : (0 : Int) ≤ (a : Int) := by omega
  have hal : (a : Int) < (L.length : Int) := by omega
  have hb0 : (0 : Int) ≤ (b : Int) := by omega
  have hbl : (b : Int) < (L.length : Int) := by omega
  have w1 : IntKind.i64.wrap (dep + 1) = dep + 1 := IntWalk.i64_in _ (by omega)
  have HNo := Lib.hid (fun (hf : fires L dep a b = false) (y : Since w) => show (∃ z : Since B, y.w = z.w ∧ RS z.w gp gS gd gg (vis L dep a b arc room fw) dep (gr || fires L dep a b) ∧ Kp w z.w gS gg) from by
    obtain ⟨x, rfl⟩ := HB.out
    obtain ⟨z, hz⟩ := x.trans y
    refine ⟨z, hz, ?_⟩
    rw [Hv.out, hf, ← hz, Bool.or_false]
    exact ⟨⟨Hh.out.p.since y, Hh.out.s.since y, Hh.out.d.since y, Hh.out.g.since y⟩, Kp.of y gS gg⟩)
  change Code.wp _ _ _ _ (Since.self w).w
  clear h hB
  generalize (L.getD a default).kn = ka at *
  generalize (L.getD a default).dep = da at *
  have Hway : (ka = false) ∨ (ka = true ∧ (da == dep) = false) ∨ (ka = true ∧ (da == dep) = true ∧ (L.getD b default).kn = true) ∨ (ka = true ∧ (da == dep) = true ∧ (L.getD b default).kn = false) := by
    cases ka
    · exact Or.inl rfl
    · cases h1 : (da == dep)
      · exact Or.inr (Or.inl ⟨rfl, rfl⟩)
      · cases h2 : (L.getD b default).kn
        · exact Or.inr (Or.inr (Or.inr ⟨rfl, rfl, rfl⟩))
        · exact Or.inr (Or.inr (Or.inl ⟨rfl, rfl, rfl⟩))
  rcases Hway with h1 | ⟨h1, h2⟩ | ⟨h1, h2, h3⟩ | ⟨h1, h2, h3⟩
  case inr.inr.inr =>
    subst h1
    rw [h3] at b4 Hf
    have hy : fires L dep a b = true := by rw [Hf.out]; simp at h2 ⊢; exact h2
    rw [hy] at Hv
    have HV := Lib.hid (Hv.out.trans (if_pos rfl))
    clear HNo Hf Hv h3
    go_wp2_with fail
    refine wp_region_since (by kernel_rfl) (by kernel_rfl) ?_
    repeat (go_big_quiet_step (fail))
    refine wpQuiet_nil ?_
    rintro _ ⟨z, rfl⟩
    have Hs := Lib.hid (Hh.out.s.since z)
    have Hg := Lib.hid (Hh.out.g.since z)
    have Hp := Lib.hid (Hh.out.p.since z)
    have Hd := Lib.hid (Hh.out.d.since z)
    have c0 := Hs.out.c _ _ (flat_at Stp.len L b _ 0 _ Hbe.out rfl)
    have c1 := Hs.out.c _ _ (flat_at Stp.len L b _ 1 _ Hbe.out rfl)
    have c2 := Hs.out.c _ _ (flat_at Stp.len L b _ 2 _ Hbe.out rfl)
    have c3 := Hs.out.c _ _ (flat_at Stp.len L b _ 3 _ Hbe.out rfl)
    have c4 := Hs.out.c _ _ (flat_at Stp.len L b _ 4 _ Hbe.out rfl)
    have c5 := Hs.out.c _ _ (flat_at Stp.len L b _ 5 _ Hbe.out rfl)
    have cf := Hs.out.f
    rw [Nat.add_zero] at c0
    go_upto_region 2 with fail
    clear c0 c1 c2 c3 c4 c5 cf
    have s1 := ((((((Hs.out.setj (j := b * 6) (by (try simp only [List.length_set]); have := (List.getElem?_eq_some_iff.1 (flat_at Stp.len L b _ 5 _ Hbe.out rfl)).1; omega) (.int .i64 (a : Int))).setj (j := b * 6 + 1) (by (try simp only [List.length_set]); have := (List.getElem?_eq_some_iff.1 (flat_at Stp.len L b _ 5 _ Hbe.out rfl)).1; omega) (.int .i64 arc)).setj (j := b * 6 + 2) (by (try simp only [List.length_set]); have := (List.getElem?_eq_some_iff.1 (flat_at Stp.len L b _ 5 _ Hbe.out rfl)).1; omega) (.int .i64 room)).setj (j := b * 6 + 3) (by (try simp only [List.length_set]); have := (List.getElem?_eq_some_iff.1 (flat_at Stp.len L b _ 5 _ Hbe.out rfl)).1; omega) (.bool fw)).setj (j := b * 6 + 4) (by (try simp only [List.length_set]); have := (List.getElem?_eq_some_iff.1 (flat_at Stp.len L b _ 5 _ Hbe.out rfl)).1; omega) (.bool true)).setj (j := b * 6 + 5) (by (try simp only [List.length_set]); have := (List.getElem?_eq_some_iff.1 (flat_at Stp.len L b _ 5 _ Hbe.out rfl)).1; omega) (.int .i64 (dep + 1)))
    have p1 := ((((((Hp.out.far ⟨gS, b * 6, none⟩ (.int .i64 (a : Int)) hD.pS).far ⟨gS, b * 6 + 1, none⟩ (.int .i64 arc) hD.pS).far ⟨gS, b * 6 + 2, none⟩ (.int .i64 room) hD.pS).far ⟨gS, b * 6 + 3, none⟩ (.bool fw) hD.pS).far ⟨gS, b * 6 + 4, none⟩ (.bool true) hD.pS).far ⟨gS, b * 6 + 5, none⟩ (.int .i64 (dep + 1)) hD.pS)
    have d1 := ((((((Hd.out.far ⟨gS, b * 6, none⟩ (.int .i64 (a : Int)) hD.dS).far ⟨gS, b * 6 + 1, none⟩ (.int .i64 arc) hD.dS).far ⟨gS, b * 6 + 2, none⟩ (.int .i64 room) hD.dS).far ⟨gS, b * 6 + 3, none⟩ (.bool fw) hD.dS).far ⟨gS, b * 6 + 4, none⟩ (.bool true) hD.dS).far ⟨gS, b * 6 + 5, none⟩ (.int .i64 (dep + 1)) hD.dS)
    have g1 := ((((((Hg.out.far ⟨gS, b * 6, none⟩ (.int .i64 (a : Int)) hD.gS).far ⟨gS, b * 6 + 1, none⟩ (.int .i64 arc) hD.gS).far ⟨gS, b * 6 + 2, none⟩ (.int .i64 room) hD.gS).far ⟨gS, b * 6 + 3, none⟩ (.bool fw) hD.gS).far ⟨gS, b * 6 + 4, none⟩ (.bool true) hD.gS).far ⟨gS, b * 6 + 5, none⟩ (.int .i64 (dep + 1)) hD.gS)
    obtain ⟨x, hx⟩ := HB.out
    subst hx
    obtain ⟨u0, e0⟩ := x.trans z
    obtain ⟨u1, e1⟩ := u0.set ⟨gS, b * 6, none⟩ hD.bS (.int .i64 (a : Int))
    rw [← e0] at e1
    obtain ⟨u2, e2⟩ := u1.set ⟨gS, b * 6 + 1, none⟩ hD.bS (.int .i64 arc)
    rw [← e1] at e2
    obtain ⟨u3, e3⟩ := u2.set ⟨gS, b * 6 + 2, none⟩ hD.bS (.int .i64 room)
    rw [← e2] at e3
    obtain ⟨u4, e4⟩ := u3.set ⟨gS, b * 6 + 3, none⟩ hD.bS (.bool fw)
    rw [← e3] at e4
    obtain ⟨u5, e5⟩ := u4.set ⟨gS, b * 6 + 4, none⟩ hD.bS (.bool true)
    rw [← e4] at e5
    obtain ⟨u6, e6⟩ := u5.set ⟨gS, b * 6 + 5, none⟩ hD.bS (.int .i64 (dep + 1))
    rw [← e5] at e6
    have kp : Kp _ (((((((z.w.setCell ⟨gS, b * 6, none⟩ (.int .i64 (a : Int))).setCell ⟨gS, b * 6 + 1, none⟩ (.int .i64 arc)).setCell ⟨gS, b * 6 + 2, none⟩ (.int .i64 room)).setCell ⟨gS, b * 6 + 3, none⟩ (.bool fw)).setCell ⟨gS, b * 6 + 4, none⟩ (.bool true)).setCell ⟨gS, b * 6 + 5, none⟩ (.int .i64 (dep + 1)))) gS gg := (((((Kp.of z gS gg).trans (Kp.set1 _ gS gg _ _)).trans (Kp.set1 _ gS gg _ _)).trans (Kp.set1 _ gS gg _ _)).trans (Kp.set1 _ gS gg _ _)).trans (Kp.set1 _ gS gg _ _) |>.trans (Kp.set1 _ gS gg _ _)
    rw [e6] at s1 p1 d1 g1 ⊢
    rw [← flat_setS ⟨a, arc, room, fw, true, dep + 1⟩ L b hb] at s1
    rw [e6] at kp
    have HK := Lib.hid (kp.trans (Kp.set2 _ gS gg 0 (.bool true)))
    clear kp
    have HS1 := Lib.hid s1
    have HP1 := Lib.hid p1
    have HD1 := Lib.hid d1
    have HG1 := Lib.hid g1
    have q0 := g1.c 0 _ rfl
    have qf := g1.f
    clear s1 p1 d1 g1 e0 e1 e2 e3 e4 e5 e6
    go_wp2_with fail
    have g2 := HG1.out.set1 (u := .bool true)
    have s2 := HS1.out.far ⟨gg, 0, none⟩ (.bool true) (fun h => hD.gS h.symm)
    have p2 := HP1.out.far ⟨gg, 0, none⟩ (.bool true) (fun h => hD.gp h.symm)
    have d2 := HD1.out.far ⟨gg, 0, none⟩ (.bool true) (fun h => hD.gd h.symm)
    obtain ⟨u7, e7⟩ := u6.set ⟨gg, 0, none⟩ hD.bg (.bool true)
    have kp := HK.out
    rw [e7] at g2 s2 p2 d2 kp ⊢
    refine bodyPost_end (v := .tuple #[]) (by simp [results, Tryd.results121, go_sem]) rfl ?_
    refine ⟨rfl, u7, rfl, ?_, kp⟩
    rw [HV.out, hy, Bool.or_true]
    exact ⟨by rw [List.length_set]; exact p2, s2, d2, g2⟩
  case inl =>
    subst h1
    have hn := HNo.out (by rw [Hf.out]; rfl)
    have HN := Lib.hid hn
    clear hn HNo Hf Hv
    go_wp2_with fail
    refine wp_region_since (by kernel_rfl) (by kernel_rfl) ?_
    repeat (go_big_quiet_step (fail))
    refine wpQuiet_nil ?_
    rintro _ ⟨z, rfl⟩
    go_wp2_with fail
    refine bodyPost_end (v := .tuple #[]) (by simp [results, Tryd.results121, go_sem]) rfl ?_
    exact ⟨rfl, HN.out z⟩
  case inr.inl =>
    subst h1
    have hn := HNo.out (by rw [Hf.out]; simp at h2; simp [h2])
    have HN := Lib.hid hn
    clear hn HNo Hf Hv
    go_wp2_with fail
    refine wp_region_since (by kernel_rfl) (by kernel_rfl) ?_
    repeat (go_big_quiet_step (fail))
    refine wpQuiet_nil ?_
    rintro _ ⟨z, rfl⟩
    go_wp2_with fail
    refine bodyPost_end (v := .tuple #[]) (by simp [results, Tryd.results121, go_sem]) rfl ?_
    exact ⟨rfl, HN.out z⟩
  case inr.inr.inl =>
    subst h1
    rw [h3] at b4 Hf
    have hn := HNo.out (by rw [Hf.out]; simp)
    have HN := Lib.hid hn
    clear hn HNo Hf Hv h3
    go_wp2_with fail
    refine wp_region_since (by kernel_rfl) (by kernel_rfl) ?_
    repeat (go_big_quiet_step (fail))
    refine wpQuiet_nil ?_
    rintro _ ⟨z, rfl⟩
    go_wp2_with fail
    refine bodyPost_end (v := .tuple #[]) (by simp [results, Tryd.results121, go_sem]) rfl ?_
    exact ⟨rfl, HN.out z⟩
end Go.Proofs.YtdkcclngionihaaDoor
