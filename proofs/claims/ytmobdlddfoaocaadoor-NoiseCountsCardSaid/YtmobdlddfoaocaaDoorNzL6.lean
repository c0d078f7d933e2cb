/- The walk of the law NoiseCounts. -/
import Derived.Test.YtmobdlddfoaocaaDoorNzL4
namespace Go.Proofs.YtmobdlddfoaocaaDoor
open Go.RowKit

theorem at_in_calls (w : World) (x : Since w) (hs : Signs w) (a : Option Addr) (l : List Int) (cap : Nat) (n v : Int) (hcap : l.length ≤ cap) (hlen : l.length ≤ 9223372036854775807) (hr : IntRow w a l) (hg : Good l) (h0 : 0 ≤ n) (h1 : n < total l) (hv : IsAt l n v) :
    Calls Tryd.prog 20 #[.agg #[.slice a l.length cap], .int .i64 n] x.w fun e w' => e = .returned (.tuple #[.int .i64 v, .int .i64 0]) ∧ ∃ y : Since w, w' = y.w := by
  have hc := at_calls w x hs a l cap n hcap hlen hr
  rw [(at_in hg h0 h1).1, (at_in hg h0 h1).2, atV_eq hg hv] at hc
  exact hc
theorem at_out_calls (w : World) (x : Since w) (hs : Signs w) (a : Option Addr) (l : List Int) (cap : Nat) (n : Int) (hcap : l.length ≤ cap) (hlen : l.length ≤ 9223372036854775807) (hr : IntRow w a l) (hg : Good l) (h : ¬ (0 ≤ n ∧ n < total l)) :
    Calls Tryd.prog 20 #[.agg #[.slice a l.length cap], .int .i64 n] x.w fun e w' => e = .returned (.tuple #[.int .i64 0, .int .i64 1]) ∧ ∃ y : Since w, w' = y.w := by
  have hc := at_calls w x hs a l cap n hcap hlen hr
  rw [(at_out hg h).1, (at_out hg h).2] at hc
  exact hc

theorem tot_ok_calls (w : World) (x : Since w) (a : Option Addr) (l : List Int) (cap : Nat) (hcap : l.length ≤ cap) (hlen : l.length ≤ 9223372036854775807) (hr : IntRow w a l) (hg : Good l) :
    Calls Tryd.prog 14 #[.agg #[.slice a l.length cap]] x.w fun e w' => e = .returned (.tuple #[.int .i64 (total l), .int .i64 0]) ∧ ∃ y : Since w, w' = y.w := by
  have hc := total_calls w x a l cap hcap hlen hr
  rw [totalF_good hg, check_good hg] at hc
  exact hc
theorem tot_no_calls (w : World) (x : Since w) (a : Option Addr) (l : List Int) (cap : Nat) (hcap : l.length ≤ cap) (hlen : l.length ≤ 9223372036854775807) (hr : IntRow w a l) (hg : ¬ Good l) :
    Calls Tryd.prog 14 #[.agg #[.slice a l.length cap]] x.w fun e w' => e = .returned (.tuple #[.int .i64 0, .int .i64 32]) ∧ ∃ y : Since w, w' = y.w := by
  have hc := total_calls w x a l cap hcap hlen hr
  rw [totalF_bad hg, check_bad hg] at hc
  exact hc

set_option maxHeartbeats 2000000 in
theorem noiseCounts_calls (w : World) (x : Since w) (hs : Signs w) (a : Option Addr) (l : List Int) (cap : Nat) (hcap : l.length ≤ cap) (hlen : l.length ≤ 9223372036854775807) (hr : IntRow w a l) :
    Calls Tryd.prog 8 #[.agg #[.slice a l.length cap]] x.w fun e w' => e = .returned (.bool true) ∧ ∃ y : Since w, w' = y.w := by
  go_enter Tryd.func8, Tryd.ntmps8
  go_upto_region 1 with fail
  have hb0_0 : ∀ y : Since (x.w.alloc (.cells #[.slice a l.length cap] 24)), y.w.cell? ⟨x.w.heap.size, 0, none⟩ = some (.slice a l.length cap) := fun y => Since.cell (by simp [go_sem]) (by first | (simp; done) | (simp; omega)) y
  have hf0 : ∀ (y : Since (x.w.alloc (.cells #[.slice a l.length cap] 24))) (o : Nat), y.w.frozen? ⟨x.w.heap.size, o, none⟩ = false := fun y o => Since.free (by simp [go_sem]) (by first | (simp; done) | (simp; omega)) y
  have hWup : ∃ z : Since w, (x.w.alloc (.cells #[.slice a l.length cap] 24)) = z.w := x.alloc _
  obtain ⟨y0, hy0⟩ := Since.refl (x.w.alloc (.cells #[.slice a l.length cap] 24))
  have Hbx := Lib.hid (And.intro x.b.size (show x.w.heap.size + 1 = (x.w.alloc (.cells #[.slice a l.length cap] 24)).heap.size from by simp))
  generalize hW : (x.w.alloc (.cells #[.slice a l.length cap] 24)) = W at *
  clear hW
  generalize x.w.heap.size = bx at *
  have Hup := Lib.hid (Since.up hWup)
  rw [hy0]
  clear hy0
  replace hr := hr.to hWup
  replace hs := hs.to hWup
  clear hWup
  by_cases hf : l.length ≤ 40
  · go_wp2_with fail
    refine (few_yes W _ a l.length cap hlen hf).mono ?_
    rintro _ _ ⟨rfl, y, rfl⟩
    by_cases hg : Good l
    · have ht1 := total_bd hg
      go_wp2_with fail
      refine (tot_ok_calls W _ a l cap hcap hlen hr hg).mono ?_
      rintro _ _ ⟨rfl, y, rfl⟩
      by_cases h300 : total l ≤ 300
      · have HG := Lib.hid hg
        clear hg
        go_wp2_with fail
        go_loopw [5, 6] (fun s v wr => ∃ j : Nat, j ≤ 65 ∧ v = .int .i64 ((j : Int) - 32) ∧ s = .int .i64 (pre l j) ∧ ∃ y : Since W, wr = y.w) (fun _ v _ => (33 - (intOf v)).toNat)
        case atStart => exact ⟨0, by omega, rfl, rfl, _, rfl⟩
        case round =>
          obtain ⟨j, hj, rfl, rfl, y, rfl⟩ := hrel
          by_cases hlt : j < 65
          · have hsucc := Lib.hid (pre_succ l j)
            have hpm := pre_mono HG.out (i := j + 1) (j := 65) (by omega)
            have hwb := wt_bd HG.out ((j : Int) - 32)
            have hpb := pre_bd HG.out j
            have hw1 := Lib.hid (weight_good HG.out ((j : Int) - 32))
            go_wp2_with fail
            refine ((weight_calls W _ hs a l cap _ (by unfold I64; omega) hlen hr).mono (wg HG.out)).mono ?_
            rintro _ _ ⟨rfl, y, rfl⟩
            have hpe : pre l j + wt l ((j : Int) - 32) ≤ total l := by have := hsucc.out; rw [← this]; exact hpm
            have hAt : ∀ r : Int, 0 < r → r ≤ wt l ((j : Int) - 32) → IsAt l (pre l j + wt l ((j : Int) - 32) - r) ((j : Int) - 32) := fun r r0 r1 => ⟨j, hlt, rfl, by omega, by rw [hsucc.out]; omega⟩
            have HAt := Lib.hid hAt
            clear hAt hpm
            generalize wt l ((j : Int) - 32) = wj at *
            generalize pre l j = pj at *
            go_wp2_with fail
            go_loopw [5, 7] (fun s i wr => ∃ r : Int, 0 ≤ r ∧ r ≤ wj ∧ i = .int .i64 r ∧ s = .int .i64 (pj + wj - r) ∧ ∃ y : Since W, wr = y.w) (fun _ i _ => (intOf i).toNat)
            case atStart => exact ⟨wj, by omega, by omega, rfl, by go_num, _, rfl⟩
            case round =>
              obtain ⟨r, hr0, hr1, rfl, rfl, y, rfl⟩ := hrel
              by_cases hrp : 0 < r
              · have hat := Lib.hid (HAt.out r hrp hr1)
                have hx0 : decide (300 < pj + wj - r) = false := decide_eq_false (by omega)
                go_wp2_with fail
                refine (at_in_calls W _ hs a l cap _ _ hcap hlen hr HG.out (by omega) (by omega) hat.out).mono ?_
                rintro _ _ ⟨rfl, y, rfl⟩
                go_wp2_with fail
                go_roundw
                case rel => exact ⟨r - 1, by omega, by omega, rfl, by go_num, _, rfl⟩
                case measure => simp [intOf]; omega
              · obtain rfl : r = 0 := by omega
                go_wp2_with fail
                go_roundw
                case rel => exact ⟨j + 1, by omega, by go_num, by rw [hsucc.out]; go_num, _, rfl⟩
                case measure => simp [intOf]; omega
          · have hj65 : pre l j = total l := by
              have : j = 65 := by omega
              rw [this]; rfl
            rw [hj65]
            clear hj65
            have hg2 := HG.out
            go_wp2_with fail
            refine (at_out_calls W _ hs a l cap _ hcap hlen hr HG.out (by omega)).mono ?_
            rintro _ _ ⟨rfl, y, rfl⟩
            generalize total l = T at *
            clear hg2
            go_wp2_with fail
            refine (awake_calls W _ hs).mono ?_
            rintro _ _ ⟨rfl, y, rfl⟩
            go_wp2_with fail
            go_ret
            exact ⟨rfl, Hup.out _⟩
      · have hd : decide (300 < total l) = true := decide_eq_true (by omega)
        go_wp2_with fail
        refine (awake_calls W _ hs).mono ?_
        rintro _ _ ⟨rfl, y, rfl⟩
        go_wp2_with fail
        go_ret
        exact ⟨rfl, Hup.out _⟩
    · go_wp2_with fail
      refine (tot_no_calls W _ a l cap hcap hlen hr hg).mono ?_
      rintro _ _ ⟨rfl, y, rfl⟩
      go_wp2_with fail
      refine (awake_calls W _ hs).mono ?_
      rintro _ _ ⟨rfl, y, rfl⟩
      go_wp2_with fail
      go_ret
      exact ⟨rfl, Hup.out _⟩
  · go_wp2_with fail
    refine (few_no W _ a l.length cap hlen hf).mono ?_
    rintro _ _ ⟨rfl, y, rfl⟩
    go_wp2_with fail
    refine (awake_calls W _ hs).mono ?_
    rintro _ _ ⟨rfl, y, rfl⟩
    go_wp2_with fail
    go_ret
    exact ⟨rfl, Hup.out _⟩
end Go.Proofs.YtmobdlddfoaocaaDoor
