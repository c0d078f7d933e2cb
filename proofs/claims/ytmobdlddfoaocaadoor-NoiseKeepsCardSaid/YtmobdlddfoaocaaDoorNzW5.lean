/- The walks of noise, fifth part: the reference's Total, At, the reference's At. -/
import Derived.Test.YtmobdlddfoaocaaDoorNzW4
namespace Go.Proofs.YtmobdlddfoaocaaDoor
open Go.RowKit

set_option maxHeartbeats 1000000 in
theorem rtotal_calls (w : World) (x : Since w) (a : Option Addr) (l : List Int) (cap : Nat) (hlen : l.length ≤ 9223372036854775807) (hr : IntRow w a l) :
    Calls Tryd.prog 15 #[.agg #[.slice a l.length cap]] x.w fun e w' => e = .returned (.tuple #[.int .i64 (totalF l), .int .i64 (check l)]) ∧ ∃ y : Since w, w' = y.w := by
  by_cases hg : Good l
  · have hg0 : check l = 0 := check_good hg
    have hgt := Lib.hid (totalF_good hg)
    have HG := Lib.hid hg
    clear hg
    go_enter Tryd.func15, Tryd.ntmps15
    go_upto_region 1 with fail
    have hb0_0 : ∀ y : Since (x.w.alloc (.cells #[.slice a l.length cap] 24)), y.w.cell? ⟨x.w.heap.size, 0, none⟩ = some (.slice a l.length cap) := fun y => Since.cell (by simp [go_sem]) (by first | (simp; done) | (simp; omega)) y
    have hf0 : ∀ (y : Since (x.w.alloc (.cells #[.slice a l.length cap] 24))) (o : Nat), y.w.frozen? ⟨x.w.heap.size, o, none⟩ = false := fun y o => Since.free (by simp [go_sem]) (by first | (simp; done) | (simp; omega)) y
    have hWup : ∃ z : Since w, (x.w.alloc (.cells #[.slice a l.length cap] 24)) = z.w := x.alloc _
    obtain ⟨y0, hy0⟩ := Since.refl (x.w.alloc (.cells #[.slice a l.length cap] 24))
    have Hbx := Lib.hid (And.intro x.b.size (show x.w.heap.size + 1 = (x.w.alloc (.cells #[.slice a l.length cap] 24)).heap.size from by simp))
    generalize hW : (x.w.alloc (.cells #[.slice a l.length cap] 24)) = W at *
    clear hW
    generalize x.w.heap.size = bx at *
    have Hup := Lib.hid (Since.up hWup)
    rw [hy0]
    clear hy0
    replace hr := hr.to hWup
    clear hWup
    go_wp2_with fail
    refine (rcheck_calls W _ a l cap hlen hr).mono ?_
    rintro _ _ ⟨rfl, y, rfl⟩
    go_wp2_with fail
    go_loopw [5, 6] (fun s v wr => ∃ k : Nat, k ≤ 65 ∧ v = .int .i64 ((k : Int) - 32) ∧ s = .int .i64 (pre l k) ∧ ∃ y : Since W, wr = y.w) (fun _ v _ => (33 - (intOf v)).toNat)
    case atStart => exact ⟨0, by omega, rfl, rfl, _, rfl⟩
    case round =>
      obtain ⟨k, hk, rfl, rfl, y, rfl⟩ := hrel
      have hp := pre_bd HG.out k
      have hw := wt_bd HG.out ((k : Int) - 32)
      have hsucc := Lib.hid (pre_succ l k)
      have hwg := Lib.hid (weight_good HG.out ((k : Int) - 32))
      by_cases hlt : k < 65
      · go_wp2_with fail
        refine (rweight_calls W _ a l cap _ ?_ hlen hr).mono ?_
        · unfold I64; omega
        rintro _ _ ⟨rfl, y, rfl⟩
        rw [hwg.out]
        generalize pre l k = S at *
        generalize wt l ((k : Int) - 32) = T at *
        go_wp2_with fail
        go_roundw
        case rel => exact ⟨k + 1, by omega, by go_num, by rw [hsucc.out], _, rfl⟩
        case measure => simp [intOf]; omega
      · obtain rfl : k = 65 := by omega
        go_wp2_with fail
        go_ret2
        exact ⟨ret_two (hgt.out).symm (by first | rfl | exact hg0.symm), Hup.out _⟩
  · have hg0 : check l = 32 := check_bad hg
    have hgt := Lib.hid (totalF_bad hg)
    go_enter Tryd.func15, Tryd.ntmps15
    go_upto_region 1 with fail
    have hb0_0 : ∀ y : Since (x.w.alloc (.cells #[.slice a l.length cap] 24)), y.w.cell? ⟨x.w.heap.size, 0, none⟩ = some (.slice a l.length cap) := fun y => Since.cell (by simp [go_sem]) (by first | (simp; done) | (simp; omega)) y
    have hf0 : ∀ (y : Since (x.w.alloc (.cells #[.slice a l.length cap] 24))) (o : Nat), y.w.frozen? ⟨x.w.heap.size, o, none⟩ = false := fun y o => Since.free (by simp [go_sem]) (by first | (simp; done) | (simp; omega)) y
    have hWup : ∃ z : Since w, (x.w.alloc (.cells #[.slice a l.length cap] 24)) = z.w := x.alloc _
    obtain ⟨y0, hy0⟩ := Since.refl (x.w.alloc (.cells #[.slice a l.length cap] 24))
    have Hbx := Lib.hid (And.intro x.b.size (show x.w.heap.size + 1 = (x.w.alloc (.cells #[.slice a l.length cap] 24)).heap.size from by simp))
    generalize hW : (x.w.alloc (.cells #[.slice a l.length cap] 24)) = W at *
    clear hW
    generalize x.w.heap.size = bx at *
    have Hup := Lib.hid (Since.up hWup)
    rw [hy0]
    clear hy0
    replace hr := hr.to hWup
    clear hWup
    go_wp2_with fail
    refine (rcheck_calls W _ a l cap hlen hr).mono ?_
    rintro _ _ ⟨rfl, y, rfl⟩
    go_wp2_with fail
    go_ret2
    exact ⟨ret_two hgt.out.symm (by first | rfl | exact hg0.symm), Hup.out _⟩

/-- what At gives back -/
noncomputable def atE (l : List Int) (x : Int) : Int := open Classical in if Good l then (if 0 ≤ x ∧ x < total l then 0 else 1) else 32
noncomputable def atF (l : List Int) (x : Int) : Int := open Classical in if Good l ∧ 0 ≤ x ∧ x < total l then atV l x else 0
theorem at_bad {l : List Int} (h : ¬ Good l) (x : Int) : atE l x = 32 ∧ atF l x = 0 := by unfold atE atF; simp [h]
theorem at_out {l : List Int} (h : Good l) {x : Int} (hx : ¬ (0 ≤ x ∧ x < total l)) : atE l x = 1 ∧ atF l x = 0 := by unfold atE atF; simp [h, hx]
theorem at_in {l : List Int} (h : Good l) {x : Int} (h0 : 0 ≤ x) (h1 : x < total l) : atE l x = 0 ∧ atF l x = atV l x := by unfold atE atF; simp [h, h0, h1]

set_option maxHeartbeats 1000000 in
theorem at_calls (w : World) (x : Since w) (hs : Signs w) (a : Option Addr) (l : List Int) (cap : Nat) (n : Int) (hcap : l.length ≤ cap) (hlen : l.length ≤ 9223372036854775807) (hr : IntRow w a l) :
    Calls Tryd.prog 20 #[.agg #[.slice a l.length cap], .int .i64 n] x.w fun e w' => e = .returned (.tuple #[.int .i64 (atF l n), .int .i64 (atE l n)]) ∧ ∃ y : Since w, w' = y.w := by
  by_cases hg : Good l
  · have hg0 : check l = 0 := check_good hg
    have hgt := totalF_good hg
    have HG := Lib.hid hg
    have htb := total_bd hg
    have h1 := hg.1
    have h33 := hg.2.1
    clear hg
    by_cases hn : 0 ≤ n ∧ n < total l
    · obtain ⟨n0, n1⟩ := hn
      have hat := Lib.hid (at_in HG.out n0 n1)
      go_enter Tryd.func20, Tryd.ntmps20
      go_upto_region 1 with fail
      have hb0_0 : ∀ y : Since (x.w.alloc (.cells #[.slice a l.length cap] 24)), y.w.cell? ⟨x.w.heap.size, 0, none⟩ = some (.slice a l.length cap) := fun y => Since.cell (by simp [go_sem]) (by first | (simp; done) | (simp; omega)) y
      have hf0 : ∀ (y : Since (x.w.alloc (.cells #[.slice a l.length cap] 24))) (o : Nat), y.w.frozen? ⟨x.w.heap.size, o, none⟩ = false := fun y o => Since.free (by simp [go_sem]) (by first | (simp; done) | (simp; omega)) y
      have hWup : ∃ z : Since w, (x.w.alloc (.cells #[.slice a l.length cap] 24)) = z.w := x.alloc _
      obtain ⟨y0, hy0⟩ := Since.refl (x.w.alloc (.cells #[.slice a l.length cap] 24))
      have Hbx := Lib.hid (And.intro x.b.size (show x.w.heap.size + 1 = (x.w.alloc (.cells #[.slice a l.length cap] 24)).heap.size from by simp))
      generalize hW : (x.w.alloc (.cells #[.slice a l.length cap] 24)) = W at *
      clear hW
      generalize x.w.heap.size = bx at *
      have Hup := Lib.hid (Since.up hWup)
      rw [hy0]
      clear hy0
      replace hr := hr.to hWup
      replace hs := hs.to hWup
      clear hWup
      go_wp2_with fail
      refine (total_calls W _ a l cap hcap hlen hr).mono ?_
      rintro _ _ ⟨rfl, y, rfl⟩
      go_wp2_with fail
      go_loopw [1, 8] (fun s v wr => ∃ k : Nat, 33 - l.length ≤ k ∧ k ≤ 65 ∧ v = .int .i64 ((k : Int) - 32) ∧ s = .int .i64 (n - pre l k) ∧ pre l k ≤ n ∧ ∃ y : Since W, wr = y.w) (fun _ v _ => (33 - (intOf v)).toNat)
      case atStart => exact ⟨33 - l.length, by omega, by omega, by go_num, by rw [pre_start h33]; go_num, by rw [pre_start h33]; omega, _, rfl⟩
      case round =>
        obtain ⟨k, hk0, hk, rfl, rfl, hpk, y, rfl⟩ := hrel
        have hsucc := Lib.hid (pre_succ l k)
        have hp := pre_bd HG.out k
        have hw := wt_bd HG.out ((k : Int) - 32)
        have hlt : k < 65 := by
          rcases Nat.lt_or_ge k 65 with h | h
          · exact h
          · obtain rfl : k = 65 := by omega
            unfold total at n1; omega
        go_wp2_with fail
        refine (wt_calls W _ hs a l cap _ ?_ hlen hr).mono ?_
        · unfold I64; omega
        rintro _ _ ⟨rfl, y, rfl⟩
        by_cases hc : pre l (k + 1) ≤ n
        · have hc' : wt l ((k : Int) - 32) ≤ n - pre l k := by rw [hsucc.out] at hc; omega
          go_wp2_with fail
          refine (wt_calls W _ hs a l cap _ ?_ hlen hr).mono ?_
          · unfold I64; omega
          rintro _ _ ⟨rfl, y, rfl⟩
          generalize hS : pre l k = S at *
          generalize hT : wt l ((k : Int) - 32) = T at *
          clear hS hT
          go_wp2_with fail
          go_roundw
          case rel => exact ⟨k + 1, by omega, by omega, by go_num, by rw [hsucc.out]; go_num, hc, _, rfl⟩
          case measure => simp [intOf]; omega
        · have hc' : n - pre l k < wt l ((k : Int) - 32) := by rw [hsucc.out] at hc; omega
          have hres := Lib.hid (atV_eq HG.out ⟨k, hlt, rfl, hpk, by omega⟩)
          go_wp2_with fail
          go_ret2
          exact ⟨ret_two (by rw [hat.out.2, hres.out]) (by first | exact hat.out.1.symm), Hup.out _⟩
    · have hat := Lib.hid (at_out HG.out hn)
      have hn' : n < 0 ∨ total l ≤ n := by omega
      go_enter Tryd.func20, Tryd.ntmps20
      go_upto_region 1 with fail
      have hb0_0 : ∀ y : Since (x.w.alloc (.cells #[.slice a l.length cap] 24)), y.w.cell? ⟨x.w.heap.size, 0, none⟩ = some (.slice a l.length cap) := fun y => Since.cell (by simp [go_sem]) (by first | (simp; done) | (simp; omega)) y
      have hf0 : ∀ (y : Since (x.w.alloc (.cells #[.slice a l.length cap] 24))) (o : Nat), y.w.frozen? ⟨x.w.heap.size, o, none⟩ = false := fun y o => Since.free (by simp [go_sem]) (by first | (simp; done) | (simp; omega)) y
      have hWup : ∃ z : Since w, (x.w.alloc (.cells #[.slice a l.length cap] 24)) = z.w := x.alloc _
      obtain ⟨y0, hy0⟩ := Since.refl (x.w.alloc (.cells #[.slice a l.length cap] 24))
      have Hbx := Lib.hid (And.intro x.b.size (show x.w.heap.size + 1 = (x.w.alloc (.cells #[.slice a l.length cap] 24)).heap.size from by simp))
      generalize hW : (x.w.alloc (.cells #[.slice a l.length cap] 24)) = W at *
      clear hW
      generalize x.w.heap.size = bx at *
      have Hup := Lib.hid (Since.up hWup)
      rw [hy0]
      clear hy0
      replace hr := hr.to hWup
      replace hs := hs.to hWup
      clear hWup
      go_wp2_with fail
      refine (total_calls W _ a l cap hcap hlen hr).mono ?_
      rintro _ _ ⟨rfl, y, rfl⟩
      rcases hn' with hn' | hn'
      · go_wp2_with fail
        go_ret2
        exact ⟨ret_two hat.out.2.symm hat.out.1.symm, Hup.out _⟩
      · by_cases hn0 : n < 0
        all_goals
          go_wp2_with fail
          go_ret2
          exact ⟨ret_two hat.out.2.symm hat.out.1.symm, Hup.out _⟩
  · have hg0 : check l = 32 := check_bad hg
    have hgt := totalF_bad hg
    have hat := Lib.hid (at_bad hg n)
    go_enter Tryd.func20, Tryd.ntmps20
    go_upto_region 1 with fail
    have hb0_0 : ∀ y : Since (x.w.alloc (.cells #[.slice a l.length cap] 24)), y.w.cell? ⟨x.w.heap.size, 0, none⟩ = some (.slice a l.length cap) := fun y => Since.cell (by simp [go_sem]) (by first | (simp; done) | (simp; omega)) y
    have hf0 : ∀ (y : Since (x.w.alloc (.cells #[.slice a l.length cap] 24))) (o : Nat), y.w.frozen? ⟨x.w.heap.size, o, none⟩ = false := fun y o => Since.free (by simp [go_sem]) (by first | (simp; done) | (simp; omega)) y
    have hWup : ∃ z : Since w, (x.w.alloc (.cells #[.slice a l.length cap] 24)) = z.w := x.alloc _
    obtain ⟨y0, hy0⟩ := Since.refl (x.w.alloc (.cells #[.slice a l.length cap] 24))
    have Hbx := Lib.hid (And.intro x.b.size (show x.w.heap.size + 1 = (x.w.alloc (.cells #[.slice a l.length cap] 24)).heap.size from by simp))
    generalize hW : (x.w.alloc (.cells #[.slice a l.length cap] 24)) = W at *
    clear hW
    generalize x.w.heap.size = bx at *
    have Hup := Lib.hid (Since.up hWup)
    rw [hy0]
    clear hy0
    replace hr := hr.to hWup
    clear hWup
    go_wp2_with fail
    refine (total_calls W _ a l cap hcap hlen hr).mono ?_
    rintro _ _ ⟨rfl, y, rfl⟩
    go_wp2_with fail
    go_ret2
    exact ⟨ret_two hat.out.2.symm hat.out.1.symm, Hup.out _⟩
end Go.Proofs.YtmobdlddfoaocaaDoor
