/- The walks of noise, sixth part: the reference's At, Excess. -/
import Derived.Test.YtmobdlddfoaocaaDoorNzW5
namespace Go.Proofs.YtmobdlddfoaocaaDoor
open Go.RowKit

set_option maxHeartbeats 1000000 in
theorem rat_calls (w : World) (x : Since w) (a : Option Addr) (l : List Int) (cap : Nat) (n : Int) (hlen : l.length ≤ 9223372036854775807) (hr : IntRow w a l) :
    Calls Tryd.prog 21 #[.agg #[.slice a l.length cap], .int .i64 n] x.w fun e w' => e = .returned (.tuple #[.int .i64 (atF l n), .int .i64 (atE l n)]) ∧ ∃ y : Since w, w' = y.w := by
  by_cases hg : Good l
  · have hg0 : check l = 0 := check_good hg
    have hgt := totalF_good hg
    have HG := Lib.hid hg
    have htb := total_bd hg
    have h1 := hg.1
    have h33 := hg.2.1
    clear hg
    by_cases hn : 0 ≤ n ∧ n < total l
    · obtain ⟨n0, n1⟩ := hn
      have hat := Lib.hid (at_in HG.out n0 n1)
      go_enter Tryd.func21, Tryd.ntmps21
      go_upto_region 1 with fail
      have hb0_0 : ∀ y : Since (x.w.alloc (.cells #[.slice a l.length cap] 24)), y.w.cell? ⟨x.w.heap.size, 0, none⟩ = some (.slice a l.length cap) := fun y => Since.cell (by simp [go_sem]) (by first | (simp; done) | (simp; omega)) y
      have hf0 : ∀ (y : Since (x.w.alloc (.cells #[.slice a l.length cap] 24))) (o : Nat), y.w.frozen? ⟨x.w.heap.size, o, none⟩ = false := fun y o => Since.free (by simp [go_sem]) (by first | (simp; done) | (simp; omega)) y
      have hWup : ∃ z : Since w, (x.w.alloc (.cells #[.slice a l.length cap] 24)) = z.w := x.alloc _
      obtain ⟨y0, hy0⟩ := Since.refl (x.w.alloc (.cells #[.slice a l.length cap] 24))
      have Hbx := Lib.hid (And.intro x.b.size (show x.w.heap.size + 1 = (x.w.alloc (.cells #[.slice a l.length cap] 24)).heap.size from by simp))
      generalize hW : (x.w.alloc (.cells #[.slice a l.length cap] 24)) = W at *
      clear hW
      generalize x.w.heap.size = bx at *
      have Hup := Lib.hid (Since.up hWup)
      rw [hy0]
      clear hy0
      replace hr := hr.to hWup
      clear hWup
      go_wp2_with fail
      refine (rtotal_calls W _ a l cap hlen hr).mono ?_
      rintro _ _ ⟨rfl, y, rfl⟩
      go_wp2_with fail
      go_loopw [8, 9] (fun s v wr => ∃ k : Nat, k ≤ 65 ∧ v = .int .i64 ((k : Int) - 32) ∧ s = .int .i64 (pre l k) ∧ pre l k ≤ n ∧ ∃ y : Since W, wr = y.w) (fun _ v _ => (33 - (intOf v)).toNat)
      case atStart => exact ⟨0, by omega, rfl, rfl, n0, _, rfl⟩
      case round =>
        obtain ⟨k, hk, rfl, rfl, hpk, y, rfl⟩ := hrel
        have hsucc := Lib.hid (pre_succ l k)
        have hp := pre_bd HG.out k
        have hw := wt_bd HG.out ((k : Int) - 32)
        have hwg := Lib.hid (weight_good HG.out ((k : Int) - 32))
        have hlt : k < 65 := by
          rcases Nat.lt_or_ge k 65 with h | h
          · exact h
          · obtain rfl : k = 65 := by omega
            unfold total at n1; omega
        go_wp2_with fail
        refine (rweight_calls W _ a l cap _ ?_ hlen hr).mono ?_
        · unfold I64; omega
        rintro _ _ ⟨rfl, y, rfl⟩
        rw [hwg.out]
        by_cases hc : pre l (k + 1) ≤ n
        · have hc' : pre l k + wt l ((k : Int) - 32) ≤ n := by rw [hsucc.out] at hc; omega
          generalize hS : pre l k = S at *
          generalize hT : wt l ((k : Int) - 32) = T at *
          clear hS hT
          go_wp2_with fail
          go_roundw
          case rel => exact ⟨k + 1, by omega, by go_num, by rw [hsucc.out], hc, _, rfl⟩
          case measure => simp [intOf]; omega
        · have hc' : n < pre l k + wt l ((k : Int) - 32) := by rw [hsucc.out] at hc; omega
          have hres := Lib.hid (atV_eq HG.out ⟨k, hlt, rfl, hpk, by omega⟩)
          go_wp2_with fail
          go_ret2
          exact ⟨ret_two (by rw [hat.out.2, hres.out]) (by first | exact hat.out.1.symm), Hup.out _⟩
    · have hat := Lib.hid (at_out HG.out hn)
      have hn' : n < 0 ∨ (0 ≤ n ∧ total l ≤ n) := by omega
      go_enter Tryd.func21, Tryd.ntmps21
      go_upto_region 1 with fail
      have hb0_0 : ∀ y : Since (x.w.alloc (.cells #[.slice a l.length cap] 24)), y.w.cell? ⟨x.w.heap.size, 0, none⟩ = some (.slice a l.length cap) := fun y => Since.cell (by simp [go_sem]) (by first | (simp; done) | (simp; omega)) y
      have hf0 : ∀ (y : Since (x.w.alloc (.cells #[.slice a l.length cap] 24))) (o : Nat), y.w.frozen? ⟨x.w.heap.size, o, none⟩ = false := fun y o => Since.free (by simp [go_sem]) (by first | (simp; done) | (simp; omega)) y
      have hWup : ∃ z : Since w, (x.w.alloc (.cells #[.slice a l.length cap] 24)) = z.w := x.alloc _
      obtain ⟨y0, hy0⟩ := Since.refl (x.w.alloc (.cells #[.slice a l.length cap] 24))
      have Hbx := Lib.hid (And.intro x.b.size (show x.w.heap.size + 1 = (x.w.alloc (.cells #[.slice a l.length cap] 24)).heap.size from by simp))
      generalize hW : (x.w.alloc (.cells #[.slice a l.length cap] 24)) = W at *
      clear hW
      generalize x.w.heap.size = bx at *
      have Hup := Lib.hid (Since.up hWup)
      rw [hy0]
      clear hy0
      replace hr := hr.to hWup
      clear hWup
      go_wp2_with fail
      refine (rtotal_calls W _ a l cap hlen hr).mono ?_
      rintro _ _ ⟨rfl, y, rfl⟩
      rcases hn' with hn' | ⟨hn', hn''⟩
      all_goals
        go_wp2_with fail
        go_ret2
        exact ⟨ret_two hat.out.2.symm hat.out.1.symm, Hup.out _⟩
  · have hg0 : check l = 32 := check_bad hg
    have hgt := totalF_bad hg
    have hat := Lib.hid (at_bad hg n)
    go_enter Tryd.func21, Tryd.ntmps21
    go_upto_region 1 with fail
    have hb0_0 : ∀ y : Since (x.w.alloc (.cells #[.slice a l.length cap] 24)), y.w.cell? ⟨x.w.heap.size, 0, none⟩ = some (.slice a l.length cap) := fun y => Since.cell (by simp [go_sem]) (by first | (simp; done) | (simp; omega)) y
    have hf0 : ∀ (y : Since (x.w.alloc (.cells #[.slice a l.length cap] 24))) (o : Nat), y.w.frozen? ⟨x.w.heap.size, o, none⟩ = false := fun y o => Since.free (by simp [go_sem]) (by first | (simp; done) | (simp; omega)) y
    have hWup : ∃ z : Since w, (x.w.alloc (.cells #[.slice a l.length cap] 24)) = z.w := x.alloc _
    obtain ⟨y0, hy0⟩ := Since.refl (x.w.alloc (.cells #[.slice a l.length cap] 24))
    have Hbx := Lib.hid (And.intro x.b.size (show x.w.heap.size + 1 = (x.w.alloc (.cells #[.slice a l.length cap] 24)).heap.size from by simp))
    generalize hW : (x.w.alloc (.cells #[.slice a l.length cap] 24)) = W at *
    clear hW
    generalize x.w.heap.size = bx at *
    have Hup := Lib.hid (Since.up hWup)
    rw [hy0]
    clear hy0
    replace hr := hr.to hWup
    clear hWup
    go_wp2_with fail
    refine (rtotal_calls W _ a l cap hlen hr).mono ?_
    rintro _ _ ⟨rfl, y, rfl⟩
    go_wp2_with fail
    go_ret2
    exact ⟨ret_two hat.out.2.symm hat.out.1.symm, Hup.out _⟩

/-- what Excess gives back -/
def ExOk (l : List Int) (num den s : Int) : Prop := Good l ∧ Right num den ∧ -64 ≤ s ∧ s ≤ 64
noncomputable def exE (l : List Int) (num den s : Int) : Int := open Classical in if Good l then (if ExOk l num den s then 0 else 1) else 32
noncomputable def exF (l : List Int) (num den s : Int) : Int := open Classical in if ExOk l num den s then exv l num den s else 0
theorem ex_bad {l : List Int} (h : ¬ Good l) (num den s : Int) : exE l num den s = 32 ∧ exF l num den s = 0 := by
  have : ¬ ExOk l num den s := fun h' => h h'.1
  unfold exE exF; simp [h, this]
theorem ex_out {l : List Int} (h : Good l) {num den s : Int} (hx : ¬ ExOk l num den s) : exE l num den s = 1 ∧ exF l num den s = 0 := by unfold exE exF; simp [h, hx]
theorem ex_in {l : List Int} {num den s : Int} (h : ExOk l num den s) : exE l num den s = 0 ∧ exF l num den s = exv l num den s := by unfold exE exF; simp [h, h.1]

set_option maxHeartbeats 1000000 in
theorem excess_calls (w : World) (x : Since w) (hs : Signs w) (a : Option Addr) (l : List Int) (cap : Nat) (num den s : Int) (hlen : l.length ≤ 9223372036854775807) (hr : IntRow w a l) :
    Calls Tryd.prog 25 #[.agg #[.slice a l.length cap], .agg #[.int .i64 num, .int .i64 den], .int .i64 s] x.w fun e w' => e = .returned (.tuple #[.int .i64 (exF l num den s), .int .i64 (exE l num den s)]) ∧ ∃ y : Since w, w' = y.w := by
  by_cases hg : Good l
  · have hg0 : check l = 0 := check_good hg
    by_cases hok : ExOk l num den s
    · have hex := Lib.hid (ex_in hok)
      have HR := Lib.hid hok.2.1
      have hrb := rightB_yes hok.2.1
      have s0 := hok.2.2.1
      have s1 := hok.2.2.2
      have h1 := hg.1
      have h33 := hg.2.1
      have HG := Lib.hid hg
      clear hg hok
      go_enter Tryd.func25, Tryd.ntmps25
      go_upto_region 1 with fail
      have hb0_0 : ∀ y : Since ((x.w.alloc (.cells #[.slice a l.length cap] 24)).alloc (.cells #[.int .i64 num, .int .i64 den] 34)), y.w.cell? ⟨x.w.heap.size, 0, none⟩ = some (.slice a l.length cap) := fun y => Since.cell (by simp [go_sem]) (by first | (simp; done) | (simp; omega)) y
      have hf0 : ∀ (y : Since ((x.w.alloc (.cells #[.slice a l.length cap] 24)).alloc (.cells #[.int .i64 num, .int .i64 den] 34))) (o : Nat), y.w.frozen? ⟨x.w.heap.size, o, none⟩ = false := fun y o => Since.free (by simp [go_sem]) (by first | (simp; done) | (simp; omega)) y
      have hb1_0 : ∀ y : Since ((x.w.alloc (.cells #[.slice a l.length cap] 24)).alloc (.cells #[.int .i64 num, .int .i64 den] 34)), y.w.cell? ⟨x.w.heap.size + 1, 0, none⟩ = some (.int .i64 num) := fun y => Since.cell (by simp [go_sem]) (by first | (simp; done) | (simp; omega)) y
      have hb1_1 : ∀ y : Since ((x.w.alloc (.cells #[.slice a l.length cap] 24)).alloc (.cells #[.int .i64 num, .int .i64 den] 34)), y.w.cell? ⟨x.w.heap.size + 1, 1, none⟩ = some (.int .i64 den) := fun y => Since.cell (by simp [go_sem]) (by first | (simp; done) | (simp; omega)) y
      have hf1 : ∀ (y : Since ((x.w.alloc (.cells #[.slice a l.length cap] 24)).alloc (.cells #[.int .i64 num, .int .i64 den] 34))) (o : Nat), y.w.frozen? ⟨x.w.heap.size + 1, o, none⟩ = false := fun y o => Since.free (by simp [go_sem]) (by first | (simp; done) | (simp; omega)) y
      have hWup : ∃ z : Since w, ((x.w.alloc (.cells #[.slice a l.length cap] 24)).alloc (.cells #[.int .i64 num, .int .i64 den] 34)) = z.w := Since.allocs x [.cells #[.slice a l.length cap] 24, .cells #[.int .i64 num, .int .i64 den] 34]
      obtain ⟨y0, hy0⟩ := Since.refl ((x.w.alloc (.cells #[.slice a l.length cap] 24)).alloc (.cells #[.int .i64 num, .int .i64 den] 34))
      have Hbx := Lib.hid (And.intro x.b.size (show x.w.heap.size + 2 = ((x.w.alloc (.cells #[.slice a l.length cap] 24)).alloc (.cells #[.int .i64 num, .int .i64 den] 34)).heap.size from by simp))
      generalize hW : ((x.w.alloc (.cells #[.slice a l.length cap] 24)).alloc (.cells #[.int .i64 num, .int .i64 den] 34)) = W at *
      clear hW
      generalize x.w.heap.size = bx at *
      have Hup := Lib.hid (Since.up hWup)
      rw [hy0]
      clear hy0
      replace hr := hr.to hWup
      replace hs := hs.to hWup
      clear hWup
      go_wp2_with fail
      refine (check_calls W _ a l cap hlen hr).mono ?_
      rintro _ _ ⟨rfl, y, rfl⟩
      go_wp2_with fail
      refine (right_calls W _ num den).mono ?_
      rintro _ _ ⟨rfl, y, rfl⟩
      go_wp2_with fail
      go_loopw [9, 10] (fun t v wr => ∃ k : Nat, 33 - l.length ≤ k ∧ k ≤ 32 + l.length ∧ v = .int .i64 ((k : Int) - 32) ∧ t = .int .i64 (sumN (exT l num den s) k) ∧ ∃ y : Since W, wr = y.w) (fun _ v _ => (33 - (intOf v)).toNat)
      case atStart => exact ⟨33 - l.length, by omega, by omega, by go_num, by rw [ex_start HG.out HR.out], _, rfl⟩
      case round =>
        obtain ⟨k, hk0, hk, rfl, rfl, y, rfl⟩ := hrel
        by_cases hlt : k < 32 + l.length
        · have hsucc := Lib.hid (sumN_succ (exT l num den s) k)
          have hsb := ex_sum_bd HG.out HR.out s k
          have hT := Lib.hid (show exT l num den s k = max 0 (den * wt l ((k : Int) - 32) - num * wt l ((k : Int) - 32 - s)) from rfl)
          have hTb := exT_bd HG.out HR.out s k
          have heb := ex_bd HG.out HR.out ((k : Int) - 32) ((k : Int) - 32 - s)
          generalize sumN (exT l num den s) k = S at *
          go_wp2_with fail
          refine wp_region_since (by kernel_rfl) (by kernel_rfl) ?_
          repeat (go_big_quiet_step ((first | (go_at_call 32; exact wt_calls W _ hs a l cap _ (by unfold I64; omega) hlen hr) | fail)))
          refine wpQuiet_nil ?_
          rintro _ ⟨y, rfl⟩
          go_wp2_with fail
          go_roundw
          case rel => exact ⟨k + 1, by omega, by omega, by go_num, by rw [hsucc.out, hT.out]; congr 1; omega, _, rfl⟩
          case measure => simp [intOf]; omega
        · obtain rfl : k = 32 + l.length := by omega
          have hend := Lib.hid (ex_end HG.out HR.out s)
          go_wp2_with fail
          go_ret2
          exact ⟨ret_two (by rw [hend.out]; exact hex.out.2.symm) (by first | exact hex.out.1.symm), Hup.out _⟩
    · have hex := Lib.hid (ex_out hg hok)
      have hc : (rightB num den = false) ∨ (rightB num den = true ∧ s < -64) ∨ (rightB num den = true ∧ -64 ≤ s ∧ 64 < s) := by
        by_cases hR : Right num den
        · have := rightB_yes hR
          by_cases h1 : s < -64
          · exact .inr (.inl ⟨this, h1⟩)
          · by_cases h2 : 64 < s
            · exact .inr (.inr ⟨this, by omega, h2⟩)
            · exact (hok ⟨hg, hR, by omega, by omega⟩).elim
        · exact .inl (rightB_no hR)
      clear hok hg
      go_enter Tryd.func25, Tryd.ntmps25
      go_upto_region 1 with fail
      have hb0_0 : ∀ y : Since ((x.w.alloc (.cells #[.slice a l.length cap] 24)).alloc (.cells #[.int .i64 num, .int .i64 den] 34)), y.w.cell? ⟨x.w.heap.size, 0, none⟩ = some (.slice a l.length cap) := fun y => Since.cell (by simp [go_sem]) (by first | (simp; done) | (simp; omega)) y
      have hf0 : ∀ (y : Since ((x.w.alloc (.cells #[.slice a l.length cap] 24)).alloc (.cells #[.int .i64 num, .int .i64 den] 34))) (o : Nat), y.w.frozen? ⟨x.w.heap.size, o, none⟩ = false := fun y o => Since.free (by simp [go_sem]) (by first | (simp; done) | (simp; omega)) y
      have hb1_0 : ∀ y : Since ((x.w.alloc (.cells #[.slice a l.length cap] 24)).alloc (.cells #[.int .i64 num, .int .i64 den] 34)), y.w.cell? ⟨x.w.heap.size + 1, 0, none⟩ = some (.int .i64 num) := fun y => Since.cell (by simp [go_sem]) (by first | (simp; done) | (simp; omega)) y
      have hb1_1 : ∀ y : Since ((x.w.alloc (.cells #[.slice a l.length cap] 24)).alloc (.cells #[.int .i64 num, .int .i64 den] 34)), y.w.cell? ⟨x.w.heap.size + 1, 1, none⟩ = some (.int .i64 den) := fun y => Since.cell (by simp [go_sem]) (by first | (simp; done) | (simp; omega)) y
      have hf1 : ∀ (y : Since ((x.w.alloc (.cells #[.slice a l.length cap] 24)).alloc (.cells #[.int .i64 num, .int .i64 den] 34))) (o : Nat), y.w.frozen? ⟨x.w.heap.size + 1, o, none⟩ = false := fun y o => Since.free (by simp [go_sem]) (by first | (simp; done) | (simp; omega)) y
      have hWup : ∃ z : Since w, ((x.w.alloc (.cells #[.slice a l.length cap] 24)).alloc (.cells #[.int .i64 num, .int .i64 den] 34)) = z.w := Since.allocs x [.cells #[.slice a l.length cap] 24, .cells #[.int .i64 num, .int .i64 den] 34]
      obtain ⟨y0, hy0⟩ := Since.refl ((x.w.alloc (.cells #[.slice a l.length cap] 24)).alloc (.cells #[.int .i64 num, .int .i64 den] 34))
      have Hbx := Lib.hid (And.intro x.b.size (show x.w.heap.size + 2 = ((x.w.alloc (.cells #[.slice a l.length cap] 24)).alloc (.cells #[.int .i64 num, .int .i64 den] 34)).heap.size from by simp))
      generalize hW : ((x.w.alloc (.cells #[.slice a l.length cap] 24)).alloc (.cells #[.int .i64 num, .int .i64 den] 34)) = W at *
      clear hW
      generalize x.w.heap.size = bx at *
      have Hup := Lib.hid (Since.up hWup)
      rw [hy0]
      clear hy0
      replace hr := hr.to hWup
      clear hWup
      go_wp2_with fail
      refine (check_calls W _ a l cap hlen hr).mono ?_
      rintro _ _ ⟨rfl, y, rfl⟩
      rcases hc with hc | ⟨hc, h1⟩ | ⟨hc, h1, h2⟩
      all_goals
        go_wp2_with fail
        refine (right_calls W _ num den).mono ?_
        rintro _ _ ⟨rfl, y, rfl⟩
        go_wp2_with fail
        go_ret2
        exact ⟨ret_two hex.out.2.symm hex.out.1.symm, Hup.out _⟩
  · have hg0 : check l = 32 := check_bad hg
    have hex := Lib.hid (ex_bad hg num den s)
    go_enter Tryd.func25, Tryd.ntmps25
    go_upto_region 1 with fail
    have hb0_0 : ∀ y : Since ((x.w.alloc (.cells #[.slice a l.length cap] 24)).alloc (.cells #[.int .i64 num, .int .i64 den] 34)), y.w.cell? ⟨x.w.heap.size, 0, none⟩ = some (.slice a l.length cap) := fun y => Since.cell (by simp [go_sem]) (by first | (simp; done) | (simp; omega)) y
    have hf0 : ∀ (y : Since ((x.w.alloc (.cells #[.slice a l.length cap] 24)).alloc (.cells #[.int .i64 num, .int .i64 den] 34))) (o : Nat), y.w.frozen? ⟨x.w.heap.size, o, none⟩ = false := fun y o => Since.free (by simp [go_sem]) (by first | (simp; done) | (simp; omega)) y
    have hb1_0 : ∀ y : Since ((x.w.alloc (.cells #[.slice a l.length cap] 24)).alloc (.cells #[.int .i64 num, .int .i64 den] 34)), y.w.cell? ⟨x.w.heap.size + 1, 0, none⟩ = some (.int .i64 num) := fun y => Since.cell (by simp [go_sem]) (by first | (simp; done) | (simp; omega)) y
    have hb1_1 : ∀ y : Since ((x.w.alloc (.cells #[.slice a l.length cap] 24)).alloc (.cells #[.int .i64 num, .int .i64 den] 34)), y.w.cell? ⟨x.w.heap.size + 1, 1, none⟩ = some (.int .i64 den) := fun y => Since.cell (by simp [go_sem]) (by first | (simp; done) | (simp; omega)) y
    have hf1 : ∀ (y : Since ((x.w.alloc (.cells #[.slice a l.length cap] 24)).alloc (.cells #[.int .i64 num, .int .i64 den] 34))) (o : Nat), y.w.frozen? ⟨x.w.heap.size + 1, o, none⟩ = false := fun y o => Since.free (by simp [go_sem]) (by first | (simp; done) | (simp; omega)) y
    have hWup : ∃ z : Since w, ((x.w.alloc (.cells #[.slice a l.length cap] 24)).alloc (.cells #[.int .i64 num, .int .i64 den] 34)) = z.w := Since.allocs x [.cells #[.slice a l.length cap] 24, .cells #[.int .i64 num, .int .i64 den] 34]
    obtain ⟨y0, hy0⟩ := Since.refl ((x.w.alloc (.cells #[.slice a l.length cap] 24)).alloc (.cells #[.int .i64 num, .int .i64 den] 34))
    have Hbx := Lib.hid (And.intro x.b.size (show x.w.heap.size + 2 = ((x.w.alloc (.cells #[.slice a l.length cap] 24)).alloc (.cells #[.int .i64 num, .int .i64 den] 34)).heap.size from by simp))
    generalize hW : ((x.w.alloc (.cells #[.slice a l.length cap] 24)).alloc (.cells #[.int .i64 num, .int .i64 den] 34)) = W at *
    clear hW
    generalize x.w.heap.size = bx at *
    have Hup := Lib.hid (Since.up hWup)
    rw [hy0]
    clear hy0
    replace hr := hr.to hWup
    clear hWup
    go_wp2_with fail
    refine (check_calls W _ a l cap hlen hr).mono ?_
    rintro _ _ ⟨rfl, y, rfl⟩
    go_wp2_with fail
    go_ret2
    exact ⟨ret_two hex.out.2.symm hex.out.1.symm, Hup.out _⟩
theorem wg {l : List Int} (h : Good l) {v : Int} {w : World} (e : Ending) (w' : World) : (e = .returned (.int .i64 (weight l v)) ∧ ∃ y : Since w, w' = y.w) → (e = .returned (.int .i64 (wt l v)) ∧ ∃ y : Since w, w' = y.w) := by
  rw [weight_good h]; exact id

set_option maxHeartbeats 1000000 in
theorem rexcess_calls (w : World) (x : Since w) (a : Option Addr) (l : List Int) (cap : Nat) (num den s : Int) (hlen : l.length ≤ 9223372036854775807) (hr : IntRow w a l) :
    Calls Tryd.prog 26 #[.agg #[.slice a l.length cap], .agg #[.int .i64 num, .int .i64 den], .int .i64 s] x.w fun e w' => e = .returned (.tuple #[.int .i64 (exF l num den s), .int .i64 (exE l num den s)]) ∧ ∃ y : Since w, w' = y.w := by
  by_cases hg : Good l
  · have hg0 : check l = 0 := check_good hg
    by_cases hok : ExOk l num den s
    · have hex := Lib.hid (ex_in hok)
      have HR := Lib.hid hok.2.1
      have hrb := rightB_yes hok.2.1
      have s0 := hok.2.2.1
      have s1 := hok.2.2.2
      have h1 := hg.1
      have h33 := hg.2.1
      have HG := Lib.hid hg
      clear hg hok
      go_enter Tryd.func26, Tryd.ntmps26
      go_upto_region 1 with fail
      have hb0_0 : ∀ y : Since ((x.w.alloc (.cells #[.slice a l.length cap] 24)).alloc (.cells #[.int .i64 num, .int .i64 den] 34)), y.w.cell? ⟨x.w.heap.size, 0, none⟩ = some (.slice a l.length cap) := fun y => Since.cell (by simp [go_sem]) (by first | (simp; done) | (simp; omega)) y
      have hf0 : ∀ (y : Since ((x.w.alloc (.cells #[.slice a l.length cap] 24)).alloc (.cells #[.int .i64 num, .int .i64 den] 34))) (o : Nat), y.w.frozen? ⟨x.w.heap.size, o, none⟩ = false := fun y o => Since.free (by simp [go_sem]) (by first | (simp; done) | (simp; omega)) y
      have hb1_0 : ∀ y : Since ((x.w.alloc (.cells #[.slice a l.length cap] 24)).alloc (.cells #[.int .i64 num, .int .i64 den] 34)), y.w.cell? ⟨x.w.heap.size + 1, 0, none⟩ = some (.int .i64 num) := fun y => Since.cell (by simp [go_sem]) (by first | (simp; done) | (simp; omega)) y
      have hb1_1 : ∀ y : Since ((x.w.alloc (.cells #[.slice a l.length cap] 24)).alloc (.cells #[.int .i64 num, .int .i64 den] 34)), y.w.cell? ⟨x.w.heap.size + 1, 1, none⟩ = some (.int .i64 den) := fun y => Since.cell (by simp [go_sem]) (by first | (simp; done) | (simp; omega)) y
      have hf1 : ∀ (y : Since ((x.w.alloc (.cells #[.slice a l.length cap] 24)).alloc (.cells #[.int .i64 num, .int .i64 den] 34))) (o : Nat), y.w.frozen? ⟨x.w.heap.size + 1, o, none⟩ = false := fun y o => Since.free (by simp [go_sem]) (by first | (simp; done) | (simp; omega)) y
      have hWup : ∃ z : Since w, ((x.w.alloc (.cells #[.slice a l.length cap] 24)).alloc (.cells #[.int .i64 num, .int .i64 den] 34)) = z.w := Since.allocs x [.cells #[.slice a l.length cap] 24, .cells #[.int .i64 num, .int .i64 den] 34]
      obtain ⟨y0, hy0⟩ := Since.refl ((x.w.alloc (.cells #[.slice a l.length cap] 24)).alloc (.cells #[.int .i64 num, .int .i64 den] 34))
      have Hbx := Lib.hid (And.intro x.b.size (show x.w.heap.size + 2 = ((x.w.alloc (.cells #[.slice a l.length cap] 24)).alloc (.cells #[.int .i64 num, .int .i64 den] 34)).heap.size from by simp))
      generalize hW : ((x.w.alloc (.cells #[.slice a l.length cap] 24)).alloc (.cells #[.int .i64 num, .int .i64 den] 34)) = W at *
      clear hW
      generalize x.w.heap.size = bx at *
      have Hup := Lib.hid (Since.up hWup)
      rw [hy0]
      clear hy0
      replace hr := hr.to hWup
      clear hWup
      go_wp2_with fail
      refine (rcheck_calls W _ a l cap hlen hr).mono ?_
      rintro _ _ ⟨rfl, y, rfl⟩
      go_wp2_with fail
      refine (rright_calls W _ num den).mono ?_
      rintro _ _ ⟨rfl, y, rfl⟩
      go_wp2_with fail
      go_loopw [9, 10] (fun t v wr => ∃ k : Nat, k ≤ 65 ∧ v = .int .i64 ((k : Int) - 32) ∧ t = .int .i64 (sumN (exT l num den s) k) ∧ ∃ y : Since W, wr = y.w) (fun _ v _ => (33 - (intOf v)).toNat)
      case atStart => exact ⟨0, by omega, rfl, rfl, _, rfl⟩
      case round =>
        obtain ⟨k, hk, rfl, rfl, y, rfl⟩ := hrel
        by_cases hlt : k < 65
        · have hsucc := Lib.hid (sumN_succ (exT l num den s) k)
          have hsb := ex_sum_bd HG.out HR.out s k
          have hT := Lib.hid (show exT l num den s k = max 0 (den * wt l ((k : Int) - 32) - num * wt l ((k : Int) - 32 - s)) from rfl)
          have hTb := exT_bd HG.out HR.out s k
          have hw1 := Lib.hid (weight_good HG.out ((k : Int) - 32))
          have hw2 := Lib.hid (weight_good HG.out ((k : Int) - 32 - s))
          have heb := ex_bd HG.out HR.out ((k : Int) - 32) ((k : Int) - 32 - s)
          generalize sumN (exT l num den s) k = S at *
          go_wp2_with fail
          refine wp_region_since (by kernel_rfl) (by kernel_rfl) ?_
          repeat (go_big_quiet_step ((first | (go_at_call 19; refine (rweight_calls W _ a l cap _ (by unfold I64; omega) hlen hr).mono (wg HG.out)) | fail)))
          refine wpQuiet_nil ?_
          rintro _ ⟨y, rfl⟩
          go_wp2_with fail
          go_roundw
          case rel => exact ⟨k + 1, by omega, by go_num, by rw [hsucc.out, hT.out]; congr 1; omega, _, rfl⟩
          case measure => simp [intOf]; omega
        · obtain rfl : k = 65 := by omega
          have hend := Lib.hid (show sumN (exT l num den s) 65 = exv l num den s from rfl)
          go_wp2_with fail
          go_ret2
          exact ⟨ret_two (by rw [hend.out]; exact hex.out.2.symm) (by first | exact hex.out.1.symm), Hup.out _⟩
    · have hex := Lib.hid (ex_out hg hok)
      have hc : (rightB num den = false) ∨ (rightB num den = true ∧ s < -64) ∨ (rightB num den = true ∧ -64 ≤ s ∧ 64 < s) := by
        by_cases hR : Right num den
        · have := rightB_yes hR
          by_cases h1 : s < -64
          · exact .inr (.inl ⟨this, h1⟩)
          · by_cases h2 : 64 < s
            · exact .inr (.inr ⟨this, by omega, h2⟩)
            · exact (hok ⟨hg, hR, by omega, by omega⟩).elim
        · exact .inl (rightB_no hR)
      clear hok hg
      go_enter Tryd.func26, Tryd.ntmps26
      go_upto_region 1 with fail
      have hb0_0 : ∀ y : Since ((x.w.alloc (.cells #[.slice a l.length cap] 24)).alloc (.cells #[.int .i64 num, .int .i64 den] 34)), y.w.cell? ⟨x.w.heap.size, 0, none⟩ = some (.slice a l.length cap) := fun y => Since.cell (by simp [go_sem]) (by first | (simp; done) | (simp; omega)) y
      have hf0 : ∀ (y : Since ((x.w.alloc (.cells #[.slice a l.length cap] 24)).alloc (.cells #[.int .i64 num, .int .i64 den] 34))) (o : Nat), y.w.frozen? ⟨x.w.heap.size, o, none⟩ = false := fun y o => Since.free (by simp [go_sem]) (by first | (simp; done) | (simp; omega)) y
      have hb1_0 : ∀ y : Since ((x.w.alloc (.cells #[.slice a l.length cap] 24)).alloc (.cells #[.int .i64 num, .int .i64 den] 34)), y.w.cell? ⟨x.w.heap.size + 1, 0, none⟩ = some (.int .i64 num) := fun y => Since.cell (by simp [go_sem]) (by first | (simp; done) | (simp; omega)) y
      have hb1_1 : ∀ y : Since ((x.w.alloc (.cells #[.slice a l.length cap] 24)).alloc (.cells #[.int .i64 num, .int .i64 den] 34)), y.w.cell? ⟨x.w.heap.size + 1, 1, none⟩ = some (.int .i64 den) := fun y => Since.cell (by simp [go_sem]) (by first | (simp; done) | (simp; omega)) y
      have hf1 : ∀ (y : Since ((x.w.alloc (.cells #[.slice a l.length cap] 24)).alloc (.cells #[.int .i64 num, .int .i64 den] 34))) (o : Nat), y.w.frozen? ⟨x.w.heap.size + 1, o, none⟩ = false := fun y o => Since.free (by simp [go_sem]) (by first | (simp; done) | (simp; omega)) y
      have hWup : ∃ z : Since w, ((x.w.alloc (.cells #[.slice a l.length cap] 24)).alloc (.cells #[.int .i64 num, .int .i64 den] 34)) = z.w := Since.allocs x [.cells #[.slice a l.length cap] 24, .cells #[.int .i64 num, .int .i64 den] 34]
      obtain ⟨y0, hy0⟩ := Since.refl ((x.w.alloc (.cells #[.slice a l.length cap] 24)).alloc (.cells #[.int .i64 num, .int .i64 den] 34))
      have Hbx := Lib.hid (And.intro x.b.size (show x.w.heap.size + 2 = ((x.w.alloc (.cells #[.slice a l.length cap] 24)).alloc (.cells #[.int .i64 num, .int .i64 den] 34)).heap.size from by simp))
      generalize hW : ((x.w.alloc (.cells #[.slice a l.length cap] 24)).alloc (.cells #[.int .i64 num, .int .i64 den] 34)) = W at *
      clear hW
      generalize x.w.heap.size = bx at *
      have Hup := Lib.hid (Since.up hWup)
      rw [hy0]
      clear hy0
      replace hr := hr.to hWup
      clear hWup
      go_wp2_with fail
      refine (rcheck_calls W _ a l cap hlen hr).mono ?_
      rintro _ _ ⟨rfl, y, rfl⟩
      rcases hc with hc | ⟨hc, h1⟩ | ⟨hc, h1, h2⟩
      all_goals
        go_wp2_with fail
        refine (rright_calls W _ num den).mono ?_
        rintro _ _ ⟨rfl, y, rfl⟩
        go_wp2_with fail
        go_ret2
        exact ⟨ret_two hex.out.2.symm hex.out.1.symm, Hup.out _⟩
  · have hg0 : check l = 32 := check_bad hg
    have hex := Lib.hid (ex_bad hg num den s)
    go_enter Tryd.func26, Tryd.ntmps26
    go_upto_region 1 with fail
    have hb0_0 : ∀ y : Since ((x.w.alloc (.cells #[.slice a l.length cap] 24)).alloc (.cells #[.int .i64 num, .int .i64 den] 34)), y.w.cell? ⟨x.w.heap.size, 0, none⟩ = some (.slice a l.length cap) := fun y => Since.cell (by simp [go_sem]) (by first | (simp; done) | (simp; omega)) y
    have hf0 : ∀ (y : Since ((x.w.alloc (.cells #[.slice a l.length cap] 24)).alloc (.cells #[.int .i64 num, .int .i64 den] 34))) (o : Nat), y.w.frozen? ⟨x.w.heap.size, o, none⟩ = false := fun y o => Since.free (by simp [go_sem]) (by first | (simp; done) | (simp; omega)) y
    have hb1_0 : ∀ y : Since ((x.w.alloc (.cells #[.slice a l.length cap] 24)).alloc (.cells #[.int .i64 num, .int .i64 den] 34)), y.w.cell? ⟨x.w.heap.size + 1, 0, none⟩ = some (.int .i64 num) := fun y => Since.cell (by simp [go_sem]) (by first | (simp; done) | (simp; omega)) y
    have hb1_1 : ∀ y : Since ((x.w.alloc (.cells #[.slice a l.length cap] 24)).alloc (.cells #[.int .i64 num, .int .i64 den] 34)), y.w.cell? ⟨x.w.heap.size + 1, 1, none⟩ = some (.int .i64 den) := fun y => Since.cell (by simp [go_sem]) (by first | (simp; done) | (simp; omega)) y
    have hf1 : ∀ (y : Since ((x.w.alloc (.cells #[.slice a l.length cap] 24)).alloc (.cells #[.int .i64 num, .int .i64 den] 34))) (o : Nat), y.w.frozen? ⟨x.w.heap.size + 1, o, none⟩ = false := fun y o => Since.free (by simp [go_sem]) (by first | (simp; done) | (simp; omega)) y
    have hWup : ∃ z : Since w, ((x.w.alloc (.cells #[.slice a l.length cap] 24)).alloc (.cells #[.int .i64 num, .int .i64 den] 34)) = z.w := Since.allocs x [.cells #[.slice a l.length cap] 24, .cells #[.int .i64 num, .int .i64 den] 34]
    obtain ⟨y0, hy0⟩ := Since.refl ((x.w.alloc (.cells #[.slice a l.length cap] 24)).alloc (.cells #[.int .i64 num, .int .i64 den] 34))
    have Hbx := Lib.hid (And.intro x.b.size (show x.w.heap.size + 2 = ((x.w.alloc (.cells #[.slice a l.length cap] 24)).alloc (.cells #[.int .i64 num, .int .i64 den] 34)).heap.size from by simp))
    generalize hW : ((x.w.alloc (.cells #[.slice a l.length cap] 24)).alloc (.cells #[.int .i64 num, .int .i64 den] 34)) = W at *
    clear hW
    generalize x.w.heap.size = bx at *
    have Hup := Lib.hid (Since.up hWup)
    rw [hy0]
    clear hy0
    replace hr := hr.to hWup
    clear hWup
    go_wp2_with fail
    refine (rcheck_calls W _ a l cap hlen hr).mono ?_
    rintro _ _ ⟨rfl, y, rfl⟩
    go_wp2_with fail
    go_ret2
    exact ⟨ret_two hex.out.2.symm hex.out.1.symm, Hup.out _⟩
end Go.Proofs.YtmobdlddfoaocaaDoor
