/- The walks of noise, fourth part: Total. -/
import Derived.Test.YtmobdlddfoaocaaDoorNzW3
namespace Go.Proofs.YtmobdlddfoaocaaDoor
open Go.RowKit

theorem ret_two {k j : IntKind} {a b c d : Int} (h : a = c) (h' : b = d) : Ending.returned (.tuple #[.int k a, .int j b]) = .returned (.tuple #[.int k c, .int j d]) := by rw [h, h']

set_option maxHeartbeats 1000000 in
theorem total_calls (w : World) (x : Since w) (a : Option Addr) (l : List Int) (cap : Nat) (hcap : l.length ≤ cap) (hlen : l.length ≤ 9223372036854775807) (hr : IntRow w a l) :
    Calls Tryd.prog 14 #[.agg #[.slice a l.length cap]] x.w fun e w' => e = .returned (.tuple #[.int .i64 (totalF l), .int .i64 (check l)]) ∧ ∃ y : Since w, w' = y.w := by
  by_cases hg : Good l
  · have hg0 : check l = 0 := check_good hg
    have hgt := Lib.hid ((totalF_good hg).trans (total_split hg.1 hg.2.1))
    have h1 := hg.1
    have h33 := hg.2.1
    have hbd := fun i hi => hg.2.2 i hi
    have HG := Lib.hid hg
    clear hg
    go_enter Tryd.func14, Tryd.ntmps14
    go_upto_region 1 with fail
    have hb0_0 : ∀ y : Since (x.w.alloc (.cells #[.slice a l.length cap] 24)), y.w.cell? ⟨x.w.heap.size, 0, none⟩ = some (.slice a l.length cap) := fun y => Since.cell (by simp [go_sem]) (by first | (simp; done) | (simp; omega)) y
    have hf0 : ∀ (y : Since (x.w.alloc (.cells #[.slice a l.length cap] 24))) (o : Nat), y.w.frozen? ⟨x.w.heap.size, o, none⟩ = false := fun y o => Since.free (by simp [go_sem]) (by first | (simp; done) | (simp; omega)) y
    have hWup : ∃ z : Since w, (x.w.alloc (.cells #[.slice a l.length cap] 24)) = z.w := x.alloc _
    obtain ⟨y0, hy0⟩ := Since.refl (x.w.alloc (.cells #[.slice a l.length cap] 24))
    have Hbx := Lib.hid (And.intro x.b.size (show x.w.heap.size + 1 = (x.w.alloc (.cells #[.slice a l.length cap] 24)).heap.size from by simp))
    generalize hW : (x.w.alloc (.cells #[.slice a l.length cap] 24)) = W at *
    clear hW
    generalize x.w.heap.size = bx at *
    have Hup := Lib.hid (Since.up hWup)
    rw [hy0]
    clear hy0
    replace hr := hr.to hWup
    clear hWup
    go_wp2_with fail
    refine (check_calls W _ a l cap hlen hr).mono ?_
    rintro _ _ ⟨rfl, y, rfl⟩
    obtain ⟨b, off, rfl, _, _⟩ := hr 0 h1
    have hcell : ∀ y : Since W, y.w.cell? ⟨b, off, none⟩ = some (.int .i64 (at0 l 0)) := Since.at hr 0 h1
    go_wp2_with fail
    have hr2 : Row W (cutA (some ⟨b, off, none⟩) 1 cap 1) (l.length - 1) fun i => .int .i64 (at0 l (i + 1)) := by
      have := hr.cut 1 cap hcap
      simpa [Nat.add_comm] using this
    generalize cutA (some ⟨b, off, none⟩) 1 cap 1 = a2 at *
    go_loop [5, 21] (fun s i => ∃ k : Nat, k ≤ l.length - 1 ∧ i = .int .i64 k ∧ s = .int .i64 (at0 l 0 + 2 * sumN (fun i => at0 l (i + 1)) k)) (fun _ i => l.length - 1 - (intOf i).toNat)
    case atStart => exact ⟨0, by omega, rfl, by simp [sumN]⟩
    case round =>
      obtain ⟨k, hk, rfl, rfl⟩ := hrel
      have hbd1 : ∀ i, i < l.length → 0 ≤ at0 l i ∧ at0 l i ≤ 16777216 := fun i hi => by have := hbd i hi; unfold okAt at this; omega
      have hs := sumN_bd (f := fun i => at0 l (i + 1)) (n := k) (B := 16777216) (fun i hi => hbd1 (i + 1) (by omega))
      have h0 := hbd1 0 (by omega)
      have hsucc := Lib.hid (sumN_succ (fun i => at0 l (i + 1)) k)
      by_cases hlt : k < l.length - 1
      · have hk1 := hbd1 (k + 1) (by omega)
        obtain ⟨b2, off2, rfl, _, _⟩ := hr2 k hlt
        have hcell2 : ∀ y : Since W, y.w.cell? ⟨b2, off2 + k, none⟩ = some (.int .i64 (at0 l (k + 1))) := Since.at hr2 k hlt
        clear hr2 hr hbd hbd1
        generalize sumN (fun i => at0 l (i + 1)) k = S at *
        have hS : S ≤ 536870912 := by omega
        go_wp2
        go_round
        case rel => exact ⟨k + 1, by omega, by go_num, by rw [hsucc.out]; go_num⟩
        case measure => simp [intOf]; omega
      · obtain rfl : k = l.length - 1 := by omega
        clear hbd hbd1
        go_wp2
        go_ret2
        exact ⟨ret_two (hgt.out).symm (by first | rfl | exact hg0.symm), Hup.out _⟩
  · have hg0 : check l = 32 := check_bad hg
    have hgt := Lib.hid (totalF_bad hg)
    go_enter Tryd.func14, Tryd.ntmps14
    go_upto_region 1 with fail
    have hb0_0 : ∀ y : Since (x.w.alloc (.cells #[.slice a l.length cap] 24)), y.w.cell? ⟨x.w.heap.size, 0, none⟩ = some (.slice a l.length cap) := fun y => Since.cell (by simp [go_sem]) (by first | (simp; done) | (simp; omega)) y
    have hf0 : ∀ (y : Since (x.w.alloc (.cells #[.slice a l.length cap] 24))) (o : Nat), y.w.frozen? ⟨x.w.heap.size, o, none⟩ = false := fun y o => Since.free (by simp [go_sem]) (by first | (simp; done) | (simp; omega)) y
    have hWup : ∃ z : Since w, (x.w.alloc (.cells #[.slice a l.length cap] 24)) = z.w := x.alloc _
    obtain ⟨y0, hy0⟩ := Since.refl (x.w.alloc (.cells #[.slice a l.length cap] 24))
    have Hbx := Lib.hid (And.intro x.b.size (show x.w.heap.size + 1 = (x.w.alloc (.cells #[.slice a l.length cap] 24)).heap.size from by simp))
    generalize hW : (x.w.alloc (.cells #[.slice a l.length cap] 24)) = W at *
    clear hW
    generalize x.w.heap.size = bx at *
    have Hup := Lib.hid (Since.up hWup)
    rw [hy0]
    clear hy0
    replace hr := hr.to hWup
    clear hWup
    go_wp2_with fail
    refine (check_calls W _ a l cap hlen hr).mono ?_
    rintro _ _ ⟨rfl, y, rfl⟩
    go_wp2_with fail
    go_ret2
    exact ⟨ret_two hgt.out.symm (by first | rfl | exact hg0.symm), Hup.out _⟩
end Go.Proofs.YtmobdlddfoaocaaDoor
