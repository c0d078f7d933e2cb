/- The walks of noise, third part: Weight, ratios. -/
import Derived.Test.YtmobdlddfoaocaaDoorNzW2
namespace Go.Proofs.YtmobdlddfoaocaaDoor
open Go.RowKit

set_option maxHeartbeats 1000000 in
theorem weight_calls (w : World) (x : Since w) (hs : Signs w) (a : Option Addr) (l : List Int) (cap : Nat) (v : Int) (hv : I64 v) (hlen : l.length ≤ 9223372036854775807) (hr : IntRow w a l) :
    Calls Tryd.prog 18 #[.agg #[.slice a l.length cap], .int .i64 v] x.w fun e w' => e = .returned (.int .i64 (weight l v)) ∧ ∃ y : Since w, w' = y.w := by
  by_cases hg : Good l
  · have hg0 : check l = 0 := check_good hg
    have hgw := weight_good hg v
    go_enter Tryd.func18, Tryd.ntmps18
    go_upto_region 1 with fail
    have hbx : ∀ y : Since (x.w.alloc (.cells #[.slice a l.length cap] 24)), y.w.cell? ⟨x.w.heap.size, 0, none⟩ = some (.slice a l.length cap) := fun y => Since.cell (by simp [go_sem]) (by simp) y
    have hWup : ∃ z : Since w, (x.w.alloc (.cells #[.slice a l.length cap] 24)) = z.w := x.alloc _
    obtain ⟨y0, hy0⟩ := Since.refl (x.w.alloc (.cells #[.slice a l.length cap] 24))
    generalize hW : x.w.alloc (.cells #[.slice a l.length cap] 24) = W at *
    clear hW
    generalize x.w.heap.size = bx at *
    have Hup := Lib.hid (Since.up hWup)
    rw [hy0]
    clear hy0
    replace hr := hr.to hWup
    replace hs := hs.to hWup
    clear hWup
    go_wp2_with fail
    refine (check_calls W _ a l cap hlen hr).mono ?_
    rintro _ _ ⟨rfl, y, rfl⟩
    go_wp2_with fail
    refine (wt_calls W _ hs a l cap v hv hlen hr).mono ?_
    rintro _ _ ⟨rfl, y, rfl⟩
    go_wp2_with fail
    go_ret
    exact ⟨ret_int hgw.symm, Hup.out _⟩
  · have hg0 : check l = 32 := check_bad hg
    have hgw := weight_bad hg v
    go_enter Tryd.func18, Tryd.ntmps18
    go_upto_region 1 with fail
    have hbx : ∀ y : Since (x.w.alloc (.cells #[.slice a l.length cap] 24)), y.w.cell? ⟨x.w.heap.size, 0, none⟩ = some (.slice a l.length cap) := fun y => Since.cell (by simp [go_sem]) (by simp) y
    have hWup : ∃ z : Since w, (x.w.alloc (.cells #[.slice a l.length cap] 24)) = z.w := x.alloc _
    obtain ⟨y0, hy0⟩ := Since.refl (x.w.alloc (.cells #[.slice a l.length cap] 24))
    generalize hW : x.w.alloc (.cells #[.slice a l.length cap] 24) = W at *
    clear hW
    generalize x.w.heap.size = bx at *
    have Hup := Lib.hid (Since.up hWup)
    rw [hy0]
    clear hy0
    replace hr := hr.to hWup
    clear hWup
    go_wp2_with fail
    refine (check_calls W _ a l cap hlen hr).mono ?_
    rintro _ _ ⟨rfl, y, rfl⟩
    go_wp2_with fail
    go_ret
    exact ⟨ret_int hgw.symm, Hup.out _⟩

set_option maxHeartbeats 1000000 in
theorem rweight_calls (w : World) (x : Since w) (a : Option Addr) (l : List Int) (cap : Nat) (v : Int) (hv : I64 v) (hlen : l.length ≤ 9223372036854775807) (hr : IntRow w a l) :
    Calls Tryd.prog 19 #[.agg #[.slice a l.length cap], .int .i64 v] x.w fun e w' => e = .returned (.int .i64 (weight l v)) ∧ ∃ y : Since w, w' = y.w := by
  obtain ⟨v0, v1⟩ := hv
  by_cases hg : Good l
  · have hg0 : check l = 0 := check_good hg
    have hgw := weight_good hg v
    have hl33 := hg.2.1
    clear hg
    rcases (by omega : v < -32 ∨ 32 < v ∨ (-32 ≤ v ∧ v < 0 ∧ (l.length : Int) ≤ -v) ∨ (0 ≤ v ∧ v ≤ 32 ∧ (l.length : Int) ≤ v) ∨ (-32 ≤ v ∧ v < 0 ∧ -v < (l.length : Int)) ∨ (0 ≤ v ∧ v ≤ 32 ∧ v < (l.length : Int))) with c | c | ⟨c, c', c''⟩ | ⟨c, c', c''⟩ | ⟨c, c', c''⟩ | ⟨c, c', c''⟩
    · have hw := Lib.hid (hgw.trans (wt_out (l := l) (v := v) (by omega)))
      clear hgw
      go_enter Tryd.func19, Tryd.ntmps19
      go_upto_region 1 with fail
      have hbx : ∀ y : Since (x.w.alloc (.cells #[.slice a l.length cap] 24)), y.w.cell? ⟨x.w.heap.size, 0, none⟩ = some (.slice a l.length cap) := fun y => Since.cell (by simp [go_sem]) (by simp) y
      have hWup : ∃ z : Since w, (x.w.alloc (.cells #[.slice a l.length cap] 24)) = z.w := x.alloc _
      obtain ⟨y0, hy0⟩ := Since.refl (x.w.alloc (.cells #[.slice a l.length cap] 24))
      generalize hW : x.w.alloc (.cells #[.slice a l.length cap] 24) = W at *
      clear hW
      generalize x.w.heap.size = bx at *
      have Hup := Lib.hid (Since.up hWup)
      rw [hy0]
      clear hy0
      replace hr := hr.to hWup
      clear hWup
      go_wp2_with fail
      refine (rcheck_calls W _ a l cap hlen hr).mono ?_
      rintro _ _ ⟨rfl, y, rfl⟩
      go_wp2_with fail
      go_ret
      exact ⟨ret_int hw.out.symm, Hup.out _⟩
    · have hw := Lib.hid (hgw.trans (wt_out (l := l) (v := v) (by omega)))
      clear hgw
      go_enter Tryd.func19, Tryd.ntmps19
      go_upto_region 1 with fail
      have hbx : ∀ y : Since (x.w.alloc (.cells #[.slice a l.length cap] 24)), y.w.cell? ⟨x.w.heap.size, 0, none⟩ = some (.slice a l.length cap) := fun y => Since.cell (by simp [go_sem]) (by simp) y
      have hWup : ∃ z : Since w, (x.w.alloc (.cells #[.slice a l.length cap] 24)) = z.w := x.alloc _
      obtain ⟨y0, hy0⟩ := Since.refl (x.w.alloc (.cells #[.slice a l.length cap] 24))
      generalize hW : x.w.alloc (.cells #[.slice a l.length cap] 24) = W at *
      clear hW
      generalize x.w.heap.size = bx at *
      have Hup := Lib.hid (Since.up hWup)
      rw [hy0]
      clear hy0
      replace hr := hr.to hWup
      clear hWup
      go_wp2_with fail
      refine (rcheck_calls W _ a l cap hlen hr).mono ?_
      rintro _ _ ⟨rfl, y, rfl⟩
      go_wp2_with fail
      go_ret
      exact ⟨ret_int hw.out.symm, Hup.out _⟩
    · have hw := Lib.hid (hgw.trans (wt_out (l := l) (v := v) (by omega)))
      clear hgw
      go_enter Tryd.func19, Tryd.ntmps19
      go_upto_region 1 with fail
      have hbx : ∀ y : Since (x.w.alloc (.cells #[.slice a l.length cap] 24)), y.w.cell? ⟨x.w.heap.size, 0, none⟩ = some (.slice a l.length cap) := fun y => Since.cell (by simp [go_sem]) (by simp) y
      have hWup : ∃ z : Since w, (x.w.alloc (.cells #[.slice a l.length cap] 24)) = z.w := x.alloc _
      obtain ⟨y0, hy0⟩ := Since.refl (x.w.alloc (.cells #[.slice a l.length cap] 24))
      generalize hW : x.w.alloc (.cells #[.slice a l.length cap] 24) = W at *
      clear hW
      generalize x.w.heap.size = bx at *
      have Hup := Lib.hid (Since.up hWup)
      rw [hy0]
      clear hy0
      replace hr := hr.to hWup
      clear hWup
      go_wp2_with fail
      refine (rcheck_calls W _ a l cap hlen hr).mono ?_
      rintro _ _ ⟨rfl, y, rfl⟩
      go_wp2_with fail
      go_ret
      exact ⟨ret_int hw.out.symm, Hup.out _⟩
    · have hw := Lib.hid (hgw.trans (wt_out (l := l) (v := v) (by omega)))
      clear hgw
      go_enter Tryd.func19, Tryd.ntmps19
      go_upto_region 1 with fail
      have hbx : ∀ y : Since (x.w.alloc (.cells #[.slice a l.length cap] 24)), y.w.cell? ⟨x.w.heap.size, 0, none⟩ = some (.slice a l.length cap) := fun y => Since.cell (by simp [go_sem]) (by simp) y
      have hWup : ∃ z : Since w, (x.w.alloc (.cells #[.slice a l.length cap] 24)) = z.w := x.alloc _
      obtain ⟨y0, hy0⟩ := Since.refl (x.w.alloc (.cells #[.slice a l.length cap] 24))
      generalize hW : x.w.alloc (.cells #[.slice a l.length cap] 24) = W at *
      clear hW
      generalize x.w.heap.size = bx at *
      have Hup := Lib.hid (Since.up hWup)
      rw [hy0]
      clear hy0
      replace hr := hr.to hWup
      clear hWup
      go_wp2_with fail
      refine (rcheck_calls W _ a l cap hlen hr).mono ?_
      rintro _ _ ⟨rfl, y, rfl⟩
      go_wp2_with fail
      go_ret
      exact ⟨ret_int hw.out.symm, Hup.out _⟩
    · obtain ⟨m, rfl⟩ : ∃ m : Nat, v = -(m : Int) := ⟨v.natAbs, by omega⟩
      have hm : m < l.length := by omega
      have hw := Lib.hid (hgw.trans (wt_in (l := l) (v := -(m : Int)) (by omega)))
      clear hgw
      go_enter Tryd.func19, Tryd.ntmps19
      go_upto_region 1 with fail
      have hbx : ∀ y : Since (x.w.alloc (.cells #[.slice a l.length cap] 24)), y.w.cell? ⟨x.w.heap.size, 0, none⟩ = some (.slice a l.length cap) := fun y => Since.cell (by simp [go_sem]) (by simp) y
      have hWup : ∃ z : Since w, (x.w.alloc (.cells #[.slice a l.length cap] 24)) = z.w := x.alloc _
      obtain ⟨y0, hy0⟩ := Since.refl (x.w.alloc (.cells #[.slice a l.length cap] 24))
      generalize hW : x.w.alloc (.cells #[.slice a l.length cap] 24) = W at *
      clear hW
      generalize x.w.heap.size = bx at *
      have Hup := Lib.hid (Since.up hWup)
      rw [hy0]
      clear hy0
      replace hr := hr.to hWup
      clear hWup
      go_wp2_with fail
      refine (rcheck_calls W _ a l cap hlen hr).mono ?_
      rintro _ _ ⟨rfl, y, rfl⟩
      obtain ⟨b, off, rfl, _, _⟩ := hr m hm
      have hcell : ∀ y : Since W, y.w.cell? ⟨b, off + m, none⟩ = some (.int .i64 (at0 l m)) := Since.at hr m hm
      clear hr
      go_wp2_with fail
      go_ret
      exact ⟨ret_int (by rw [hw.out]; first | rfl | (congr 1; omega)), Hup.out _⟩
    · obtain ⟨m, rfl⟩ : ∃ m : Nat, v = (m : Int) := ⟨v.natAbs, by omega⟩
      have hm : m < l.length := by omega
      have hw := Lib.hid (hgw.trans (wt_in (l := l) (v := (m : Int)) (by omega)))
      clear hgw
      go_enter Tryd.func19, Tryd.ntmps19
      go_upto_region 1 with fail
      have hbx : ∀ y : Since (x.w.alloc (.cells #[.slice a l.length cap] 24)), y.w.cell? ⟨x.w.heap.size, 0, none⟩ = some (.slice a l.length cap) := fun y => Since.cell (by simp [go_sem]) (by simp) y
      have hWup : ∃ z : Since w, (x.w.alloc (.cells #[.slice a l.length cap] 24)) = z.w := x.alloc _
      obtain ⟨y0, hy0⟩ := Since.refl (x.w.alloc (.cells #[.slice a l.length cap] 24))
      generalize hW : x.w.alloc (.cells #[.slice a l.length cap] 24) = W at *
      clear hW
      generalize x.w.heap.size = bx at *
      have Hup := Lib.hid (Since.up hWup)
      rw [hy0]
      clear hy0
      replace hr := hr.to hWup
      clear hWup
      go_wp2_with fail
      refine (rcheck_calls W _ a l cap hlen hr).mono ?_
      rintro _ _ ⟨rfl, y, rfl⟩
      obtain ⟨b, off, rfl, _, _⟩ := hr m hm
      have hcell : ∀ y : Since W, y.w.cell? ⟨b, off + m, none⟩ = some (.int .i64 (at0 l m)) := Since.at hr m hm
      clear hr
      go_wp2_with fail
      go_ret
      exact ⟨ret_int (by rw [hw.out]; first | rfl | (congr 1; omega)), Hup.out _⟩
  · have hg0 : check l = 32 := check_bad hg
    have hgw := weight_bad hg v
    go_enter Tryd.func19, Tryd.ntmps19
    go_upto_region 1 with fail
    have hbx : ∀ y : Since (x.w.alloc (.cells #[.slice a l.length cap] 24)), y.w.cell? ⟨x.w.heap.size, 0, none⟩ = some (.slice a l.length cap) := fun y => Since.cell (by simp [go_sem]) (by simp) y
    have hWup : ∃ z : Since w, (x.w.alloc (.cells #[.slice a l.length cap] 24)) = z.w := x.alloc _
    obtain ⟨y0, hy0⟩ := Since.refl (x.w.alloc (.cells #[.slice a l.length cap] 24))
    generalize hW : x.w.alloc (.cells #[.slice a l.length cap] 24) = W at *
    clear hW
    generalize x.w.heap.size = bx at *
    have Hup := Lib.hid (Since.up hWup)
    rw [hy0]
    clear hy0
    replace hr := hr.to hWup
    clear hWup
    go_wp2_with fail
    refine (rcheck_calls W _ a l cap hlen hr).mono ?_
    rintro _ _ ⟨rfl, y, rfl⟩
    go_wp2_with fail
    go_ret
    exact ⟨ret_int hgw.symm, Hup.out _⟩

theorem right_calls (w : World) (x : Since w) (num den : Int) :
    Calls Tryd.prog 33 #[.agg #[.int .i64 num, .int .i64 den]] x.w fun e w' => e = .returned (.bool (rightB num den)) ∧ ∃ y : Since w, w' = y.w := by
  go_enter Tryd.func33, Tryd.ntmps33
  go_wp2
  all_goals go_ret
  all_goals exact ⟨ret_bool (by rw [Bool.eq_iff_iff, rightB_iff]; unfold Right; simp; omega), x.alloc _⟩
theorem rright_calls (w : World) (x : Since w) (num den : Int) :
    Calls Tryd.prog 29 #[.agg #[.int .i64 num, .int .i64 den]] x.w fun e w' => e = .returned (.bool (rightB num den)) ∧ ∃ y : Since w, w' = y.w := by
  go_enter Tryd.func29, Tryd.ntmps29
  go_wp2
  all_goals go_ret
  all_goals exact ⟨ret_bool (by rw [Bool.eq_iff_iff, rightB_iff]; unfold Right; simp; omega), x.alloc _⟩
end Go.Proofs.YtmobdlddfoaocaaDoor
