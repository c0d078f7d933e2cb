/- The laws of windows, walked: ClockDays and ClockHours. -/
import Derived.Test.YtnkmngkinjjbfaaDoorClL2
set_option linter.all false
namespace Go.Proofs.YtnkmngkinjjbfaaDoor
open Go.RowKit

set_option maxRecDepth 100000 in
set_option maxHeartbeats 8000000 in
theorem clockDays_calls (w : World) (x : Since w) (hT : Tabs w) (t d : Int) (e : Win) :
    Calls Tryd.prog 5 #[.int .i64 t, .int .i64 d, .agg #[.int .i64 e.f, .int .i64 e.t]] x.w fun o w' => o = .returned (.bool true) ∧ ∃ y : Since w, w' = y.w := by
  have HT := Lib.hid hT
  have he1 : (dayV t == dayV t) = true := by simp
  have he2 : (momE t == momE t) = true := by simp
  have he3 : (slotV t == slotV t) = true := by simp
  have he4 : (wdV d == wdV d) = true := by simp
  have he5 : (wdE d == wdE d) = true := by simp
  have he6 : (vldW e == vldW e) = true := by simp
  have C1 := Lib.hid (fun w => day_calls t w)
  have C2 := Lib.hid (fun w => rday_calls t w)
  have C3 := Lib.hid (fun w => slot_calls t w)
  have C4 := Lib.hid (fun w => rslot_calls t w)
  have C5 := Lib.hid (fun w => wd_calls d w)
  have C6 := Lib.hid (fun w => rwd_calls d w)
  clear hT
  go_enter Tryd.func5, Tryd.ntmps5
  go_upto_region 1 with fail
  have hb0_0 : ∀ y : Since (x.w.alloc (.cells #[.int .i64 e.f, .int .i64 e.t] 30)), y.w.cell? ⟨x.w.heap.size, 0, none⟩ = some (.int .i64 e.f) := fun y => Since.cell (by simp [go_sem]) (by first | (simp; done) | (simp; omega)) y
  have hb0_1 : ∀ y : Since (x.w.alloc (.cells #[.int .i64 e.f, .int .i64 e.t] 30)), y.w.cell? ⟨x.w.heap.size, 1, none⟩ = some (.int .i64 e.t) := fun y => Since.cell (by simp [go_sem]) (by first | (simp; done) | (simp; omega)) y
  have hf0 : ∀ (y : Since (x.w.alloc (.cells #[.int .i64 e.f, .int .i64 e.t] 30))) (o : Nat), y.w.frozen? ⟨x.w.heap.size, o, none⟩ = false := fun y o => Since.free (by simp [go_sem]) (by first | (simp; done) | (simp; omega)) y
  have hWup : ∃ z : Since w, (x.w.alloc (.cells #[.int .i64 e.f, .int .i64 e.t] 30)) = z.w := x.alloc _
  obtain ⟨y0, hy0⟩ := Since.refl (x.w.alloc (.cells #[.int .i64 e.f, .int .i64 e.t] 30))
  have Hbx := Lib.hid (And.intro x.b.size (show x.w.heap.size + 1 = (x.w.alloc (.cells #[.int .i64 e.f, .int .i64 e.t] 30)).heap.size from by simp))
  generalize hW : (x.w.alloc (.cells #[.int .i64 e.f, .int .i64 e.t] 30)) = W at *
  clear hW
  generalize x.w.heap.size = bx at *
  have Hup := Lib.hid (Since.up hWup)
  rw [hy0]
  clear hy0
  have HTW := Lib.hid (show Tabs W by obtain ⟨z, hz⟩ := hWup; rw [hz]; exact HT.out.to z)
  clear hWup hf0
  go_wp2_with fail
  refine (C1.out _).mono ?_
  rintro _ _ ⟨rfl, rfl⟩
  go_wp2_with fail
  refine (C2.out _).mono ?_
  rintro _ _ ⟨rfl, rfl⟩
  go_wp2_with fail
  refine (C3.out _).mono ?_
  rintro _ _ ⟨rfl, rfl⟩
  go_wp2_with fail
  refine (C4.out _).mono ?_
  rintro _ _ ⟨rfl, rfl⟩
  go_wp2_with fail
  refine (C5.out _).mono ?_
  rintro _ _ ⟨rfl, rfl⟩
  go_wp2_with fail
  refine (C6.out _).mono ?_
  rintro _ _ ⟨rfl, rfl⟩
  clear C1 C2 C3 C4 C5 C6
  have Hv := Lib.hid (fun y : Since W => vw_calls W y e)
  have Hr := Lib.hid (fun y : Since W => rvw_calls W y e)
  have Ha := Lib.hid (fun y : Since W => awake_calls W y HTW.out)
  go_wp2_with fail
  refine wp_region_since (by kernel_rfl) (by kernel_rfl) ?_
  repeat (go_big_quiet_step ((first | (go_at_call 22; exact Hv.out _) | (go_at_call 23; exact Hr.out _) | (go_at_call 11; exact Ha.out _))))
  refine wpQuiet_nil ?_
  rintro _ ⟨z, rfl⟩
  go_wp2_with fail
  go_ret
  exact ⟨rfl, Hup.out z⟩
/-- what the law asks of a moment -/
theorem hour_next {t : Int} (h0 : 0 ≤ t) (h1 : t + 3600 ≤ 4294943999) : slotV (t + 3600) = (slotV t + 1) % 168 := by
  unfold slotV
  rw [if_pos ⟨by omega, h1⟩, if_pos ⟨h0, by omega⟩]
  omega
theorem hour_week {t : Int} (h0 : 0 ≤ t) (h1 : t + 604800 ≤ 4294943999) : slotV (t + 604800) = slotV t := by
  unfold slotV
  rw [if_pos ⟨by omega, h1⟩, if_pos ⟨h0, by omega⟩]
  omega
theorem mom_ok {t : Int} (h0 : 0 ≤ t) (h1 : t ≤ 4294943999) : momE t = 0 := if_pos ⟨h0, h1⟩
theorem mom_no {t : Int} (h : t < 0 ∨ 4294943999 < t) : momE t = 1 ∧ dayV t = 0 ∧ slotV t = 0 := by
  have : ¬ (0 ≤ t ∧ t ≤ 4294943999) := by omega
  exact ⟨if_neg this, if_neg this, if_neg this⟩
theorem mom_day {t : Int} (h0 : 0 ≤ t) (h1 : t ≤ 4294943999) : dayV t = t / 86400 ∧ slotV t = t / 3600 % 168 ∧ wdV (t / 86400) = t / 86400 % 7 ∧ wdE (t / 86400) = 0 :=
  ⟨if_pos ⟨h0, h1⟩, if_pos ⟨h0, h1⟩, if_pos ⟨by omega, by omega⟩, if_pos ⟨by omega, by omega⟩⟩
set_option maxRecDepth 100000 in
set_option maxHeartbeats 8000000 in
theorem clockHours_calls (w : World) (x : Since w) (hT : Tabs w) (t : Int) (ht : I64 t) :
    Calls Tryd.prog 6 #[.int .i64 t] x.w fun o w' => o = .returned (.bool true) ∧ ∃ y : Since w, w' = y.w := by
  have HT := Lib.hid hT
  have C1 := Lib.hid (fun w => day_calls t w)
  have C3 := Lib.hid (fun w => slot_calls t w)
  have Ha := Lib.hid (awake_calls w x hT)
  clear hT
  obtain ⟨t1, t2⟩ := ht
  by_cases hr : 0 ≤ t ∧ t ≤ 4294943999
  · obtain ⟨h0, h1⟩ := hr
    obtain ⟨k1, k2, k3, k4⟩ := mom_day h0 h1
    rw [k1, mom_ok h0 h1] at C1
    rw [k2, mom_ok h0 h1] at C3
    have C5 := Lib.hid (fun w => wd_calls (t / 86400) w)
    rw [k3, k4] at C5
    have C7 := Lib.hid (fun (h : t + 3600 ≤ 4294943999) w => show Calls Tryd.prog 18 #[.int .i64 (t + 3600)] w (Two ((t / 3600 % 168 + 1) % 168) 0 w) by
      have := slot_calls (t + 3600) w
      rwa [hour_next h0 h, mom_ok (by omega) h, k2] at this)
    have C8 := Lib.hid (fun (h : t + 604800 ≤ 4294943999) w => show Calls Tryd.prog 18 #[.int .i64 (t + 604800)] w (Two (t / 3600 % 168) 0 w) by
      have := slot_calls (t + 604800) w
      rwa [hour_week h0 h, mom_ok (by omega) h, k2] at this)
    clear k1 k2 k3 k4
    have Hn := Lib.hid (show 0 ≤ t / 3600 % 168 ∧ t / 3600 % 168 < 168 from ⟨by omega, by omega⟩)
    have Hk := Lib.hid (show t / 86400 % 7 = (t / 3600 % 168) / 24 by omega)
    have Hd := Lib.hid (show 0 ≤ t / 86400 ∧ t / 86400 ≤ 49709 ∧ t / 86400 * 86400 ≤ t ∧ t - t / 86400 * 86400 < 86400 from ⟨by omega, by omega, by omega, by omega⟩)
    generalize hN : t / 3600 % 168 = n at *
    generalize hK : t / 86400 % 7 = k at *
    generalize hD : t / 86400 = d at *
    clear hN hK hD
    obtain ⟨n1, n2⟩ := Hn.out
    obtain ⟨d1, d2, d3, d4⟩ := Hd.out
    obtain rfl := Hk.out
    have b1 : ¬ t < 0 := by omega
    have b2 : ¬ 4294943999 < t := by omega
    have b3 : ¬ n < 0 := by omega
    have b4 : ¬ 168 ≤ n := by omega
    have b5 : ¬ t < d * 86400 := by omega
    have b6 : ¬ 86400 ≤ t - d * 86400 := by omega
    have b7 : (n / 24 != n / 24) = false := by simp
    have b8 : ((n + 1) % 168 != (n + 1) % 168) = false := by simp
    have b9 : (n != n) = false := by simp
    clear Hk Hn Hd
    rcases (by omega : (t + 3600 ≤ 4294943999 ∧ t + 604800 ≤ 4294943999) ∨ (t + 3600 ≤ 4294943999 ∧ ¬ t + 604800 ≤ 4294943999) ∨ (¬ t + 3600 ≤ 4294943999 ∧ ¬ t + 604800 ≤ 4294943999)) with ⟨q1, q2⟩ | ⟨q1, q2⟩ | ⟨q1, q2⟩
    all_goals
      go_enter Tryd.func6, Tryd.ntmps6
      go_wp2_with (first | (go_at_call 18; (first | ((with_reducible refine (C3.out _).mono ?_); rintro _ _ ⟨rfl, rfl⟩) | ((with_reducible refine (C7.out (by assumption) _).mono ?_); rintro _ _ ⟨rfl, rfl⟩) | ((with_reducible refine (C8.out (by assumption) _).mono ?_); rintro _ _ ⟨rfl, rfl⟩))) | (go_at_call 16; ((with_reducible refine (C1.out _).mono ?_); rintro _ _ ⟨rfl, rfl⟩)) | (go_at_call 20; ((with_reducible refine (C5.out _).mono ?_); rintro _ _ ⟨rfl, rfl⟩)) | (go_at_call 11; ((with_reducible refine Ha.out.mono ?_); rintro _ _ ⟨rfl, yz, rfl⟩)))
      go_ret
      exact ⟨rfl, yz, rfl⟩
  · obtain ⟨k1, k2, k3⟩ := mom_no (t := t) (by omega)
    rw [k2, k1] at C1
    rw [k3, k1] at C3
    clear k1 k2 k3
    rcases (by omega : t < 0 ∨ (¬ t < 0 ∧ 4294943999 < t)) with h | ⟨h, h'⟩
    all_goals
      clear hr
      go_enter Tryd.func6, Tryd.ntmps6
      go_wp2_with (first | (go_at_call 18; ((with_reducible refine (C3.out _).mono ?_); rintro _ _ ⟨rfl, rfl⟩)) | (go_at_call 16; ((with_reducible refine (C1.out _).mono ?_); rintro _ _ ⟨rfl, rfl⟩)) | (go_at_call 11; ((with_reducible refine Ha.out.mono ?_); rintro _ _ ⟨rfl, yz, rfl⟩)))
      go_ret
      exact ⟨rfl, yz, rfl⟩
end Go.Proofs.YtnkmngkinjjbfaaDoor
