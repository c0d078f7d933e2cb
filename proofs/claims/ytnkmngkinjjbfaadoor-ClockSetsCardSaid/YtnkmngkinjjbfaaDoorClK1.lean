/- The laws of windows, walked: ClockSets. -/
import Derived.Test.YtnkmngkinjjbfaaDoorClL2
set_option linter.all false
namespace Go.Proofs.YtnkmngkinjjbfaaDoor
open Go.RowKit

theorem few_calls (n m : Nat) (pa : Option Addr) (ca : Nat) (pb : Option Addr) (cb : Nat) (hn : n ≤ 9223372036854775807) (hm : m ≤ 9223372036854775807) (v : Bool) (hv : decide (n ≤ 40 ∧ m ≤ 40) = v) (w : World) :
    Calls Tryd.prog 24 #[.slice pa n ca, .slice pb m cb] w fun o w' => o = .returned (.bool v) ∧ w = w' := by
  rcases (by omega : 40 < n ∨ (n ≤ 40 ∧ 40 < m) ∨ (n ≤ 40 ∧ m ≤ 40)) with h | ⟨h, h'⟩ | ⟨h, h'⟩
  · obtain rfl : v = false := by rw [← hv]; exact decide_eq_false (by omega)
    clear hv
    go_enter Tryd.func24, Tryd.ntmps24
    go_wp2_with fail
    go_ret
    exact ⟨ret_bool (by first | rfl | (simp; done) | (simp; omega)), rfl⟩
  · obtain rfl : v = false := by rw [← hv]; exact decide_eq_false (by omega)
    clear hv
    go_enter Tryd.func24, Tryd.ntmps24
    go_wp2_with fail
    go_ret
    exact ⟨ret_bool (by first | rfl | (simp; done) | (simp; omega)), rfl⟩
  · obtain rfl : v = true := by rw [← hv]; exact decide_eq_true ⟨h, h'⟩
    clear hv
    go_enter Tryd.func24, Tryd.ntmps24
    go_wp2_with fail
    go_ret
    exact ⟨ret_bool (by first | rfl | (simp; done) | (simp; omega)), rfl⟩
theorem min_len {n m k : Nat} (h : k ≤ n * (m + 1)) (hn : n ≤ 40) (hm : m ≤ 40) : k ≤ 100000 := by
  have h1 : n * (m + 1) ≤ 40 * 41 := Nat.mul_le_mul hn (by omega)
  omega
set_option maxRecDepth 100000 in
set_option maxHeartbeats 8000000 in
theorem clockSets_calls (w : World) (x : Since w) (hT : Tabs w) (pa : Option Addr) (a : List Win) (ca : Nat) (pb : Option Addr) (b : List Win) (cb : Nat) (ha : WinRow w pa a) (hb : WinRow w pb b) (hla : a.length ≤ 9223372036854775807) (hlb : b.length ≤ 9223372036854775807) :
    Calls Tryd.prog 7 #[.slice pa a.length ca, .slice pb b.length cb] x.w fun o w' => o = .returned (.bool true) ∧ ∃ y : Since w, w' = y.w := by
  have HT := Lib.hid hT
  have HA := Lib.hid (Since.els ha x)
  have HB := Lib.hid (Since.els hb x)
  have Hf := Lib.hid (few_calls a.length b.length pa ca pb cb hla hlb)
  clear hT ha hb
  by_cases hf : a.length ≤ 40 ∧ b.length ≤ 40
  case neg =>
    have HF := Lib.hid (fun w => Hf.out false (by simp; omega) w)
    clear hf Hf
    go_enter Tryd.func7, Tryd.ntmps7
    go_wp2_with (first | (go_at_call 24; ((with_reducible refine (HF.out _).mono ?_); rintro _ _ ⟨rfl, rfl⟩)) | (go_at_call 11; ((with_reducible refine (awake_calls w x HT.out).mono ?_); rintro _ _ ⟨rfl, yz, rfl⟩)))
    go_ret
    exact ⟨rfl, yz, rfl⟩
  case pos =>
    have HF := Lib.hid (fun w => Hf.out true (by simp; omega) w)
    obtain ⟨hna, hnb⟩ := hf
    clear Hf
    go_enter Tryd.func7, Tryd.ntmps7
    go_upto_region 3 with (go_at_call 24; ((with_reducible refine (HF.out _).mono ?_); rintro _ _ ⟨rfl, rfl⟩))
    have he1 : (unE a == unE a) = true := by simp
    have he2 : (setE a b == setE a b) = true := by simp
    go_wp2_with fail
    refine (union_c (W := w) _ (IsSince.of x) pa a a.length ca rfl HA.out (by omega)).mono ?_
    rintro _ _ ⟨au, cu, u, y1, rfl, rfl, hz, hr, _, hq⟩
    replace HA := Lib.hid (HA.out.to hz)
    replace HB := Lib.hid (HB.out.to hz)
    clear hz
    have Hu := Lib.hid hr
    have Huo := Lib.hid hq
    clear hr hq
    go_wp2_with fail
    refine (runion_c (W := w) _ (IsSince.of y1) pa a a.length ca rfl HA.out (by omega)).mono ?_
    rintro _ _ ⟨av, cv, v, y2, rfl, rfl, hz, hr, _, hq⟩
    replace HA := Lib.hid (HA.out.to hz)
    replace HB := Lib.hid (HB.out.to hz)
    replace Hu := Lib.hid (Hu.out.to hz)
    clear hz
    obtain rfl := Huo.out.unique hq
    have Hv := Lib.hid hr
    have Hvo := Lib.hid hq
    clear hr hq
    go_wp2_with fail
    refine (common_c (W := w) _ (IsSince.of y2) pa a a.length ca pb b b.length cb rfl rfl HA.out HB.out (by omega) (by omega)).mono ?_
    rintro _ _ ⟨ac, cc, c, y3, rfl, rfl, hz, hr, _, hq⟩
    replace HA := Lib.hid (HA.out.to hz)
    replace HB := Lib.hid (HB.out.to hz)
    replace Hu := Lib.hid (Hu.out.to hz)
    replace Hv := Lib.hid (Hv.out.to hz)
    clear hz
    have Hc := Lib.hid hr
    have Hco := Lib.hid hq
    clear hr hq
    go_wp2_with fail
    refine (rcommon_c (W := w) _ (IsSince.of y3) pa a a.length ca pb b b.length cb rfl rfl HA.out HB.out (by omega) (by omega)).mono ?_
    rintro _ _ ⟨ad, cd, d, y4, rfl, rfl, hz, hr, _, hq⟩
    replace HA := Lib.hid (HA.out.to hz)
    replace HB := Lib.hid (HB.out.to hz)
    replace Hu := Lib.hid (Hu.out.to hz)
    replace Hv := Lib.hid (Hv.out.to hz)
    replace Hc := Lib.hid (Hc.out.to hz)
    clear hz
    obtain rfl := Hco.out.uniqueR hq
    have Hd := Lib.hid hr
    have Hdo := Lib.hid hq
    clear hr hq
    go_wp2_with fail
    refine (minus_c (W := w) _ (IsSince.of y4) pa a a.length ca pb b b.length cb rfl rfl HA.out HB.out (by omega) (by omega)).mono ?_
    rintro _ _ ⟨am, cm, m, y5, rfl, rfl, hz, hr, _, hq⟩
    replace HA := Lib.hid (HA.out.to hz)
    replace HB := Lib.hid (HB.out.to hz)
    replace Hu := Lib.hid (Hu.out.to hz)
    replace Hv := Lib.hid (Hv.out.to hz)
    replace Hc := Lib.hid (Hc.out.to hz)
    replace Hd := Lib.hid (Hd.out.to hz)
    clear hz
    have Hm := Lib.hid hr
    have Hmo := Lib.hid hq
    clear hr hq
    go_wp2_with fail
    refine (rminus_c (W := w) _ (IsSince.of y5) pa a a.length ca pb b b.length cb rfl rfl HA.out HB.out (by omega) (by omega)).mono ?_
    rintro _ _ ⟨ak, ck, k, y6, rfl, rfl, hz, hr, _, hq⟩
    replace HA := Lib.hid (HA.out.to hz)
    replace HB := Lib.hid (HB.out.to hz)
    replace Hu := Lib.hid (Hu.out.to hz)
    replace Hv := Lib.hid (Hv.out.to hz)
    replace Hc := Lib.hid (Hc.out.to hz)
    replace Hd := Lib.hid (Hd.out.to hz)
    replace Hm := Lib.hid (Hm.out.to hz)
    clear hz
    obtain rfl := Hmo.out.unique hq
    have Hk := Lib.hid hr
    have Hko := Lib.hid hq
    clear hr hq
    go_wp2_with fail
    refine (length_c (W := w) _ (IsSince.of y6) pa a a.length ca rfl HA.out (by omega)).mono ?_
    rintro _ _ ⟨z, y7, rfl, rfl, hz, hq⟩
    replace HA := Lib.hid (HA.out.to hz)
    replace HB := Lib.hid (HB.out.to hz)
    replace Hu := Lib.hid (Hu.out.to hz)
    replace Hv := Lib.hid (Hv.out.to hz)
    replace Hc := Lib.hid (Hc.out.to hz)
    replace Hd := Lib.hid (Hd.out.to hz)
    replace Hm := Lib.hid (Hm.out.to hz)
    replace Hk := Lib.hid (Hk.out.to hz)
    clear hz
    obtain rfl := Huo.out.unique hq
    clear hq
    go_wp2_with fail
    refine (rlength_c (W := w) _ (IsSince.of y7) pa a a.length ca rfl HA.out (by omega)).mono ?_
    rintro _ _ ⟨z, y8, rfl, rfl, hz, hq⟩
    replace HA := Lib.hid (HA.out.to hz)
    replace HB := Lib.hid (HB.out.to hz)
    replace Hu := Lib.hid (Hu.out.to hz)
    replace Hv := Lib.hid (Hv.out.to hz)
    replace Hc := Lib.hid (Hc.out.to hz)
    replace Hd := Lib.hid (Hd.out.to hz)
    replace Hm := Lib.hid (Hm.out.to hz)
    replace Hk := Lib.hid (Hk.out.to hz)
    clear hz
    obtain rfl := Huo.out.unique hq
    clear hq
    have he3 : (lenW u == lenW u) = true := by simp
    have hul : u.length ≤ 100000 := by have := Huo.out.n; omega
    have hcl : c.length ≤ 100000 := by have := Hco.out.n; omega
    have hml : m.length ≤ 100000 := min_len Hmo.out.n hna hnb
    go_wp2_with fail
    refine (same_c (W := w) _ (IsSince.of y8) au u u.length cu av u u.length cv rfl rfl Hu.out Hv.out hul hul true (decide_eq_true rfl)).mono ?_
    rintro _ _ ⟨rfl, y9, rfl, hz⟩
    replace HA := Lib.hid (HA.out.to hz)
    replace HB := Lib.hid (HB.out.to hz)
    replace Hu := Lib.hid (Hu.out.to hz)
    replace Hv := Lib.hid (Hv.out.to hz)
    replace Hc := Lib.hid (Hc.out.to hz)
    replace Hd := Lib.hid (Hd.out.to hz)
    replace Hm := Lib.hid (Hm.out.to hz)
    replace Hk := Lib.hid (Hk.out.to hz)
    clear hz
    go_wp2_with fail
    refine (same_c (W := w) _ (IsSince.of y9) ac c c.length cc ad c c.length cd rfl rfl Hc.out Hd.out hcl hcl true (decide_eq_true rfl)).mono ?_
    rintro _ _ ⟨rfl, y10, rfl, hz⟩
    replace HA := Lib.hid (HA.out.to hz)
    replace HB := Lib.hid (HB.out.to hz)
    replace Hu := Lib.hid (Hu.out.to hz)
    replace Hv := Lib.hid (Hv.out.to hz)
    replace Hc := Lib.hid (Hc.out.to hz)
    replace Hd := Lib.hid (Hd.out.to hz)
    replace Hm := Lib.hid (Hm.out.to hz)
    replace Hk := Lib.hid (Hk.out.to hz)
    clear hz
    go_wp2_with fail
    refine (same_c (W := w) _ (IsSince.of y10) am m m.length cm ak m m.length ck rfl rfl Hm.out Hk.out hml hml true (decide_eq_true rfl)).mono ?_
    rintro _ _ ⟨rfl, y11, rfl, hz⟩
    replace HA := Lib.hid (HA.out.to hz)
    replace HB := Lib.hid (HB.out.to hz)
    replace Hu := Lib.hid (Hu.out.to hz)
    replace Hv := Lib.hid (Hv.out.to hz)
    replace Hc := Lib.hid (Hc.out.to hz)
    replace Hd := Lib.hid (Hd.out.to hz)
    replace Hm := Lib.hid (Hm.out.to hz)
    replace Hk := Lib.hid (Hk.out.to hz)
    clear hz
    go_wp2_with fail
    refine (awake_calls w y11 HT.out).mono ?_
    rintro _ _ ⟨rfl, yz, rfl⟩
    go_wp2_with fail
    go_ret
    exact ⟨rfl, yz, rfl⟩
end Go.Proofs.YtnkmngkinjjbfaaDoor
