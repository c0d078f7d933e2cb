/- The walk of the law NoiseMakes. -/
import Derived.Test.YtmobdlddfoaocaaDoorNzL4
namespace Go.Proofs.YtmobdlddfoaocaaDoor
open Go.RowKit

theorem sumN_one {f : Nat → Int} {n k : Nat} (hk : k < n) (h : ∀ i, i < n → i ≠ k → f i = 0) : sumN f n = f k := by
  have e1 : sumN f (k + 1) = f k := by rw [sumN_succ, sumN_nil (fun i hi => h i (by omega) (by omega))]; omega
  rw [sumN_tail (n := k + 1) (by omega) (fun i hi hi2 => h i hi2 (by omega)), e1]
theorem mk_up {num den : Int} (hr : Right num den) (i : Nat) : mk num den i * den ≤ num * mk num den (i + 1) := by
  have h1 := mk_mul_bd hr i
  have hn : 0 < num := by unfold Right at hr; omega
  show _ ≤ num * ((mk num den i * den + num - 1) / num)
  have h2 := Int.mul_ediv_add_emod (mk num den i * den + num - 1) num
  have h3 := Int.emod_lt_of_pos (mk num den i * den + num - 1) hn
  omega
theorem mk_down {num den : Int} (hr : Right num den) (i : Nat) : mk num den (i + 1) ≤ mk num den i := (mk_step hr (mk_bd hr i).1).2
theorem wt_mk {num den : Int} {n : Nat} {v : Int} (h : v.natAbs < n) : wt (mkL num den n) v = mk num den v.natAbs := by
  rw [wt_in (by rw [mkL_length]; exact h), mkL_at h]
theorem exv_mk {num den : Int} (hr : Right num den) {n : Nat} (hn : n ≤ 32) : exv (mkL num den (n + 1)) num den 1 = den * mk num den n := by
  have hden : 1 ≤ den := hr.1
  have hnd : den ≤ num := hr.2.1
  unfold exv
  rw [sumN_one (k := 32 - n) (by omega)]
  · unfold exT
    rw [wt_mk (by omega), wt_out (v := ((32 - n : Nat) : Int) - 32 - 1) (by rw [mkL_length]; omega)]
    have := mk_mul_bd hr n
    rw [show (((32 - n : Nat) : Int) - 32).natAbs = n by omega]
    have e : den * mk num den n = mk num den n * den := Int.mul_comm _ _
    omega
  · intro i hi hne
    unfold exT
    by_cases hout : n + 1 ≤ ((i : Int) - 32).natAbs
    · rw [wt_out (by rw [mkL_length]; exact hout)]
      have hb := (wt_bd (mkL_good hr (n := n + 1) (by omega) (by omega)) ((i : Int) - 32 - 1)).1
      have := Int.mul_nonneg (show (0 : Int) ≤ num by omega) hb
      omega
    · by_cases hpos : 32 < i
      · have hk : ∃ k : Nat, ((i : Int) - 32).natAbs = k + 1 ∧ ((i : Int) - 32 - 1).natAbs = k := ⟨i - 33, by omega, by omega⟩
        obtain ⟨k, e1, e2⟩ := hk
        rw [wt_mk (by omega), wt_mk (by omega), e1, e2]
        have h1 := mk_down hr k
        have h2 := mk_bd hr k
        have h3 := Int.mul_le_mul hnd h1 (by have := mk_bd hr (k + 1); omega) (by omega)
        omega
      · have hk : ∃ k : Nat, ((i : Int) - 32).natAbs = k ∧ ((i : Int) - 32 - 1).natAbs = k + 1 := ⟨32 - i, by omega, by omega⟩
        obtain ⟨k, e1, e2⟩ := hk
        rw [wt_mk (by omega), wt_mk (by omega), e1, e2]
        have h1 := mk_up hr k
        have e : den * mk num den k = mk num den k * den := Int.mul_comm _ _
        omega

theorem chk_ok_calls (w : World) (x : Since w) (a : Option Addr) (l : List Int) (cap : Nat) (hlen : l.length ≤ 9223372036854775807) (hr : IntRow w a l) (hg : Good l) :
    Calls Tryd.prog 16 #[.agg #[.slice a l.length cap]] x.w fun e w' => e = .returned (.int .i64 0) ∧ ∃ y : Since w, w' = y.w := by
  have hc := check_calls w x a l cap hlen hr
  rw [check_good hg] at hc
  exact hc
theorem rright_no (w : World) (x : Since w) (num den : Int) (h : ¬ Right num den) :
    Calls Tryd.prog 29 #[.agg #[.int .i64 num, .int .i64 den]] x.w fun e w' => e = .returned (.bool false) ∧ ∃ y : Since w, w' = y.w := by
  have hc := rright_calls w x num den
  rw [rightB_no h] at hc
  exact hc

set_option maxHeartbeats 2000000 in
theorem noiseMakes_calls (w : World) (x : Since w) (hs : Signs w) (r num den : Int) (hI : I64 r) :
    Calls Tryd.prog 10 #[.int .i64 r, .agg #[.int .i64 num, .int .i64 den]] x.w fun e w' => e = .returned (.bool true) ∧ ∃ y : Since w, w' = y.w := by
  unfold I64 at hI
  go_enter Tryd.func10, Tryd.ntmps10
  go_upto_region 1 with fail
  have hb0_0 : ∀ y : Since (x.w.alloc (.cells #[.int .i64 num, .int .i64 den] 34)), y.w.cell? ⟨x.w.heap.size, 0, none⟩ = some (.int .i64 num) := fun y => Since.cell (by simp [go_sem]) (by first | (simp; done) | (simp; omega)) y
  have hb0_1 : ∀ y : Since (x.w.alloc (.cells #[.int .i64 num, .int .i64 den] 34)), y.w.cell? ⟨x.w.heap.size, 1, none⟩ = some (.int .i64 den) := fun y => Since.cell (by simp [go_sem]) (by first | (simp; done) | (simp; omega)) y
  have hf0 : ∀ (y : Since (x.w.alloc (.cells #[.int .i64 num, .int .i64 den] 34))) (o : Nat), y.w.frozen? ⟨x.w.heap.size, o, none⟩ = false := fun y o => Since.free (by simp [go_sem]) (by first | (simp; done) | (simp; omega)) y
  have hWup : ∃ z : Since w, (x.w.alloc (.cells #[.int .i64 num, .int .i64 den] 34)) = z.w := x.alloc _
  obtain ⟨y0, hy0⟩ := Since.refl (x.w.alloc (.cells #[.int .i64 num, .int .i64 den] 34))
  have Hbx := Lib.hid (And.intro x.b.size (show x.w.heap.size + 1 = (x.w.alloc (.cells #[.int .i64 num, .int .i64 den] 34)).heap.size from by simp))
  generalize hW : (x.w.alloc (.cells #[.int .i64 num, .int .i64 den] 34)) = W at *
  clear hW
  generalize x.w.heap.size = bx at *
  have Hup := Lib.hid (Since.up hWup)
  rw [hy0]
  clear hy0
  replace hs := hs.to hWup
  clear hWup
  by_cases hok : 0 ≤ r ∧ r ≤ 32 ∧ Right num den
  · go_wp2_with fail
    refine (make_calls W _ r num den).mono fun e w' h => ?_
    unfold Made at h; rw [if_pos hok] at h
    obtain ⟨r0, r1, hR⟩ := hok
    obtain ⟨n, rfl⟩ : ∃ n : Nat, r = n := ⟨r.toNat, by omega⟩
    rw [Int.toNat_natCast] at h
    have hlen : (mkL num den (n + 1)).length = n + 1 := mkL_length _ _ _
    have hgood := mkL_good hR (n := n + 1) (by omega) (by omega)
    have hex := exv_mk hR (n := n) (by omega)
    have h00 : at0 (mkL num den (n + 1)) 0 = 16777216 := mkL_at (by omega)
    have h0n : at0 (mkL num den (n + 1)) n = mk num den n := mkL_at (by omega)
    have hmb := mk_mul_bd hR n
    generalize mkL num den (n + 1) = l at *
    generalize mk num den n = m at *
    obtain ⟨_, rfl, a1, c1, rfl, hc1, y, rfl, hr1⟩ := h
    have hL0 : (n : Int) < (l.length : Int) := by omega
    have hL1 : ((l.length : Int) != (n : Int) + 1) = false := by simp; omega
    have hL2 : 0 < l.length := by omega
    have hL3 : (0 : Int) < (l.length : Int) := by omega
    have hL4 : l.length ≤ 33 := by omega
    obtain ⟨b, off, rfl, hblk, _⟩ := hr1 0 hL2
    have hnl : n < l.length := by omega
    have HL := Lib.hid hlen; clear hlen
    have HG := Lib.hid hgood; clear hgood
    have HX := Lib.hid hex; clear hex
    have H0 := Lib.hid h00; clear h00
    have Hn := Lib.hid h0n; clear h0n
    have HR := Lib.hid hR; clear hR
    have he : den * m = m * den := Int.mul_comm _ _
    rw [← he] at hmb
    clear he
    go_upto_region 2 with fail
    have hcell0 : (y.w.alloc (.cells #[.slice (some ⟨b, off, none⟩) l.length c1] 24)).cell? ⟨y.w.heap.size, 0, none⟩ = some (.slice (some ⟨b, off, none⟩) l.length c1) := by simp [go_sem]
    have hlt0 : y.w.heap.size < (y.w.alloc (.cells #[.slice (some ⟨b, off, none⟩) l.length c1] 24)).heap.size := by simp
    have hst0 : ∃ zz : Since y.w, y.w.alloc (.cells #[.slice (some ⟨b, off, none⟩) l.length c1] 24) = zz.w := ⟨⟨_, below_new _ _⟩, rfl⟩
    obtain ⟨y2, e2⟩ := y.alloc (.cells #[.slice (some ⟨b, off, none⟩) l.length c1] 24)
    rw [e2] at hcell0 hlt0 hst0 ⊢
    replace hr1 := hr1.to hst0
    clear e2 hst0
    generalize y.w.heap.size = g1 at *
    have hbox1 : ∀ q : Since y2.w, q.w.cell? ⟨g1, 0, none⟩ = some (.slice (some ⟨b, off, none⟩) l.length c1) := fun q => Since.cell hcell0 hlt0 q
    clear hcell0 hlt0
    replace hb0_0 : ∀ (y : Since y2.w), y.w.cell? ⟨bx, 0, none⟩ = some (.int .i64 num) := fun y => by obtain ⟨z, e⟩ := y2.trans y; rw [e]; exact hb0_0 z
    replace hb0_1 : ∀ (y : Since y2.w), y.w.cell? ⟨bx, 1, none⟩ = some (.int .i64 den) := fun y => by obtain ⟨z, e⟩ := y2.trans y; rw [e]; exact hb0_1 z
    replace hf0 : ∀ (y : Since y2.w) (o : Nat), y.w.frozen? ⟨bx, o, none⟩ = false := fun y o => by obtain ⟨z, e⟩ := y2.trans y; rw [e]; exact hf0 z o
    replace hs := hs.to ⟨y2, rfl⟩
    obtain ⟨q0, hq0⟩ := Since.refl y2.w
    rw [hq0]
    clear hq0
    have hcell0 : ∀ y : Since y2.w, y.w.cell? ⟨b, off, none⟩ = some (.int .i64 16777216) := fun y => by have := Since.at hr1 0 hL2 y; rw [H0.out] at this; simpa using this
    have hcelln : ∀ y : Since y2.w, y.w.cell? ⟨b, off + n, none⟩ = some (.int .i64 m) := fun y => by have := Since.at hr1 n hnl y; rw [Hn.out] at this; exact this
    go_wp2_with fail
    refine (chk_ok_calls y2.w q0 _ l c1 (by omega) hr1 HG.out).mono ?_
    rintro _ _ ⟨rfl, q1, rfl⟩
    go_wp2_with fail
    refine (ex_ok_calls y2.w q1 hs _ l c1 num den 1 (by omega) hr1 ⟨HG.out, HR.out, by omega, by omega⟩).mono ?_
    rintro _ _ ⟨rfl, q2, rfl⟩
    rw [HX.out]
    go_wp2_with fail
    refine wp_region_since (by kernel_rfl) (by kernel_rfl) ?_
    repeat (go_big_quiet_step ((go_at_call 13; exact awake_calls y2.w _ hs)))
    refine wpQuiet_nil ?_
    rintro _ ⟨q3, rfl⟩
    go_wp2_with fail
    go_ret
    exact ⟨rfl, by obtain ⟨u, e⟩ := y2.trans q3; rw [e]; exact Hup.out u⟩
  · have hMade : Made W r num den = fun e w' => e = .returned (.tuple #[.agg #[.slice none 0 0], .int .i64 1]) ∧ ∃ y : Since W, w' = y.w := by funext e w'; unfold Made; rw [if_neg hok]
    have hc : (r < 0) ∨ (0 ≤ r ∧ 32 < r) ∨ (0 ≤ r ∧ r ≤ 32 ∧ ¬ Right num den) := by
      by_cases h1 : r < 0
      · exact .inl h1
      · by_cases h2 : 32 < r
        · exact .inr (.inl ⟨by omega, h2⟩)
        · exact .inr (.inr ⟨by omega, by omega, fun h => hok ⟨by omega, by omega, h⟩⟩)
    clear hok
    have HM := Lib.hid hMade; clear hMade
    rcases hc with h | ⟨h, h'⟩ | ⟨h, h', h3⟩
    · go_wp2_with fail
      refine (make_calls W _ r num den).mono fun e w' h => ?_
      rw [HM.out] at h
      obtain ⟨rfl, y, rfl⟩ := h
      go_upto_region 2 with fail
      have hcell0 : (y.w.alloc (.cells #[.slice none 0 0] 24)).cell? ⟨y.w.heap.size, 0, none⟩ = some (.slice none 0 0) := by simp [go_sem]
      have hlt0 : y.w.heap.size < (y.w.alloc (.cells #[.slice none 0 0] 24)).heap.size := by simp
      have hst0 : ∃ zz : Since y.w, y.w.alloc (.cells #[.slice none 0 0] 24) = zz.w := ⟨⟨_, below_new _ _⟩, rfl⟩
      obtain ⟨y2, e2⟩ := y.alloc (.cells #[.slice none 0 0] 24)
      rw [e2] at hcell0 hlt0 hst0 ⊢
      skip
      clear e2 hst0
      generalize y.w.heap.size = g1 at *
      have hbox1 : ∀ q : Since y2.w, q.w.cell? ⟨g1, 0, none⟩ = some (.slice none 0 0) := fun q => Since.cell hcell0 hlt0 q
      clear hcell0 hlt0
      replace hb0_0 : ∀ (y : Since y2.w), y.w.cell? ⟨bx, 0, none⟩ = some (.int .i64 num) := fun y => by obtain ⟨z, e⟩ := y2.trans y; rw [e]; exact hb0_0 z
      replace hb0_1 : ∀ (y : Since y2.w), y.w.cell? ⟨bx, 1, none⟩ = some (.int .i64 den) := fun y => by obtain ⟨z, e⟩ := y2.trans y; rw [e]; exact hb0_1 z
      replace hf0 : ∀ (y : Since y2.w) (o : Nat), y.w.frozen? ⟨bx, o, none⟩ = false := fun y o => by obtain ⟨z, e⟩ := y2.trans y; rw [e]; exact hf0 z o
      replace hs := hs.to ⟨y2, rfl⟩
      obtain ⟨q0, hq0⟩ := Since.refl y2.w
      rw [hq0]
      clear hq0
      go_wp2_with fail
      refine (awake_calls y2.w _ hs).mono ?_
      rintro _ _ ⟨rfl, y, rfl⟩
      go_wp2_with fail
      go_ret
      exact ⟨rfl, by obtain ⟨u, e⟩ := y2.trans y; rw [e]; exact Hup.out u⟩
    · go_wp2_with fail
      refine (make_calls W _ r num den).mono fun e w' h => ?_
      rw [HM.out] at h
      obtain ⟨rfl, y, rfl⟩ := h
      go_upto_region 2 with fail
      have hcell0 : (y.w.alloc (.cells #[.slice none 0 0] 24)).cell? ⟨y.w.heap.size, 0, none⟩ = some (.slice none 0 0) := by simp [go_sem]
      have hlt0 : y.w.heap.size < (y.w.alloc (.cells #[.slice none 0 0] 24)).heap.size := by simp
      have hst0 : ∃ zz : Since y.w, y.w.alloc (.cells #[.slice none 0 0] 24) = zz.w := ⟨⟨_, below_new _ _⟩, rfl⟩
      obtain ⟨y2, e2⟩ := y.alloc (.cells #[.slice none 0 0] 24)
      rw [e2] at hcell0 hlt0 hst0 ⊢
      skip
      clear e2 hst0
      generalize y.w.heap.size = g1 at *
      have hbox1 : ∀ q : Since y2.w, q.w.cell? ⟨g1, 0, none⟩ = some (.slice none 0 0) := fun q => Since.cell hcell0 hlt0 q
      clear hcell0 hlt0
      replace hb0_0 : ∀ (y : Since y2.w), y.w.cell? ⟨bx, 0, none⟩ = some (.int .i64 num) := fun y => by obtain ⟨z, e⟩ := y2.trans y; rw [e]; exact hb0_0 z
      replace hb0_1 : ∀ (y : Since y2.w), y.w.cell? ⟨bx, 1, none⟩ = some (.int .i64 den) := fun y => by obtain ⟨z, e⟩ := y2.trans y; rw [e]; exact hb0_1 z
      replace hf0 : ∀ (y : Since y2.w) (o : Nat), y.w.frozen? ⟨bx, o, none⟩ = false := fun y o => by obtain ⟨z, e⟩ := y2.trans y; rw [e]; exact hf0 z o
      replace hs := hs.to ⟨y2, rfl⟩
      obtain ⟨q0, hq0⟩ := Since.refl y2.w
      rw [hq0]
      clear hq0
      go_wp2_with fail
      refine (awake_calls y2.w _ hs).mono ?_
      rintro _ _ ⟨rfl, y, rfl⟩
      go_wp2_with fail
      go_ret
      exact ⟨rfl, by obtain ⟨u, e⟩ := y2.trans y; rw [e]; exact Hup.out u⟩
    · have H3 := Lib.hid h3; clear h3
      go_wp2_with fail
      refine (make_calls W _ r num den).mono fun e w' h => ?_
      rw [HM.out] at h
      obtain ⟨rfl, y, rfl⟩ := h
      go_upto_region 2 with fail
      have hcell0 : (y.w.alloc (.cells #[.slice none 0 0] 24)).cell? ⟨y.w.heap.size, 0, none⟩ = some (.slice none 0 0) := by simp [go_sem]
      have hlt0 : y.w.heap.size < (y.w.alloc (.cells #[.slice none 0 0] 24)).heap.size := by simp
      have hst0 : ∃ zz : Since y.w, y.w.alloc (.cells #[.slice none 0 0] 24) = zz.w := ⟨⟨_, below_new _ _⟩, rfl⟩
      obtain ⟨y2, e2⟩ := y.alloc (.cells #[.slice none 0 0] 24)
      rw [e2] at hcell0 hlt0 hst0 ⊢
      skip
      clear e2 hst0
      generalize y.w.heap.size = g1 at *
      have hbox1 : ∀ q : Since y2.w, q.w.cell? ⟨g1, 0, none⟩ = some (.slice none 0 0) := fun q => Since.cell hcell0 hlt0 q
      clear hcell0 hlt0
      replace hb0_0 : ∀ (y : Since y2.w), y.w.cell? ⟨bx, 0, none⟩ = some (.int .i64 num) := fun y => by obtain ⟨z, e⟩ := y2.trans y; rw [e]; exact hb0_0 z
      replace hb0_1 : ∀ (y : Since y2.w), y.w.cell? ⟨bx, 1, none⟩ = some (.int .i64 den) := fun y => by obtain ⟨z, e⟩ := y2.trans y; rw [e]; exact hb0_1 z
      replace hf0 : ∀ (y : Since y2.w) (o : Nat), y.w.frozen? ⟨bx, o, none⟩ = false := fun y o => by obtain ⟨z, e⟩ := y2.trans y; rw [e]; exact hf0 z o
      replace hs := hs.to ⟨y2, rfl⟩
      obtain ⟨q0, hq0⟩ := Since.refl y2.w
      rw [hq0]
      clear hq0
      go_wp2_with fail
      refine (rright_no y2.w _ num den H3.out).mono ?_
      rintro _ _ ⟨rfl, q1, rfl⟩
      go_wp2_with fail
      refine (awake_calls y2.w _ hs).mono ?_
      rintro _ _ ⟨rfl, y, rfl⟩
      go_wp2_with fail
      go_ret
      exact ⟨rfl, by obtain ⟨u, e⟩ := y2.trans y; rw [e]; exact Hup.out u⟩
end Go.Proofs.YtmobdlddfoaocaaDoor
