/- The walks of the program's check of a ride, first part: intervals, ranges. -/
import Derived.Test.YtbkfcdheckkjaaaRdCells
import Derived.Test.YtbkfcdheckkjaaaHeld
import Derived.Test.YtbkfcdheckkjaaaProg
set_option linter.all false
namespace Go.Proofs.Ytbkfcdheckkjaaa
open Go.RowKit

set_option maxHeartbeats 1000000 in
theorem vld_calls (w : World) (x : Since w) (lo hi : Int) :
    Calls Try.prog 52 #[.agg #[.int .i64 lo, .int .i64 hi]] x.w fun o w' => o = .returned (.bool (vldS lo hi)) ∧ ∃ y : Since w, w' = y.w := by
  rcases (by omega : lo < 0 ∨ (0 ≤ lo ∧ hi < lo) ∨ (0 ≤ lo ∧ lo ≤ hi ∧ 4294943999 < hi) ∨ (0 ≤ lo ∧ lo ≤ hi ∧ hi ≤ 4294943999)) with h1 | ⟨h1, h2⟩ | ⟨h1, h2, h3⟩ | ⟨h1, h2, h3⟩
  case inr.inr.inr =>
    have hv : vldS lo hi = true := (vldS_iff lo hi).2 ⟨h1, h2, h3⟩
    have Hv := Lib.hid hv; clear hv
    go_enter Try.func52, Try.ntmps52
    go_wp2_with fail
    go_ret
    exact ⟨ret_bool Hv.out.symm, x.alloc _⟩
  all_goals
    have hv : vldS lo hi = false := by
      cases h : vldS lo hi
      · rfl
      · rw [vldS_iff] at h; omega
    have Hv := Lib.hid hv; clear hv
    go_enter Try.func52, Try.ntmps52
    go_wp2_with fail
    go_ret
    exact ⟨ret_bool (by first | exact Hv.out.symm | (rw [Hv.out]; exact decide_eq_false (by omega))), x.alloc _⟩
theorem ranged_no {r : Ride} (h : headV r = false ∨ r.legs.all legV = false ∨ r.pauses.all pseV = false) : rangedB r = false := by
  unfold rangedB; rcases h with h | h | h <;> simp [h]
theorem ranged_yes {r : Ride} (h1 : headV r = true) (h2 : r.legs.all legV = true) (h3 : r.pauses.all pseV = true) : rangedB r = true := by
  unfold rangedB; rw [h1, h2, h3]; rfl
set_option maxRecDepth 100000 in
set_option maxHeartbeats 8000000 in
theorem ranged_calls (w : World) (x : Since w) (r : Ride) (h : r.At w) :
    Calls Try.prog 43 #[.agg #[.int .i64 r.id, .int .i64 r.rd, .int .i64 r.s0, .int .i64 r.s1, .int .i64 r.e0, .int .i64 r.e1, .bool r.op, .slice r.la r.legs.length r.lc, .slice r.pa r.pauses.length r.pc, .int .i64 r.fw, .int .i64 r.fp, .int .i64 r.wh, .int .i64 r.pl]] x.w fun o w' => o = .returned (.bool (rangedB r)) ∧ ∃ y : Since w, w' = y.w := by
  have HL := Lib.hid h.l; have HP := Lib.hid h.p
  have hlm := h.lm
  have hpm := h.pm
  clear h
  generalize r.la = la at HL ⊢
  generalize r.pa = pa at HP ⊢
  rcases (by omega : r.id < 1 ∨ (1 ≤ r.id ∧ 1000000 < r.id) ∨ (1 ≤ r.id ∧ r.id ≤ 1000000 ∧ r.rd < 0) ∨ (1 ≤ r.id ∧ r.id ≤ 1000000 ∧ 0 ≤ r.rd ∧ 127 < r.rd) ∨ (1 ≤ r.id ∧ r.id ≤ 1000000 ∧ 0 ≤ r.rd ∧ r.rd ≤ 127)) with h1 | ⟨h1, h2⟩ | ⟨h1, h2, h3⟩ | ⟨h1, h2, h3, h4⟩ | ⟨h1, h2, h3, h4⟩
  case inr.inr.inr.inr =>
    have hhead : headV r = (vldS r.s0 r.s1 && vldS r.e0 r.e1) := by unfold headV; simp [h1, h2, h3, h4]
    have Hhead := Lib.hid hhead
    clear hhead
    go_enter Try.func43, Try.ntmps43
    go_upto_region 1 with fail
    have hb0_0 : ∀ y : Since (x.w.alloc (.cells #[.int .i64 r.id, .int .i64 r.rd, .int .i64 r.s0, .int .i64 r.s1, .int .i64 r.e0, .int .i64 r.e1, .bool r.op, .slice la r.legs.length r.lc, .slice pa r.pauses.length r.pc, .int .i64 r.fw, .int .i64 r.fp, .int .i64 r.wh, .int .i64 r.pl] 44)), y.w.cell? ⟨x.w.heap.size, 0, none⟩ = some (.int .i64 r.id) := fun y => Since.cell (by simp [go_sem]) (by first | (simp; done) | (simp; omega)) y
    have hb0_1 : ∀ y : Since (x.w.alloc (.cells #[.int .i64 r.id, .int .i64 r.rd, .int .i64 r.s0, .int .i64 r.s1, .int .i64 r.e0, .int .i64 r.e1, .bool r.op, .slice la r.legs.length r.lc, .slice pa r.pauses.length r.pc, .int .i64 r.fw, .int .i64 r.fp, .int .i64 r.wh, .int .i64 r.pl] 44)), y.w.cell? ⟨x.w.heap.size, 1, none⟩ = some (.int .i64 r.rd) := fun y => Since.cell (by simp [go_sem]) (by first | (simp; done) | (simp; omega)) y
    have hb0_2 : ∀ y : Since (x.w.alloc (.cells #[.int .i64 r.id, .int .i64 r.rd, .int .i64 r.s0, .int .i64 r.s1, .int .i64 r.e0, .int .i64 r.e1, .bool r.op, .slice la r.legs.length r.lc, .slice pa r.pauses.length r.pc, .int .i64 r.fw, .int .i64 r.fp, .int .i64 r.wh, .int .i64 r.pl] 44)), y.w.cell? ⟨x.w.heap.size, 2, none⟩ = some (.int .i64 r.s0) := fun y => Since.cell (by simp [go_sem]) (by first | (simp; done) | (simp; omega)) y
    have hb0_3 : ∀ y : Since (x.w.alloc (.cells #[.int .i64 r.id, .int .i64 r.rd, .int .i64 r.s0, .int .i64 r.s1, .int .i64 r.e0, .int .i64 r.e1, .bool r.op, .slice la r.legs.length r.lc, .slice pa r.pauses.length r.pc, .int .i64 r.fw, .int .i64 r.fp, .int .i64 r.wh, .int .i64 r.pl] 44)), y.w.cell? ⟨x.w.heap.size, 3, none⟩ = some (.int .i64 r.s1) := fun y => Since.cell (by simp [go_sem]) (by first | (simp; done) | (simp; omega)) y
    have hb0_4 : ∀ y : Since (x.w.alloc (.cells #[.int .i64 r.id, .int .i64 r.rd, .int .i64 r.s0, .int .i64 r.s1, .int .i64 r.e0, .int .i64 r.e1, .bool r.op, .slice la r.legs.length r.lc, .slice pa r.pauses.length r.pc, .int .i64 r.fw, .int .i64 r.fp, .int .i64 r.wh, .int .i64 r.pl] 44)), y.w.cell? ⟨x.w.heap.size, 4, none⟩ = some (.int .i64 r.e0) := fun y => Since.cell (by simp [go_sem]) (by first | (simp; done) | (simp; omega)) y
    have hb0_5 : ∀ y : Since (x.w.alloc (.cells #[.int .i64 r.id, .int .i64 r.rd, .int .i64 r.s0, .int .i64 r.s1, .int .i64 r.e0, .int .i64 r.e1, .bool r.op, .slice la r.legs.length r.lc, .slice pa r.pauses.length r.pc, .int .i64 r.fw, .int .i64 r.fp, .int .i64 r.wh, .int .i64 r.pl] 44)), y.w.cell? ⟨x.w.heap.size, 5, none⟩ = some (.int .i64 r.e1) := fun y => Since.cell (by simp [go_sem]) (by first | (simp; done) | (simp; omega)) y
    have hb0_6 : ∀ y : Since (x.w.alloc (.cells #[.int .i64 r.id, .int .i64 r.rd, .int .i64 r.s0, .int .i64 r.s1, .int .i64 r.e0, .int .i64 r.e1, .bool r.op, .slice la r.legs.length r.lc, .slice pa r.pauses.length r.pc, .int .i64 r.fw, .int .i64 r.fp, .int .i64 r.wh, .int .i64 r.pl] 44)), y.w.cell? ⟨x.w.heap.size, 6, none⟩ = some (.bool r.op) := fun y => Since.cell (by simp [go_sem]) (by first | (simp; done) | (simp; omega)) y
    have hb0_7 : ∀ y : Since (x.w.alloc (.cells #[.int .i64 r.id, .int .i64 r.rd, .int .i64 r.s0, .int .i64 r.s1, .int .i64 r.e0, .int .i64 r.e1, .bool r.op, .slice la r.legs.length r.lc, .slice pa r.pauses.length r.pc, .int .i64 r.fw, .int .i64 r.fp, .int .i64 r.wh, .int .i64 r.pl] 44)), y.w.cell? ⟨x.w.heap.size, 7, none⟩ = some (.slice la r.legs.length r.lc) := fun y => Since.cell (by simp [go_sem]) (by first | (simp; done) | (simp; omega)) y
    have hb0_8 : ∀ y : Since (x.w.alloc (.cells #[.int .i64 r.id, .int .i64 r.rd, .int .i64 r.s0, .int .i64 r.s1, .int .i64 r.e0, .int .i64 r.e1, .bool r.op, .slice la r.legs.length r.lc, .slice pa r.pauses.length r.pc, .int .i64 r.fw, .int .i64 r.fp, .int .i64 r.wh, .int .i64 r.pl] 44)), y.w.cell? ⟨x.w.heap.size, 8, none⟩ = some (.slice pa r.pauses.length r.pc) := fun y => Since.cell (by simp [go_sem]) (by first | (simp; done) | (simp; omega)) y
    have hb0_9 : ∀ y : Since (x.w.alloc (.cells #[.int .i64 r.id, .int .i64 r.rd, .int .i64 r.s0, .int .i64 r.s1, .int .i64 r.e0, .int .i64 r.e1, .bool r.op, .slice la r.legs.length r.lc, .slice pa r.pauses.length r.pc, .int .i64 r.fw, .int .i64 r.fp, .int .i64 r.wh, .int .i64 r.pl] 44)), y.w.cell? ⟨x.w.heap.size, 9, none⟩ = some (.int .i64 r.fw) := fun y => Since.cell (by simp [go_sem]) (by first | (simp; done) | (simp; omega)) y
    have hb0_10 : ∀ y : Since (x.w.alloc (.cells #[.int .i64 r.id, .int .i64 r.rd, .int .i64 r.s0, .int .i64 r.s1, .int .i64 r.e0, .int .i64 r.e1, .bool r.op, .slice la r.legs.length r.lc, .slice pa r.pauses.length r.pc, .int .i64 r.fw, .int .i64 r.fp, .int .i64 r.wh, .int .i64 r.pl] 44)), y.w.cell? ⟨x.w.heap.size, 10, none⟩ = some (.int .i64 r.fp) := fun y => Since.cell (by simp [go_sem]) (by first | (simp; done) | (simp; omega)) y
    have hb0_11 : ∀ y : Since (x.w.alloc (.cells #[.int .i64 r.id, .int .i64 r.rd, .int .i64 r.s0, .int .i64 r.s1, .int .i64 r.e0, .int .i64 r.e1, .bool r.op, .slice la r.legs.length r.lc, .slice pa r.pauses.length r.pc, .int .i64 r.fw, .int .i64 r.fp, .int .i64 r.wh, .int .i64 r.pl] 44)), y.w.cell? ⟨x.w.heap.size, 11, none⟩ = some (.int .i64 r.wh) := fun y => Since.cell (by simp [go_sem]) (by first | (simp; done) | (simp; omega)) y
    have hb0_12 : ∀ y : Since (x.w.alloc (.cells #[.int .i64 r.id, .int .i64 r.rd, .int .i64 r.s0, .int .i64 r.s1, .int .i64 r.e0, .int .i64 r.e1, .bool r.op, .slice la r.legs.length r.lc, .slice pa r.pauses.length r.pc, .int .i64 r.fw, .int .i64 r.fp, .int .i64 r.wh, .int .i64 r.pl] 44)), y.w.cell? ⟨x.w.heap.size, 12, none⟩ = some (.int .i64 r.pl) := fun y => Since.cell (by simp [go_sem]) (by first | (simp; done) | (simp; omega)) y
    have hf0 : ∀ (y : Since (x.w.alloc (.cells #[.int .i64 r.id, .int .i64 r.rd, .int .i64 r.s0, .int .i64 r.s1, .int .i64 r.e0, .int .i64 r.e1, .bool r.op, .slice la r.legs.length r.lc, .slice pa r.pauses.length r.pc, .int .i64 r.fw, .int .i64 r.fp, .int .i64 r.wh, .int .i64 r.pl] 44))) (o : Nat), y.w.frozen? ⟨x.w.heap.size, o, none⟩ = false := fun y o => Since.free (by simp [go_sem]) (by first | (simp; done) | (simp; omega)) y
    have hWup : ∃ z : Since w, (x.w.alloc (.cells #[.int .i64 r.id, .int .i64 r.rd, .int .i64 r.s0, .int .i64 r.s1, .int .i64 r.e0, .int .i64 r.e1, .bool r.op, .slice la r.legs.length r.lc, .slice pa r.pauses.length r.pc, .int .i64 r.fw, .int .i64 r.fp, .int .i64 r.wh, .int .i64 r.pl] 44)) = z.w := x.alloc _
    obtain ⟨y0, hy0⟩ := Since.refl (x.w.alloc (.cells #[.int .i64 r.id, .int .i64 r.rd, .int .i64 r.s0, .int .i64 r.s1, .int .i64 r.e0, .int .i64 r.e1, .bool r.op, .slice la r.legs.length r.lc, .slice pa r.pauses.length r.pc, .int .i64 r.fw, .int .i64 r.fp, .int .i64 r.wh, .int .i64 r.pl] 44))
    have Hbx := Lib.hid (And.intro x.b.size (show x.w.heap.size + 1 = (x.w.alloc (.cells #[.int .i64 r.id, .int .i64 r.rd, .int .i64 r.s0, .int .i64 r.s1, .int .i64 r.e0, .int .i64 r.e1, .bool r.op, .slice la r.legs.length r.lc, .slice pa r.pauses.length r.pc, .int .i64 r.fw, .int .i64 r.fp, .int .i64 r.wh, .int .i64 r.pl] 44)).heap.size from by simp))
    generalize hW : (x.w.alloc (.cells #[.int .i64 r.id, .int .i64 r.rd, .int .i64 r.s0, .int .i64 r.s1, .int .i64 r.e0, .int .i64 r.e1, .bool r.op, .slice la r.legs.length r.lc, .slice pa r.pauses.length r.pc, .int .i64 r.fw, .int .i64 r.fp, .int .i64 r.wh, .int .i64 r.pl] 44)) = W at *
    clear hW
    generalize x.w.heap.size = bx at *
    have Hup := Lib.hid (Since.up hWup)
    rw [hy0]
    clear hy0
    replace HL := Lib.hid (HL.out.to hWup); replace HP := Lib.hid (HP.out.to hWup)
    clear hWup
    cases hs : vldS r.s0 r.s1 with
    | false =>
      have Hr := Lib.hid (ranged_no (r := r) (.inl (by rw [Hhead.out, hs]; rfl)))
      have Hs := Lib.hid hs; clear hs
      go_wp2_with (go_at_call 52; refine (vld_calls W _ _ _).mono ?_; rintro _ _ ⟨rfl, y1, rfl⟩; rw [Hs.out])
      go_ret
      exact ⟨ret_bool Hr.out.symm, Hup.out _⟩
    | true =>
      cases he : vldS r.e0 r.e1 with
      | false =>
        have Hr := Lib.hid (ranged_no (r := r) (.inl (by rw [Hhead.out, hs, he]; rfl)))
        have Hs := Lib.hid hs; have He := Lib.hid he; clear hs he
        go_wp2_with (first | (go_at_call 52; ((with_reducible refine (vld_calls W _ r.s0 r.s1).mono ?_); rintro _ _ ⟨rfl, y1, rfl⟩; rw [Hs.out])) | (go_at_call 52; ((with_reducible refine (vld_calls W _ r.e0 r.e1).mono ?_); rintro _ _ ⟨rfl, y1, rfl⟩; rw [He.out])))
        go_ret
        exact ⟨ret_bool Hr.out.symm, Hup.out _⟩
      | true =>
        have Hh := Lib.hid (show headV r = true by rw [Hhead.out, hs, he]; rfl)
        have Hs := Lib.hid hs; have He := Lib.hid he; clear hs he
        go_upto_region 4 with (first | (go_at_call 52; ((with_reducible refine (vld_calls W _ r.s0 r.s1).mono ?_); rintro _ _ ⟨rfl, y1, rfl⟩; rw [Hs.out])) | (go_at_call 52; ((with_reducible refine (vld_calls W _ r.e0 r.e1).mono ?_); rintro _ _ ⟨rfl, y1, rfl⟩; rw [He.out])))
        go_loopw [40] (fun i wr => ∃ (k : Nat) (y : Since W), k ≤ r.legs.length ∧ i = .int .i64 k ∧ wr = y.w ∧ ∀ j, j < k → ∀ e, r.legs[j]? = some e → legV e = true) (fun i _ => r.legs.length - (intOf i).toNat)
        case atStart => exact ⟨0, _, by omega, rfl, rfl, fun j hj => by omega⟩
        case round =>
          obtain ⟨k, y, hk, rfl, rfl, hok⟩ := hrel
          have Hok := Lib.hid hok; clear hok
          by_cases hlt : k < r.legs.length
          · obtain ⟨e, he⟩ : ∃ e, r.legs[k]? = some e := ⟨_, List.getElem?_eq_getElem hlt⟩
            obtain ⟨b1, off1, rfl, h1'⟩ := Els.leg HL.out he
            have pa0 := h1'.c0
            have pa1 := h1'.c1
            have pa2 := h1'.c2
            have pa3 := h1'.c3
            have pa4 := h1'.c4
            have hk0 : (0 : Int) ≤ (k : Int) := by omega
            have hkl : (k : Int) < (r.legs.length : Int) := by omega
            have He' := Lib.hid he; clear h1' he
            go_upto_region 6 with fail
            have hx0 : (y.w.alloc (.cells #[.int .i64 e.b, .int .i64 e.f0, .int .i64 e.f1, .int .i64 e.t0, .int .i64 e.t1] 69)).cell? ⟨y.w.heap.size, 0, none⟩ = some (.int .i64 e.b) := by simp [go_sem]
            have hx1 : (y.w.alloc (.cells #[.int .i64 e.b, .int .i64 e.f0, .int .i64 e.f1, .int .i64 e.t0, .int .i64 e.t1] 69)).cell? ⟨y.w.heap.size, 1, none⟩ = some (.int .i64 e.f0) := by simp [go_sem]
            have hx2 : (y.w.alloc (.cells #[.int .i64 e.b, .int .i64 e.f0, .int .i64 e.f1, .int .i64 e.t0, .int .i64 e.t1] 69)).cell? ⟨y.w.heap.size, 2, none⟩ = some (.int .i64 e.f1) := by simp [go_sem]
            have hx3 : (y.w.alloc (.cells #[.int .i64 e.b, .int .i64 e.f0, .int .i64 e.f1, .int .i64 e.t0, .int .i64 e.t1] 69)).cell? ⟨y.w.heap.size, 3, none⟩ = some (.int .i64 e.t0) := by simp [go_sem]
            have hx4 : (y.w.alloc (.cells #[.int .i64 e.b, .int .i64 e.f0, .int .i64 e.f1, .int .i64 e.t0, .int .i64 e.t1] 69)).cell? ⟨y.w.heap.size, 4, none⟩ = some (.int .i64 e.t1) := by simp [go_sem]
            have hxf : ∀ o, (y.w.alloc (.cells #[.int .i64 e.b, .int .i64 e.f0, .int .i64 e.f1, .int .i64 e.t0, .int .i64 e.t1] 69)).frozen? ⟨y.w.heap.size, o, none⟩ = false := fun o => by simp [go_sem]
            have hlt0 : y.w.heap.size < (y.w.alloc (.cells #[.int .i64 e.b, .int .i64 e.f0, .int .i64 e.f1, .int .i64 e.t0, .int .i64 e.t1] 69)).heap.size := by simp
            have hst0 : ∃ zz : Since y.w, (y.w.alloc (.cells #[.int .i64 e.b, .int .i64 e.f0, .int .i64 e.f1, .int .i64 e.t0, .int .i64 e.t1] 69)) = zz.w := IsSince.alloc (IsSince.self _) _
            have hsz0 := y.b.size
            obtain ⟨y2, e2⟩ := IsSince.alloc (IsSince.of y) (.cells #[.int .i64 e.b, .int .i64 e.f0, .int .i64 e.f1, .int .i64 e.t0, .int .i64 e.t1] 69)
            rw [e2] at hx0 hx1 hx2 hx3 hx4 hxf hlt0 hst0 ⊢
            skip
            clear e2 hst0
            generalize y.w.heap.size = g at *
            have Hhx0 : ∀ q : Since y2.w, q.w.cell? ⟨g, 0, none⟩ = some (.int .i64 e.b) := fun q => Since.cell hx0 (by omega) q
            have Hhx1 : ∀ q : Since y2.w, q.w.cell? ⟨g, 1, none⟩ = some (.int .i64 e.f0) := fun q => Since.cell hx1 (by omega) q
            have Hhx2 : ∀ q : Since y2.w, q.w.cell? ⟨g, 2, none⟩ = some (.int .i64 e.f1) := fun q => Since.cell hx2 (by omega) q
            have Hhx3 : ∀ q : Since y2.w, q.w.cell? ⟨g, 3, none⟩ = some (.int .i64 e.t0) := fun q => Since.cell hx3 (by omega) q
            have Hhx4 : ∀ q : Since y2.w, q.w.cell? ⟨g, 4, none⟩ = some (.int .i64 e.t1) := fun q => Since.cell hx4 (by omega) q
            have Hhxf : ∀ (q : Since y2.w) (o : Nat), q.w.frozen? ⟨g, o, none⟩ = false := fun q o => Since.free (hxf o) (by omega) q
            have Hhxg := Lib.hid (And.intro hsz0 hlt0)
            clear hlt0 hsz0
            obtain ⟨q0, hq0⟩ := Since.refl y2.w
            rw [hq0]
            clear hq0
            cases hf : vldS e.f0 e.f1 with
            | false =>
              have Hr := Lib.hid (ranged_no (r := r) (.inr <| .inl (all_no He'.out (by unfold legV; rw [hf]; rfl))))
              have Hf := Lib.hid hf; clear hf
              go_wp2_with (go_at_call 52; ((with_reducible refine (vld_calls y2.w _ e.f0 e.f1).mono ?_); rintro _ _ ⟨rfl, z1, rfl⟩; rw [Hf.out]))
              go_ret
              exact ⟨ret_bool Hr.out.symm, by obtain ⟨q, e⟩ := y2.trans z1; rw [e]; exact Hup.out q⟩
            | true =>
              have Hf := Lib.hid hf; clear hf
              cases ht : vldS e.t0 e.t1 with
              | false =>
                have Hr := Lib.hid (ranged_no (r := r) (.inr <| .inl (all_no He'.out (by unfold legV; rw [Hf.out, ht]; rfl))))
                have Ht := Lib.hid ht; clear ht
                go_wp2_with (first | (go_at_call 52; ((with_reducible refine (vld_calls y2.w _ e.f0 e.f1).mono ?_); rintro _ _ ⟨rfl, z1, rfl⟩; rw [Hf.out])) | (go_at_call 52; ((with_reducible refine (vld_calls y2.w _ e.t0 e.t1).mono ?_); rintro _ _ ⟨rfl, z1, rfl⟩; rw [Ht.out])))
                go_ret
                exact ⟨ret_bool Hr.out.symm, by obtain ⟨q, e⟩ := y2.trans z1; rw [e]; exact Hup.out q⟩
              | true =>
                have Hv := Lib.hid (show legV e = true by unfold legV; rw [Hf.out, ht]; rfl)
                have Ht := Lib.hid ht; clear ht
                go_wp2_with (first | (go_at_call 52; ((with_reducible refine (vld_calls y2.w _ e.f0 e.f1).mono ?_); rintro _ _ ⟨rfl, z1, rfl⟩; rw [Hf.out])) | (go_at_call 52; ((with_reducible refine (vld_calls y2.w _ e.t0 e.t1).mono ?_); rintro _ _ ⟨rfl, z1, rfl⟩; rw [Ht.out])))
                obtain ⟨q, eq⟩ := y2.trans z1
                rw [eq]
                go_roundw
                case rel => exact ⟨k + 1, q, by omega, by go_num, rfl, upto_next Hok.out He'.out Hv.out⟩
                case measure => simp [intOf] <;> omega
          · obtain rfl : k = r.legs.length := by omega
            have HvL := Lib.hid (all_yes Hok.out)
            go_upto_region 10 with fail
            go_loopw [58] (fun i wr => ∃ (k : Nat) (y : Since W), k ≤ r.pauses.length ∧ i = .int .i64 k ∧ wr = y.w ∧ ∀ j, j < k → ∀ e, r.pauses[j]? = some e → pseV e = true) (fun i _ => r.pauses.length - (intOf i).toNat)
            case atStart => exact ⟨0, _, by omega, rfl, rfl, fun j hj => by omega⟩
            case round =>
              obtain ⟨k, y, hk, rfl, rfl, hok⟩ := hrel
              have Hok := Lib.hid hok; clear hok
              by_cases hlt : k < r.pauses.length
              · obtain ⟨e, he⟩ : ∃ e, r.pauses[k]? = some e := ⟨_, List.getElem?_eq_getElem hlt⟩
                obtain ⟨b1, off1, rfl, h1'⟩ := Els.pse HP.out he
                have pa0 := h1'.c0
                have pa1 := h1'.c1
                have pa2 := h1'.c2
                have pa3 := h1'.c3
                have hk0 : (0 : Int) ≤ (k : Int) := by omega
                have hkl : (k : Int) < (r.pauses.length : Int) := by omega
                have He' := Lib.hid he; clear h1' he
                go_upto_region 12 with fail
                have hx0 : (y.w.alloc (.cells #[.int .i64 e.f0, .int .i64 e.f1, .int .i64 e.t0, .int .i64 e.t1] 85)).cell? ⟨y.w.heap.size, 0, none⟩ = some (.int .i64 e.f0) := by simp [go_sem]
                have hx1 : (y.w.alloc (.cells #[.int .i64 e.f0, .int .i64 e.f1, .int .i64 e.t0, .int .i64 e.t1] 85)).cell? ⟨y.w.heap.size, 1, none⟩ = some (.int .i64 e.f1) := by simp [go_sem]
                have hx2 : (y.w.alloc (.cells #[.int .i64 e.f0, .int .i64 e.f1, .int .i64 e.t0, .int .i64 e.t1] 85)).cell? ⟨y.w.heap.size, 2, none⟩ = some (.int .i64 e.t0) := by simp [go_sem]
                have hx3 : (y.w.alloc (.cells #[.int .i64 e.f0, .int .i64 e.f1, .int .i64 e.t0, .int .i64 e.t1] 85)).cell? ⟨y.w.heap.size, 3, none⟩ = some (.int .i64 e.t1) := by simp [go_sem]
                have hxf : ∀ o, (y.w.alloc (.cells #[.int .i64 e.f0, .int .i64 e.f1, .int .i64 e.t0, .int .i64 e.t1] 85)).frozen? ⟨y.w.heap.size, o, none⟩ = false := fun o => by simp [go_sem]
                have hlt0 : y.w.heap.size < (y.w.alloc (.cells #[.int .i64 e.f0, .int .i64 e.f1, .int .i64 e.t0, .int .i64 e.t1] 85)).heap.size := by simp
                have hst0 : ∃ zz : Since y.w, (y.w.alloc (.cells #[.int .i64 e.f0, .int .i64 e.f1, .int .i64 e.t0, .int .i64 e.t1] 85)) = zz.w := IsSince.alloc (IsSince.self _) _
                have hsz0 := y.b.size
                obtain ⟨y2, e2⟩ := IsSince.alloc (IsSince.of y) (.cells #[.int .i64 e.f0, .int .i64 e.f1, .int .i64 e.t0, .int .i64 e.t1] 85)
                rw [e2] at hx0 hx1 hx2 hx3 hxf hlt0 hst0 ⊢
                skip
                clear e2 hst0
                generalize y.w.heap.size = g at *
                have Hhx0 : ∀ q : Since y2.w, q.w.cell? ⟨g, 0, none⟩ = some (.int .i64 e.f0) := fun q => Since.cell hx0 (by omega) q
                have Hhx1 : ∀ q : Since y2.w, q.w.cell? ⟨g, 1, none⟩ = some (.int .i64 e.f1) := fun q => Since.cell hx1 (by omega) q
                have Hhx2 : ∀ q : Since y2.w, q.w.cell? ⟨g, 2, none⟩ = some (.int .i64 e.t0) := fun q => Since.cell hx2 (by omega) q
                have Hhx3 : ∀ q : Since y2.w, q.w.cell? ⟨g, 3, none⟩ = some (.int .i64 e.t1) := fun q => Since.cell hx3 (by omega) q
                have Hhxf : ∀ (q : Since y2.w) (o : Nat), q.w.frozen? ⟨g, o, none⟩ = false := fun q o => Since.free (hxf o) (by omega) q
                have Hhxg := Lib.hid (And.intro hsz0 hlt0)
                clear hlt0 hsz0
                obtain ⟨q0, hq0⟩ := Since.refl y2.w
                rw [hq0]
                clear hq0
                cases hf : vldS e.f0 e.f1 with
                | false =>
                  have Hr := Lib.hid (ranged_no (r := r) (.inr <| .inr (all_no He'.out (by unfold pseV; rw [hf]; rfl))))
                  have Hf := Lib.hid hf; clear hf
                  go_wp2_with (go_at_call 52; ((with_reducible refine (vld_calls y2.w _ e.f0 e.f1).mono ?_); rintro _ _ ⟨rfl, z1, rfl⟩; rw [Hf.out]))
                  go_ret
                  exact ⟨ret_bool Hr.out.symm, by obtain ⟨q, e⟩ := y2.trans z1; rw [e]; exact Hup.out q⟩
                | true =>
                  have Hf := Lib.hid hf; clear hf
                  cases ht : vldS e.t0 e.t1 with
                  | false =>
                    have Hr := Lib.hid (ranged_no (r := r) (.inr <| .inr (all_no He'.out (by unfold pseV; rw [Hf.out, ht]; rfl))))
                    have Ht := Lib.hid ht; clear ht
                    go_wp2_with (first | (go_at_call 52; ((with_reducible refine (vld_calls y2.w _ e.f0 e.f1).mono ?_); rintro _ _ ⟨rfl, z1, rfl⟩; rw [Hf.out])) | (go_at_call 52; ((with_reducible refine (vld_calls y2.w _ e.t0 e.t1).mono ?_); rintro _ _ ⟨rfl, z1, rfl⟩; rw [Ht.out])))
                    go_ret
                    exact ⟨ret_bool Hr.out.symm, by obtain ⟨q, e⟩ := y2.trans z1; rw [e]; exact Hup.out q⟩
                  | true =>
                    have Hv := Lib.hid (show pseV e = true by unfold pseV; rw [Hf.out, ht]; rfl)
                    have Ht := Lib.hid ht; clear ht
                    go_wp2_with (first | (go_at_call 52; ((with_reducible refine (vld_calls y2.w _ e.f0 e.f1).mono ?_); rintro _ _ ⟨rfl, z1, rfl⟩; rw [Hf.out])) | (go_at_call 52; ((with_reducible refine (vld_calls y2.w _ e.t0 e.t1).mono ?_); rintro _ _ ⟨rfl, z1, rfl⟩; rw [Ht.out])))
                    obtain ⟨q, eq⟩ := y2.trans z1
                    rw [eq]
                    go_roundw
                    case rel => exact ⟨k + 1, q, by omega, by go_num, rfl, upto_next Hok.out He'.out Hv.out⟩
                    case measure => simp [intOf] <;> omega
              · obtain rfl : k = r.pauses.length := by omega
                have HvP := Lib.hid (all_yes Hok.out)
                go_wp2_with fail
                go_ret
                exact ⟨ret_bool (ranged_yes Hh.out HvL.out HvP.out).symm, Hup.out _⟩
  all_goals
    have Hr := Lib.hid (ranged_no (r := r) (.inl (by
      cases hh : headV r
      · rfl
      · unfold headV at hh
        simp only [Bool.and_eq_true, decide_eq_true_eq] at hh
        omega)))
    go_enter Try.func43, Try.ntmps43
    go_wp2_with fail
    go_ret
    exact ⟨ret_bool Hr.out.symm, x.alloc _⟩
end Go.Proofs.Ytbkfcdheckkjaaa
