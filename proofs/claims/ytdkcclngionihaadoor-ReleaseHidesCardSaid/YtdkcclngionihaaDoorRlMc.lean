/- The walks of the reference's check of a ride, first part: intervals, ranges. -/
import Derived.Test.YtdkcclngionihaaDoorRlMb
import Derived.IntWalk
set_option linter.all false
namespace Go.Proofs.YtdkcclngionihaaDoor
open Go.RowKit

set_option maxHeartbeats 1000000 in
theorem rspan_calls (w : World) (x : Since w) (lo hi : Int) :
    Calls Tryd.prog 126 #[.agg #[.int .i64 lo, .int .i64 hi]] x.w fun o w' => o = .returned (.bool (vldS lo hi)) ∧ ∃ y : Since w, w' = y.w := by
  rcases (by omega : lo < 0 ∨ (0 ≤ lo ∧ hi < lo) ∨ (0 ≤ lo ∧ lo ≤ hi ∧ 4294943999 < hi) ∨ (0 ≤ lo ∧ lo ≤ hi ∧ hi ≤ 4294943999)) with h1 | ⟨h1, h2⟩ | ⟨h1, h2, h3⟩ | ⟨h1, h2, h3⟩
  case inr.inr.inr =>
    have hv : vldS lo hi = true := (vldS_iff lo hi).2 ⟨h1, h2, h3⟩
    have Hv := Lib.hid hv; clear hv
    go_enter Tryd.func126, Tryd.ntmps126
    go_wp2_with fail
    go_ret
    exact ⟨ret_bool Hv.out.symm, x.alloc _⟩
  all_goals
    have hv : vldS lo hi = false := by
      cases h : vldS lo hi
      · rfl
      · rw [vldS_iff] at h; omega
    have Hv := Lib.hid hv; clear hv
    go_enter Tryd.func126, Tryd.ntmps126
    go_wp2_with fail
    go_ret
    exact ⟨ret_bool (by first | exact Hv.out.symm | (rw [Hv.out]; exact decide_eq_false (by omega))), x.alloc _⟩
set_option maxRecDepth 100000 in
set_option maxHeartbeats 8000000 in
theorem rranged_calls (w : World) (x : Since w) (r : Ride) (h : r.At w) :
    Calls Tryd.prog 122 #[.agg #[.int .i64 r.id, .int .i64 r.rd, .int .i64 r.s0, .int .i64 r.s1, .int .i64 r.e0, .int .i64 r.e1, .bool r.op, .slice r.la r.legs.length r.lc, .slice r.pa r.pauses.length r.pc, .int .i64 r.fw, .int .i64 r.fp, .int .i64 r.wh, .int .i64 r.pl]] x.w fun o w' => o = .returned (.bool (rangedB r)) ∧ ∃ y : Since w, w' = y.w := by
  have HL := Lib.hid h.l; have HP := Lib.hid h.p
  have hlm := h.lm
  have hpm := h.pm
  clear h
  generalize r.la = la at HL ⊢
  generalize r.pa = pa at HP ⊢
  rcases (by omega : r.id < 1 ∨ (1 ≤ r.id ∧ 1000000 < r.id) ∨ (1 ≤ r.id ∧ r.id ≤ 1000000 ∧ r.rd < 0) ∨ (1 ≤ r.id ∧ r.id ≤ 1000000 ∧ 0 ≤ r.rd ∧ 127 < r.rd) ∨ (1 ≤ r.id ∧ r.id ≤ 1000000 ∧ 0 ≤ r.rd ∧ r.rd ≤ 127)) with h1 | ⟨h1, h2⟩ | ⟨h1, h2, h3⟩ | ⟨h1, h2, h3, h4⟩ | ⟨h1, h2, h3, h4⟩
  case inr.inr.inr.inr =>
    have hhead : headV r = (vldS r.s0 r.s1 && vldS r.e0 r.e1) := by unfold headV; simp [h1, h2, h3, h4]
    have Hhead := Lib.hid hhead
    clear hhead
    go_enter Tryd.func122, Tryd.ntmps122
    go_upto_region 1 with fail
    have hb0_0 : ∀ y : Since (x.w.alloc (.cells #[.int .i64 r.id, .int .i64 r.rd, .int .i64 r.s0, .int .i64 r.s1, .int .i64 r.e0, .int .i64 r.e1, .bool r.op, .slice la r.legs.length r.lc, .slice pa r.pauses.length r.pc, .int .i64 r.fw, .int .i64 r.fp, .int .i64 r.wh, .int .i64 r.pl] 73)), y.w.cell? ⟨x.w.heap.size, 0, none⟩ = some (.int .i64 r.id) := fun y => Since.cell (by simp [go_sem]) (by first | (simp; done) | (simp; omega)) y
    have hb0_1 : ∀ y : Since (x.w.alloc (.cells #[.int .i64 r.id, .int .i64 r.rd, .int .i64 r.s0, .int .i64 r.s1, .int .i64 r.e0, .int .i64 r.e1, .bool r.op, .slice la r.legs.length r.lc, .slice pa r.pauses.length r.pc, .int .i64 r.fw, .int .i64 r.fp, .int .i64 r.wh, .int .i64 r.pl] 73)), y.w.cell? ⟨x.w.heap.size, 1, none⟩ = some (.int .i64 r.rd) := fun y => Since.cell (by simp [go_sem]) (by first | (simp; done) | (simp; omega)) y
    have hb0_2 : ∀ y : Since (x.w.alloc (.cells #[.int .i64 r.id, .int .i64 r.rd, .int .i64 r.s0, .int .i64 r.s1, .int .i64 r.e0, .int .i64 r.e1, .bool r.op, .slice la r.legs.length r.lc, .slice pa r.pauses.length r.pc, .int .i64 r.fw, .int .i64 r.fp, .int .i64 r.wh, .int .i64 r.pl] 73)), y.w.cell? ⟨x.w.heap.size, 2, none⟩ = some (.int .i64 r.s0) := fun y => Since.cell (by simp [go_sem]) (by first | (simp; done) | (simp; omega)) y
    have hb0_3 : ∀ y : Since (x.w.alloc (.cells #[.int .i64 r.id, .int .i64 r.rd, .int .i64 r.s0, .int .i64 r.s1, .int .i64 r.e0, .int .i64 r.e1, .bool r.op, .slice la r.legs.length r.lc, .slice pa r.pauses.length r.pc, .int .i64 r.fw, .int .i64 r.fp, .int .i64 r.wh, .int .i64 r.pl] 73)), y.w.cell? ⟨x.w.heap.size, 3, none⟩ = some (.int .i64 r.s1) := fun y => Since.cell (by simp [go_sem]) (by first | (simp; done) | (simp; omega)) y
    have hb0_4 : ∀ y : Since (x.w.alloc (.cells #[.int .i64 r.id, .int .i64 r.rd, .int .i64 r.s0, .int .i64 r.s1, .int .i64 r.e0, .int .i64 r.e1, .bool r.op, .slice la r.legs.length r.lc, .slice pa r.pauses.length r.pc, .int .i64 r.fw, .int .i64 r.fp, .int .i64 r.wh, .int .i64 r.pl] 73)), y.w.cell? ⟨x.w.heap.size, 4, none⟩ = some (.int .i64 r.e0) := fun y => Since.cell (by simp [go_sem]) (by first | (simp; done) | (simp; omega)) y
    have hb0_5 : ∀ y : Since (x.w.alloc (.cells #[.int .i64 r.id, .int .i64 r.rd, .int .i64 r.s0, .int .i64 r.s1, .int .i64 r.e0, .int .i64 r.e1, .bool r.op, .slice la r.legs.length r.lc, .slice pa r.pauses.length r.pc, .int .i64 r.fw, .int .i64 r.fp, .int .i64 r.wh, .int .i64 r.pl] 73)), y.w.cell? ⟨x.w.heap.size, 5, none⟩ = some (.int .i64 r.e1) := fun y => Since.cell (by simp [go_sem]) (by first | (simp; done) | (simp; omega)) y
    have hb0_6 : ∀ y : Since (x.w.alloc (.cells #[.int .i64 r.id, .int .i64 r.rd, .int .i64 r.s0, .int .i64 r.s1, .int .i64 r.e0, .int .i64 r.e1, .bool r.op, .slice la r.legs.length r.lc, .slice pa r.pauses.length r.pc, .int .i64 r.fw, .int .i64 r.fp, .int .i64 r.wh, .int .i64 r.pl] 73)), y.w.cell? ⟨x.w.heap.size, 6, none⟩ = some (.bool r.op) := fun y => Since.cell (by simp [go_sem]) (by first | (simp; done) | (simp; omega)) y
    have hb0_7 : ∀ y : Since (x.w.alloc (.cells #[.int .i64 r.id, .int .i64 r.rd, .int .i64 r.s0, .int .i64 r.s1, .int .i64 r.e0, .int .i64 r.e1, .bool r.op, .slice la r.legs.length r.lc, .slice pa r.pauses.length r.pc, .int .i64 r.fw, .int .i64 r.fp, .int .i64 r.wh, .int .i64 r.pl] 73)), y.w.cell? ⟨x.w.heap.size, 7, none⟩ = some (.slice la r.legs.length r.lc) := fun y => Since.cell (by simp [go_sem]) (by first | (simp; done) | (simp; omega)) y
    have hb0_8 : ∀ y : Since (x.w.alloc (.cells #[.int .i64 r.id, .int .i64 r.rd, .int .i64 r.s0, .int .i64 r.s1, .int .i64 r.e0, .int .i64 r.e1, .bool r.op, .slice la r.legs.length r.lc, .slice pa r.pauses.length r.pc, .int .i64 r.fw, .int .i64 r.fp, .int .i64 r.wh, .int .i64 r.pl] 73)), y.w.cell? ⟨x.w.heap.size, 8, none⟩ = some (.slice pa r.pauses.length r.pc) := fun y => Since.cell (by simp [go_sem]) (by first | (simp; done) | (simp; omega)) y
    have hb0_9 : ∀ y : Since (x.w.alloc (.cells #[.int .i64 r.id, .int .i64 r.rd, .int .i64 r.s0, .int .i64 r.s1, .int .i64 r.e0, .int .i64 r.e1, .bool r.op, .slice la r.legs.length r.lc, .slice pa r.pauses.length r.pc, .int .i64 r.fw, .int .i64 r.fp, .int .i64 r.wh, .int .i64 r.pl] 73)), y.w.cell? ⟨x.w.heap.size, 9, none⟩ = some (.int .i64 r.fw) := fun y => Since.cell (by simp [go_sem]) (by first | (simp; done) | (simp; omega)) y
    have hb0_10 : ∀ y : Since (x.w.alloc (.cells #[.int .i64 r.id, .int .i64 r.rd, .int .i64 r.s0, .int .i64 r.s1, .int .i64 r.e0, .int .i64 r.e1, .bool r.op, .slice la r.legs.length r.lc, .slice pa r.pauses.length r.pc, .int .i64 r.fw, .int .i64 r.fp, .int .i64 r.wh, .int .i64 r.pl] 73)), y.w.cell? ⟨x.w.heap.size, 10, none⟩ = some (.int .i64 r.fp) := fun y => Since.cell (by simp [go_sem]) (by first | (simp; done) | (simp; omega)) y
    have hb0_11 : ∀ y : Since (x.w.alloc (.cells #[.int .i64 r.id, .int .i64 r.rd, .int .i64 r.s0, .int .i64 r.s1, .int .i64 r.e0, .int .i64 r.e1, .bool r.op, .slice la r.legs.length r.lc, .slice pa r.pauses.length r.pc, .int .i64 r.fw, .int .i64 r.fp, .int .i64 r.wh, .int .i64 r.pl] 73)), y.w.cell? ⟨x.w.heap.size, 11, none⟩ = some (.int .i64 r.wh) := fun y => Since.cell (by simp [go_sem]) (by first | (simp; done) | (simp; omega)) y
    have hb0_12 : ∀ y : Since (x.w.alloc (.cells #[.int .i64 r.id, .int .i64 r.rd, .int .i64 r.s0, .int .i64 r.s1, .int .i64 r.e0, .int .i64 r.e1, .bool r.op, .slice la r.legs.length r.lc, .slice pa r.pauses.length r.pc, .int .i64 r.fw, .int .i64 r.fp, .int .i64 r.wh, .int .i64 r.pl] 73)), y.w.cell? ⟨x.w.heap.size, 12, none⟩ = some (.int .i64 r.pl) := fun y => Since.cell (by simp [go_sem]) (by first | (simp; done) | (simp; omega)) y
    have hf0 : ∀ (y : Since (x.w.alloc (.cells #[.int .i64 r.id, .int .i64 r.rd, .int .i64 r.s0, .int .i64 r.s1, .int .i64 r.e0, .int .i64 r.e1, .bool r.op, .slice la r.legs.length r.lc, .slice pa r.pauses.length r.pc, .int .i64 r.fw, .int .i64 r.fp, .int .i64 r.wh, .int .i64 r.pl] 73))) (o : Nat), y.w.frozen? ⟨x.w.heap.size, o, none⟩ = false := fun y o => Since.free (by simp [go_sem]) (by first | (simp; done) | (simp; omega)) y
    have hWup : ∃ z : Since w, (x.w.alloc (.cells #[.int .i64 r.id, .int .i64 r.rd, .int .i64 r.s0, .int .i64 r.s1, .int .i64 r.e0, .int .i64 r.e1, .bool r.op, .slice la r.legs.length r.lc, .slice pa r.pauses.length r.pc, .int .i64 r.fw, .int .i64 r.fp, .int .i64 r.wh, .int .i64 r.pl] 73)) = z.w := x.alloc _
    obtain ⟨y0, hy0⟩ := Since.refl (x.w.alloc (.cells #[.int .i64 r.id, .int .i64 r.rd, .int .i64 r.s0, .int .i64 r.s1, .int .i64 r.e0, .int .i64 r.e1, .bool r.op, .slice la r.legs.length r.lc, .slice pa r.pauses.length r.pc, .int .i64 r.fw, .int .i64 r.fp, .int .i64 r.wh, .int .i64 r.pl] 73))
    have Hbx := Lib.hid (And.intro x.b.size (show x.w.heap.size + 1 = (x.w.alloc (.cells #[.int .i64 r.id, .int .i64 r.rd, .int .i64 r.s0, .int .i64 r.s1, .int .i64 r.e0, .int .i64 r.e1, .bool r.op, .slice la r.legs.length r.lc, .slice pa r.pauses.length r.pc, .int .i64 r.fw, .int .i64 r.fp, .int .i64 r.wh, .int .i64 r.pl] 73)).heap.size from by simp))
    generalize hW : (x.w.alloc (.cells #[.int .i64 r.id, .int .i64 r.rd, .int .i64 r.s0, .int .i64 r.s1, .int .i64 r.e0, .int .i64 r.e1, .bool r.op, .slice la r.legs.length r.lc, .slice pa r.pauses.length r.pc, .int .i64 r.fw, .int .i64 r.fp, .int .i64 r.wh, .int .i64 r.pl] 73)) = W at *
    clear hW
    generalize x.w.heap.size = bx at *
    have Hup := Lib.hid (Since.up hWup)
    rw [hy0]
    clear hy0
    replace HL := Lib.hid (HL.out.to hWup); replace HP := Lib.hid (HP.out.to hWup)
    clear hWup
    cases hs : vldS r.s0 r.s1 with
    | false =>
      have Hr := Lib.hid (ranged_no (r := r) (.inl (by rw [Hhead.out, hs]; rfl)))
      have Hs := Lib.hid hs; clear hs
      go_wp2_with (go_at_call 126; refine (rspan_calls W _ _ _).mono ?_; rintro _ _ ⟨rfl, y1, rfl⟩; rw [Hs.out])
      go_ret
      exact ⟨ret_bool Hr.out.symm, Hup.out _⟩
    | true =>
      cases he : vldS r.e0 r.e1 with
      | false =>
        have Hr := Lib.hid (ranged_no (r := r) (.inl (by rw [Hhead.out, hs, he]; rfl)))
        have Hs := Lib.hid hs; have He := Lib.hid he; clear hs he
        go_wp2_with (first | (go_at_call 126; ((with_reducible refine (rspan_calls W _ r.s0 r.s1).mono ?_); rintro _ _ ⟨rfl, y1, rfl⟩; rw [Hs.out])) | (go_at_call 126; ((with_reducible refine (rspan_calls W _ r.e0 r.e1).mono ?_); rintro _ _ ⟨rfl, y1, rfl⟩; rw [He.out])))
        go_ret
        exact ⟨ret_bool Hr.out.symm, Hup.out _⟩
      | true =>
        have Hh := Lib.hid (show headV r = true by rw [Hhead.out, hs, he]; rfl)
        have Hs := Lib.hid hs; have He := Lib.hid he; clear hs he
        go_upto_region 4 with (first | (go_at_call 126; ((with_reducible refine (rspan_calls W _ r.s0 r.s1).mono ?_); rintro _ _ ⟨rfl, y1, rfl⟩; rw [Hs.out])) | (go_at_call 126; ((with_reducible refine (rspan_calls W _ r.e0 r.e1).mono ?_); rintro _ _ ⟨rfl, y1, rfl⟩; rw [He.out])))
        go_loopw [3] (fun i wr => ∃ (k : Nat) (y : Since W), k ≤ r.legs.length ∧ i = .int .i64 k ∧ wr = y.w ∧ ∀ j, j < k → ∀ e, r.legs[j]? = some e → legV e = true) (fun i _ => r.legs.length - (intOf i).toNat)
        case atStart => exact ⟨0, _, by omega, rfl, rfl, fun j hj => by omega⟩
        case round =>
          obtain ⟨k, y, hk, rfl, rfl, hok⟩ := hrel
          have Hok := Lib.hid hok; clear hok
          by_cases hlt : k < r.legs.length
          · obtain ⟨e, he⟩ : ∃ e, r.legs[k]? = some e := ⟨_, List.getElem?_eq_getElem hlt⟩
            obtain ⟨b1, off1, rfl, h1'⟩ := Els.leg HL.out he
            have pa0 := h1'.c0
            have pa1 := h1'.c1
            have pa2 := h1'.c2
            have pa3 := h1'.c3
            have pa4 := h1'.c4
            have hk0 : (0 : Int) ≤ (k : Int) := by omega
            have hkl : (k : Int) < (r.legs.length : Int) := by omega
            have He' := Lib.hid he; clear h1' he
            cases hf : vldS e.f0 e.f1 with
            | false =>
              have Hr := Lib.hid (ranged_no (r := r) (.inr <| .inl (all_no He'.out (by unfold legV; rw [hf]; rfl))))
              have Hf := Lib.hid hf; clear hf
              go_wp2_with (go_at_call 126; ((with_reducible refine (rspan_calls W _ e.f0 e.f1).mono ?_); rintro _ _ ⟨rfl, z1, rfl⟩; rw [Hf.out]))
              go_ret
              exact ⟨ret_bool Hr.out.symm, Hup.out _⟩
            | true =>
              have Hf := Lib.hid hf; clear hf
              cases ht : vldS e.t0 e.t1 with
              | false =>
                have Hr := Lib.hid (ranged_no (r := r) (.inr <| .inl (all_no He'.out (by unfold legV; rw [Hf.out, ht]; rfl))))
                have Ht := Lib.hid ht; clear ht
                go_wp2_with (first | (go_at_call 126; ((with_reducible refine (rspan_calls W _ e.f0 e.f1).mono ?_); rintro _ _ ⟨rfl, z1, rfl⟩; rw [Hf.out])) | (go_at_call 126; ((with_reducible refine (rspan_calls W _ e.t0 e.t1).mono ?_); rintro _ _ ⟨rfl, z1, rfl⟩; rw [Ht.out])))
                go_ret
                exact ⟨ret_bool Hr.out.symm, Hup.out _⟩
              | true =>
                have Hv := Lib.hid (show legV e = true by unfold legV; rw [Hf.out, ht]; rfl)
                have Ht := Lib.hid ht; clear ht
                go_wp2_with (first | (go_at_call 126; ((with_reducible refine (rspan_calls W _ e.f0 e.f1).mono ?_); rintro _ _ ⟨rfl, z1, rfl⟩; rw [Hf.out])) | (go_at_call 126; ((with_reducible refine (rspan_calls W _ e.t0 e.t1).mono ?_); rintro _ _ ⟨rfl, z1, rfl⟩; rw [Ht.out])))
                go_roundw
                case rel => exact ⟨k + 1, _, by omega, by go_num, rfl, upto_next Hok.out He'.out Hv.out⟩
                case measure => simp [intOf] <;> omega
          · obtain rfl : k = r.legs.length := by omega
            have HvL := Lib.hid (all_yes Hok.out)
            go_upto_region 9 with fail
            go_loopw [4] (fun i wr => ∃ (k : Nat) (y : Since W), k ≤ r.pauses.length ∧ i = .int .i64 k ∧ wr = y.w ∧ ∀ j, j < k → ∀ e, r.pauses[j]? = some e → pseV e = true) (fun i _ => r.pauses.length - (intOf i).toNat)
            case atStart => exact ⟨0, _, by omega, rfl, rfl, fun j hj => by omega⟩
            case round =>
              obtain ⟨k, y, hk, rfl, rfl, hok⟩ := hrel
              have Hok := Lib.hid hok; clear hok
              by_cases hlt : k < r.pauses.length
              · obtain ⟨e, he⟩ : ∃ e, r.pauses[k]? = some e := ⟨_, List.getElem?_eq_getElem hlt⟩
                obtain ⟨b1, off1, rfl, h1'⟩ := Els.pse HP.out he
                have pa0 := h1'.c0
                have pa1 := h1'.c1
                have pa2 := h1'.c2
                have pa3 := h1'.c3
                have hk0 : (0 : Int) ≤ (k : Int) := by omega
                have hkl : (k : Int) < (r.pauses.length : Int) := by omega
                have He' := Lib.hid he; clear h1' he
                cases hf : vldS e.f0 e.f1 with
                | false =>
                  have Hr := Lib.hid (ranged_no (r := r) (.inr <| .inr (all_no He'.out (by unfold pseV; rw [hf]; rfl))))
                  have Hf := Lib.hid hf; clear hf
                  go_wp2_with (go_at_call 126; ((with_reducible refine (rspan_calls W _ e.f0 e.f1).mono ?_); rintro _ _ ⟨rfl, z1, rfl⟩; rw [Hf.out]))
                  go_ret
                  exact ⟨ret_bool Hr.out.symm, Hup.out _⟩
                | true =>
                  have Hf := Lib.hid hf; clear hf
                  cases ht : vldS e.t0 e.t1 with
                  | false =>
                    have Hr := Lib.hid (ranged_no (r := r) (.inr <| .inr (all_no He'.out (by unfold pseV; rw [Hf.out, ht]; rfl))))
                    have Ht := Lib.hid ht; clear ht
                    go_wp2_with (first | (go_at_call 126; ((with_reducible refine (rspan_calls W _ e.f0 e.f1).mono ?_); rintro _ _ ⟨rfl, z1, rfl⟩; rw [Hf.out])) | (go_at_call 126; ((with_reducible refine (rspan_calls W _ e.t0 e.t1).mono ?_); rintro _ _ ⟨rfl, z1, rfl⟩; rw [Ht.out])))
                    go_ret
                    exact ⟨ret_bool Hr.out.symm, Hup.out _⟩
                  | true =>
                    have Hv := Lib.hid (show pseV e = true by unfold pseV; rw [Hf.out, ht]; rfl)
                    have Ht := Lib.hid ht; clear ht
                    go_wp2_with (first | (go_at_call 126; ((with_reducible refine (rspan_calls W _ e.f0 e.f1).mono ?_); rintro _ _ ⟨rfl, z1, rfl⟩; rw [Hf.out])) | (go_at_call 126; ((with_reducible refine (rspan_calls W _ e.t0 e.t1).mono ?_); rintro _ _ ⟨rfl, z1, rfl⟩; rw [Ht.out])))
                    go_roundw
                    case rel => exact ⟨k + 1, _, by omega, by go_num, rfl, upto_next Hok.out He'.out Hv.out⟩
                    case measure => simp [intOf] <;> omega
              · obtain rfl : k = r.pauses.length := by omega
                have HvP := Lib.hid (all_yes Hok.out)
                go_wp2_with fail
                go_ret
                exact ⟨ret_bool (ranged_yes Hh.out HvL.out HvP.out).symm, Hup.out _⟩
  all_goals
    have Hr := Lib.hid (ranged_no (r := r) (.inl (by
      cases hh : headV r
      · rfl
      · unfold headV at hh
        simp only [Bool.and_eq_true, decide_eq_true_eq] at hh
        omega)))
    go_enter Tryd.func122, Tryd.ntmps122
    go_wp2_with fail
    go_ret
    exact ⟨ret_bool Hr.out.symm, x.alloc _⟩
end Go.Proofs.YtdkcclngionihaaDoor
/- The walks of the program's check of a ride, second part: the legs follow one another. -/
namespace Go.Proofs.YtdkcclngionihaaDoor
open Go.RowKit

set_option maxRecDepth 100000 in
set_option maxHeartbeats 8000000 in
theorem joined_calls (w : World) (x : Since w) (r : Ride) (h : r.At w) :
    Calls Tryd.prog 81 #[.agg #[.int .i64 r.id, .int .i64 r.rd, .int .i64 r.s0, .int .i64 r.s1, .int .i64 r.e0, .int .i64 r.e1, .bool r.op, .slice r.la r.legs.length r.lc, .slice r.pa r.pauses.length r.pc, .int .i64 r.fw, .int .i64 r.fp, .int .i64 r.wh, .int .i64 r.pl]] x.w fun o w' => o = .returned (.bool (joinedB r)) ∧ ∃ y : Since w, w' = y.w := by
  have HL := Lib.hid h.l
  have hlm := h.lm
  have hpm := h.pm
  clear h
  generalize r.la = la at HL ⊢
  rcases (by omega : r.legs.length < 1 ∨ (1 ≤ r.legs.length ∧ 512 < r.legs.length) ∨ (1 ≤ r.legs.length ∧ r.legs.length ≤ 512 ∧ 512 < r.pauses.length) ∨ (1 ≤ r.legs.length ∧ r.legs.length ≤ 512 ∧ r.pauses.length ≤ 512)) with h1 | ⟨h1, h2⟩ | ⟨h1, h2, h3⟩ | ⟨h1, h2, h3⟩
  case inr.inr.inr =>
    have hj : joinedB r = chainL r.s0 r.s1 r.legs r.e0 r.e1 := by unfold joinedB; simp [h1, h2, h3]
    have Hj := Lib.hid hj
    clear hj
    go_enter Tryd.func81, Tryd.ntmps81
    go_upto_region 1 with fail
    have hb0_0 : ∀ y : Since (x.w.alloc (.cells #[.int .i64 r.id, .int .i64 r.rd, .int .i64 r.s0, .int .i64 r.s1, .int .i64 r.e0, .int .i64 r.e1, .bool r.op, .slice la r.legs.length r.lc, .slice r.pa r.pauses.length r.pc, .int .i64 r.fw, .int .i64 r.fp, .int .i64 r.wh, .int .i64 r.pl] 73)), y.w.cell? ⟨x.w.heap.size, 0, none⟩ = some (.int .i64 r.id) := fun y => Since.cell (by simp [go_sem]) (by first | (simp; done) | (simp; omega)) y
    have hb0_1 : ∀ y : Since (x.w.alloc (.cells #[.int .i64 r.id, .int .i64 r.rd, .int .i64 r.s0, .int .i64 r.s1, .int .i64 r.e0, .int .i64 r.e1, .bool r.op, .slice la r.legs.length r.lc, .slice r.pa r.pauses.length r.pc, .int .i64 r.fw, .int .i64 r.fp, .int .i64 r.wh, .int .i64 r.pl] 73)), y.w.cell? ⟨x.w.heap.size, 1, none⟩ = some (.int .i64 r.rd) := fun y => Since.cell (by simp [go_sem]) (by first | (simp; done) | (simp; omega)) y
    have hb0_2 : ∀ y : Since (x.w.alloc (.cells #[.int .i64 r.id, .int .i64 r.rd, .int .i64 r.s0, .int .i64 r.s1, .int .i64 r.e0, .int .i64 r.e1, .bool r.op, .slice la r.legs.length r.lc, .slice r.pa r.pauses.length r.pc, .int .i64 r.fw, .int .i64 r.fp, .int .i64 r.wh, .int .i64 r.pl] 73)), y.w.cell? ⟨x.w.heap.size, 2, none⟩ = some (.int .i64 r.s0) := fun y => Since.cell (by simp [go_sem]) (by first | (simp; done) | (simp; omega)) y
    have hb0_3 : ∀ y : Since (x.w.alloc (.cells #[.int .i64 r.id, .int .i64 r.rd, .int .i64 r.s0, .int .i64 r.s1, .int .i64 r.e0, .int .i64 r.e1, .bool r.op, .slice la r.legs.length r.lc, .slice r.pa r.pauses.length r.pc, .int .i64 r.fw, .int .i64 r.fp, .int .i64 r.wh, .int .i64 r.pl] 73)), y.w.cell? ⟨x.w.heap.size, 3, none⟩ = some (.int .i64 r.s1) := fun y => Since.cell (by simp [go_sem]) (by first | (simp; done) | (simp; omega)) y
    have hb0_4 : ∀ y : Since (x.w.alloc (.cells #[.int .i64 r.id, .int .i64 r.rd, .int .i64 r.s0, .int .i64 r.s1, .int .i64 r.e0, .int .i64 r.e1, .bool r.op, .slice la r.legs.length r.lc, .slice r.pa r.pauses.length r.pc, .int .i64 r.fw, .int .i64 r.fp, .int .i64 r.wh, .int .i64 r.pl] 73)), y.w.cell? ⟨x.w.heap.size, 4, none⟩ = some (.int .i64 r.e0) := fun y => Since.cell (by simp [go_sem]) (by first | (simp; done) | (simp; omega)) y
    have hb0_5 : ∀ y : Since (x.w.alloc (.cells #[.int .i64 r.id, .int .i64 r.rd, .int .i64 r.s0, .int .i64 r.s1, .int .i64 r.e0, .int .i64 r.e1, .bool r.op, .slice la r.legs.length r.lc, .slice r.pa r.pauses.length r.pc, .int .i64 r.fw, .int .i64 r.fp, .int .i64 r.wh, .int .i64 r.pl] 73)), y.w.cell? ⟨x.w.heap.size, 5, none⟩ = some (.int .i64 r.e1) := fun y => Since.cell (by simp [go_sem]) (by first | (simp; done) | (simp; omega)) y
    have hb0_6 : ∀ y : Since (x.w.alloc (.cells #[.int .i64 r.id, .int .i64 r.rd, .int .i64 r.s0, .int .i64 r.s1, .int .i64 r.e0, .int .i64 r.e1, .bool r.op, .slice la r.legs.length r.lc, .slice r.pa r.pauses.length r.pc, .int .i64 r.fw, .int .i64 r.fp, .int .i64 r.wh, .int .i64 r.pl] 73)), y.w.cell? ⟨x.w.heap.size, 6, none⟩ = some (.bool r.op) := fun y => Since.cell (by simp [go_sem]) (by first | (simp; done) | (simp; omega)) y
    have hb0_7 : ∀ y : Since (x.w.alloc (.cells #[.int .i64 r.id, .int .i64 r.rd, .int .i64 r.s0, .int .i64 r.s1, .int .i64 r.e0, .int .i64 r.e1, .bool r.op, .slice la r.legs.length r.lc, .slice r.pa r.pauses.length r.pc, .int .i64 r.fw, .int .i64 r.fp, .int .i64 r.wh, .int .i64 r.pl] 73)), y.w.cell? ⟨x.w.heap.size, 7, none⟩ = some (.slice la r.legs.length r.lc) := fun y => Since.cell (by simp [go_sem]) (by first | (simp; done) | (simp; omega)) y
    have hb0_8 : ∀ y : Since (x.w.alloc (.cells #[.int .i64 r.id, .int .i64 r.rd, .int .i64 r.s0, .int .i64 r.s1, .int .i64 r.e0, .int .i64 r.e1, .bool r.op, .slice la r.legs.length r.lc, .slice r.pa r.pauses.length r.pc, .int .i64 r.fw, .int .i64 r.fp, .int .i64 r.wh, .int .i64 r.pl] 73)), y.w.cell? ⟨x.w.heap.size, 8, none⟩ = some (.slice r.pa r.pauses.length r.pc) := fun y => Since.cell (by simp [go_sem]) (by first | (simp; done) | (simp; omega)) y
    have hb0_9 : ∀ y : Since (x.w.alloc (.cells #[.int .i64 r.id, .int .i64 r.rd, .int .i64 r.s0, .int .i64 r.s1, .int .i64 r.e0, .int .i64 r.e1, .bool r.op, .slice la r.legs.length r.lc, .slice r.pa r.pauses.length r.pc, .int .i64 r.fw, .int .i64 r.fp, .int .i64 r.wh, .int .i64 r.pl] 73)), y.w.cell? ⟨x.w.heap.size, 9, none⟩ = some (.int .i64 r.fw) := fun y => Since.cell (by simp [go_sem]) (by first | (simp; done) | (simp; omega)) y
    have hb0_10 : ∀ y : Since (x.w.alloc (.cells #[.int .i64 r.id, .int .i64 r.rd, .int .i64 r.s0, .int .i64 r.s1, .int .i64 r.e0, .int .i64 r.e1, .bool r.op, .slice la r.legs.length r.lc, .slice r.pa r.pauses.length r.pc, .int .i64 r.fw, .int .i64 r.fp, .int .i64 r.wh, .int .i64 r.pl] 73)), y.w.cell? ⟨x.w.heap.size, 10, none⟩ = some (.int .i64 r.fp) := fun y => Since.cell (by simp [go_sem]) (by first | (simp; done) | (simp; omega)) y
    have hb0_11 : ∀ y : Since (x.w.alloc (.cells #[.int .i64 r.id, .int .i64 r.rd, .int .i64 r.s0, .int .i64 r.s1, .int .i64 r.e0, .int .i64 r.e1, .bool r.op, .slice la r.legs.length r.lc, .slice r.pa r.pauses.length r.pc, .int .i64 r.fw, .int .i64 r.fp, .int .i64 r.wh, .int .i64 r.pl] 73)), y.w.cell? ⟨x.w.heap.size, 11, none⟩ = some (.int .i64 r.wh) := fun y => Since.cell (by simp [go_sem]) (by first | (simp; done) | (simp; omega)) y
    have hb0_12 : ∀ y : Since (x.w.alloc (.cells #[.int .i64 r.id, .int .i64 r.rd, .int .i64 r.s0, .int .i64 r.s1, .int .i64 r.e0, .int .i64 r.e1, .bool r.op, .slice la r.legs.length r.lc, .slice r.pa r.pauses.length r.pc, .int .i64 r.fw, .int .i64 r.fp, .int .i64 r.wh, .int .i64 r.pl] 73)), y.w.cell? ⟨x.w.heap.size, 12, none⟩ = some (.int .i64 r.pl) := fun y => Since.cell (by simp [go_sem]) (by first | (simp; done) | (simp; omega)) y
    have hf0 : ∀ (y : Since (x.w.alloc (.cells #[.int .i64 r.id, .int .i64 r.rd, .int .i64 r.s0, .int .i64 r.s1, .int .i64 r.e0, .int .i64 r.e1, .bool r.op, .slice la r.legs.length r.lc, .slice r.pa r.pauses.length r.pc, .int .i64 r.fw, .int .i64 r.fp, .int .i64 r.wh, .int .i64 r.pl] 73))) (o : Nat), y.w.frozen? ⟨x.w.heap.size, o, none⟩ = false := fun y o => Since.free (by simp [go_sem]) (by first | (simp; done) | (simp; omega)) y
    have hWup : ∃ z : Since w, (x.w.alloc (.cells #[.int .i64 r.id, .int .i64 r.rd, .int .i64 r.s0, .int .i64 r.s1, .int .i64 r.e0, .int .i64 r.e1, .bool r.op, .slice la r.legs.length r.lc, .slice r.pa r.pauses.length r.pc, .int .i64 r.fw, .int .i64 r.fp, .int .i64 r.wh, .int .i64 r.pl] 73)) = z.w := x.alloc _
    obtain ⟨y0, hy0⟩ := Since.refl (x.w.alloc (.cells #[.int .i64 r.id, .int .i64 r.rd, .int .i64 r.s0, .int .i64 r.s1, .int .i64 r.e0, .int .i64 r.e1, .bool r.op, .slice la r.legs.length r.lc, .slice r.pa r.pauses.length r.pc, .int .i64 r.fw, .int .i64 r.fp, .int .i64 r.wh, .int .i64 r.pl] 73))
    have Hbx := Lib.hid (And.intro x.b.size (show x.w.heap.size + 1 = (x.w.alloc (.cells #[.int .i64 r.id, .int .i64 r.rd, .int .i64 r.s0, .int .i64 r.s1, .int .i64 r.e0, .int .i64 r.e1, .bool r.op, .slice la r.legs.length r.lc, .slice r.pa r.pauses.length r.pc, .int .i64 r.fw, .int .i64 r.fp, .int .i64 r.wh, .int .i64 r.pl] 73)).heap.size from by simp))
    generalize hW : (x.w.alloc (.cells #[.int .i64 r.id, .int .i64 r.rd, .int .i64 r.s0, .int .i64 r.s1, .int .i64 r.e0, .int .i64 r.e1, .bool r.op, .slice la r.legs.length r.lc, .slice r.pa r.pauses.length r.pc, .int .i64 r.fw, .int .i64 r.fp, .int .i64 r.wh, .int .i64 r.pl] 73)) = W at *
    clear hW
    generalize x.w.heap.size = bx at *
    have Hup := Lib.hid (Since.up hWup)
    rw [hy0]
    clear hy0
    replace HL := Lib.hid (HL.out.to hWup)
    clear hWup
    go_upto_region 4 with fail
    have ha0 : (y0.w.alloc (.cells #[.int .i64 r.s0, .int .i64 r.s1] 56)).cell? ⟨y0.w.heap.size, 0, none⟩ = some (.int .i64 r.s0) := by simp [go_sem]
    have ha1 : (y0.w.alloc (.cells #[.int .i64 r.s0, .int .i64 r.s1] 56)).cell? ⟨y0.w.heap.size, 1, none⟩ = some (.int .i64 r.s1) := by simp [go_sem]
    have haf : ∀ o, (y0.w.alloc (.cells #[.int .i64 r.s0, .int .i64 r.s1] 56)).frozen? ⟨y0.w.heap.size, o, none⟩ = false := fun o => by simp [go_sem]
    have hlt0 : y0.w.heap.size < (y0.w.alloc (.cells #[.int .i64 r.s0, .int .i64 r.s1] 56)).heap.size := by simp
    have hst0 : ∃ zz : Since y0.w, (y0.w.alloc (.cells #[.int .i64 r.s0, .int .i64 r.s1] 56)) = zz.w := IsSince.alloc (IsSince.self _) _
    have hsz0 := y0.b.size
    obtain ⟨y1, e2⟩ := IsSince.alloc (IsSince.of y0) (.cells #[.int .i64 r.s0, .int .i64 r.s1] 56)
    rw [e2] at ha0 ha1 haf hlt0 hst0 ⊢
    (have hbox := BoxIs.new y0.w [.int .i64 r.s0, .int .i64 r.s1] 56; rw [e2] at hbox)
    clear e2 hst0
    generalize y0.w.heap.size = ga at *
    have Hha0 : ∀ q : Since y1.w, q.w.cell? ⟨ga, 0, none⟩ = some (.int .i64 r.s0) := fun q => Since.cell ha0 (by omega) q
    have Hha1 : ∀ q : Since y1.w, q.w.cell? ⟨ga, 1, none⟩ = some (.int .i64 r.s1) := fun q => Since.cell ha1 (by omega) q
    have Hhaf : ∀ (q : Since y1.w) (o : Nat), q.w.frozen? ⟨ga, o, none⟩ = false := fun q o => Since.free (haf o) (by omega) q
    have Hhag := Lib.hid (And.intro hsz0 hlt0)
    clear hlt0 hsz0
    have Hbox := Lib.hid hbox
    have Hga := Lib.hid (show W.heap.size ≤ ga by have := Hhag.out.1; omega)
    clear hbox ha0 ha1 haf Hha0 Hha1 Hhaf
    go_wp2_with fail
    go_loopw [27] (fun i wr => ∃ (k : Nat) (a0 a1 : Int) (y : Since W), k ≤ r.legs.length ∧ i = .int .i64 k ∧ wr = y.w ∧ BoxIs y.w ga [.int .i64 a0, .int .i64 a1] ∧ chainL r.s0 r.s1 r.legs r.e0 r.e1 = chainL a0 a1 (r.legs.drop k) r.e0 r.e1) (fun i _ => r.legs.length - (intOf i).toNat)
    case atStart => exact ⟨0, r.s0, r.s1, y1, by omega, rfl, rfl, Hbox.out, rfl⟩
    case round =>
      clear Hbox Hhag
      obtain ⟨k, a0, a1, y, hk, rfl, rfl, hbox, hch⟩ := hrel
      have Hbox := Lib.hid hbox; have Hch := Lib.hid hch; clear hbox hch
      have heq0 := span_equal
      have hgd := span_guard
      have Heq := Lib.hid heq0; clear heq0
      by_cases hlt : k < r.legs.length
      · obtain ⟨e, he⟩ : ∃ e, r.legs[k]? = some e := ⟨_, List.getElem?_eq_getElem hlt⟩
        obtain ⟨b1, off1, rfl, h1'⟩ := Els.leg HL.out he
        have pa0 := h1'.c0
        have pa1 := h1'.c1
        have pa2 := h1'.c2
        have pa3 := h1'.c3
        have pa4 := h1'.c4
        have hdrop : r.legs.drop k = e :: r.legs.drop (k + 1) := by
          rw [List.drop_eq_getElem_cons hlt, (List.getElem?_eq_some_iff.1 he).2]
        have Hdrop := Lib.hid hdrop
        have hk0 : (0 : Int) ≤ (k : Int) := by omega
        have hkl : (k : Int) < (r.legs.length : Int) := by omega
        clear h1' he hdrop
        go_upto_region 7 with fail
        have hx0 : (y.w.alloc (.cells #[.int .i64 e.b, .int .i64 e.f0, .int .i64 e.f1, .int .i64 e.t0, .int .i64 e.t1] 98)).cell? ⟨y.w.heap.size, 0, none⟩ = some (.int .i64 e.b) := by simp [go_sem]
        have hx1 : (y.w.alloc (.cells #[.int .i64 e.b, .int .i64 e.f0, .int .i64 e.f1, .int .i64 e.t0, .int .i64 e.t1] 98)).cell? ⟨y.w.heap.size, 1, none⟩ = some (.int .i64 e.f0) := by simp [go_sem]
        have hx2 : (y.w.alloc (.cells #[.int .i64 e.b, .int .i64 e.f0, .int .i64 e.f1, .int .i64 e.t0, .int .i64 e.t1] 98)).cell? ⟨y.w.heap.size, 2, none⟩ = some (.int .i64 e.f1) := by simp [go_sem]
        have hx3 : (y.w.alloc (.cells #[.int .i64 e.b, .int .i64 e.f0, .int .i64 e.f1, .int .i64 e.t0, .int .i64 e.t1] 98)).cell? ⟨y.w.heap.size, 3, none⟩ = some (.int .i64 e.t0) := by simp [go_sem]
        have hx4 : (y.w.alloc (.cells #[.int .i64 e.b, .int .i64 e.f0, .int .i64 e.f1, .int .i64 e.t0, .int .i64 e.t1] 98)).cell? ⟨y.w.heap.size, 4, none⟩ = some (.int .i64 e.t1) := by simp [go_sem]
        have hxf : ∀ o, (y.w.alloc (.cells #[.int .i64 e.b, .int .i64 e.f0, .int .i64 e.f1, .int .i64 e.t0, .int .i64 e.t1] 98)).frozen? ⟨y.w.heap.size, o, none⟩ = false := fun o => by simp [go_sem]
        have hlt0 : y.w.heap.size < (y.w.alloc (.cells #[.int .i64 e.b, .int .i64 e.f0, .int .i64 e.f1, .int .i64 e.t0, .int .i64 e.t1] 98)).heap.size := by simp
        have hst0 : ∃ zz : Since y.w, (y.w.alloc (.cells #[.int .i64 e.b, .int .i64 e.f0, .int .i64 e.f1, .int .i64 e.t0, .int .i64 e.t1] 98)) = zz.w := IsSince.alloc (IsSince.self _) _
        have hsz0 := y.b.size
        obtain ⟨y2, e2⟩ := IsSince.alloc (IsSince.of y) (.cells #[.int .i64 e.b, .int .i64 e.f0, .int .i64 e.f1, .int .i64 e.t0, .int .i64 e.t1] 98)
        rw [e2] at hx0 hx1 hx2 hx3 hx4 hxf hlt0 hst0 ⊢
        (replace Hbox := Lib.hid (Hbox.out.to hst0))
        clear e2 hst0
        generalize y.w.heap.size = g at *
        have Hhx0 : ∀ q : Since y2.w, q.w.cell? ⟨g, 0, none⟩ = some (.int .i64 e.b) := fun q => Since.cell hx0 (by omega) q
        have Hhx1 : ∀ q : Since y2.w, q.w.cell? ⟨g, 1, none⟩ = some (.int .i64 e.f0) := fun q => Since.cell hx1 (by omega) q
        have Hhx2 : ∀ q : Since y2.w, q.w.cell? ⟨g, 2, none⟩ = some (.int .i64 e.f1) := fun q => Since.cell hx2 (by omega) q
        have Hhx3 : ∀ q : Since y2.w, q.w.cell? ⟨g, 3, none⟩ = some (.int .i64 e.t0) := fun q => Since.cell hx3 (by omega) q
        have Hhx4 : ∀ q : Since y2.w, q.w.cell? ⟨g, 4, none⟩ = some (.int .i64 e.t1) := fun q => Since.cell hx4 (by omega) q
        have Hhxf : ∀ (q : Since y2.w) (o : Nat), q.w.frozen? ⟨g, o, none⟩ = false := fun q o => Since.free (hxf o) (by omega) q
        have Hhxg := Lib.hid (And.intro hsz0 hlt0)
        clear hlt0 hsz0
        have ka0 : ∀ q : Since y2.w, q.w.cell? ⟨ga, 0, none⟩ = some (.int .i64 a0) := fun q => (Hbox.out.since q).c 0 _ rfl
        have ka1 : ∀ q : Since y2.w, q.w.cell? ⟨ga, 1, none⟩ = some (.int .i64 a1) := fun q => (Hbox.out.since q).c 1 _ rfl
        have kaf : ∀ (q : Since y2.w) o, q.w.frozen? ⟨ga, o, none⟩ = false := fun q o => (Hbox.out.since q).f o
        have heq := Heq.out e.f0 e.f1 a0 a1
        obtain ⟨q0, hq0⟩ := Since.refl y2.w
        rw [hq0]
        clear hq0
        cases hb : (decide (e.f0 = a0) && decide (e.f1 = a1)) with
        | false =>
          rw [hb] at heq
          have Hr := Lib.hid (show joinedB r = false by rw [Hj.out, Hch.out, Hdrop.out]; unfold chainL; rw [hb]; rfl)
          clear hb
          go_wp2_with fail
          go_ret
          exact ⟨ret_bool Hr.out.symm, by obtain ⟨q, e⟩ := y2.trans q0; rw [e]; exact Hup.out q⟩
        | true =>
          rw [hb] at heq
          have Hr := Lib.hid (show chainL a0 a1 (r.legs.drop k) r.e0 r.e1 = chainL e.t0 e.t1 (r.legs.drop (k + 1)) r.e0 r.e1 by rw [Hdrop.out]; show (_ && _ && _) = _; rw [hb]; rfl)
          clear hb
          go_wp2_with fail
          have hb2 := (Hbox.out.since q0).sets (us := [.int .i64 e.t0, .int .i64 e.t1]) rfl
          obtain ⟨q, eq⟩ := y2.trans q0
          obtain ⟨y4, h4⟩ := q.sets ga Hga.out [.int .i64 e.t0, .int .i64 e.t1] 0
          rw [eq, h4] at hb2
          rw [eq]
          have H4 := Lib.hid h4; have Hb2 := Lib.hid hb2
          clear h4 hb2 eq
          go_roundw
          case rel => exact ⟨k + 1, e.t0, e.t1, y4, by omega, by go_num, H4.out, Hb2.out, by rw [Hch.out, Hr.out]⟩
          case measure => simp [intOf] <;> omega
      · obtain rfl : k = r.legs.length := by omega
        rw [List.drop_length] at Hch
        have hj2 : joinedB r = (decide (a0 = r.e0) && decide (a1 = r.e1)) := by rw [Hj.out, Hch.out]; rfl
        have Hj2 := Lib.hid hj2; clear hj2
        obtain ⟨q1, hq1⟩ := Since.refl y.w
        have ka0 : ∀ q : Since y.w, q.w.cell? ⟨ga, 0, none⟩ = some (.int .i64 a0) := fun q => (Hbox.out.since q).c 0 _ rfl
        have ka1 : ∀ q : Since y.w, q.w.cell? ⟨ga, 1, none⟩ = some (.int .i64 a1) := fun q => (Hbox.out.since q).c 1 _ rfl
        have heq := Heq.out a0 a1 r.e0 r.e1
        have kh4 : ∀ q : Since y.w, q.w.cell? ⟨bx, 4, none⟩ = some (.int .i64 r.e0) := fun q => by obtain ⟨z, e⟩ := y.trans q; rw [e]; exact hb0_4 z
        have kh5 : ∀ q : Since y.w, q.w.cell? ⟨bx, 5, none⟩ = some (.int .i64 r.e1) := fun q => by obtain ⟨z, e⟩ := y.trans q; rw [e]; exact hb0_5 z
        rw [hq1]
        clear hq1
        go_wp2_with fail
        go_ret
        exact ⟨ret_bool Hj2.out.symm, by obtain ⟨q, e⟩ := y.trans q1; rw [e]; exact Hup.out q⟩
  all_goals
    have Hr := Lib.hid (show joinedB r = false by
      cases hh : joinedB r
      · rfl
      · unfold joinedB at hh
        simp only [Bool.and_eq_true, decide_eq_true_eq] at hh
        omega)
    go_enter Tryd.func81, Tryd.ntmps81
    go_wp2_with fail
    go_ret
    exact ⟨ret_bool Hr.out.symm, x.alloc _⟩
end Go.Proofs.YtdkcclngionihaaDoor
/- The walks of the program's check of a ride, third part: the ends of legs and pauses are in order; the check. -/
namespace Go.Proofs.YtdkcclngionihaaDoor
open Go.RowKit

theorem drop_cons {α : Type} {l : List α} {k : Nat} {e : α} (he : l[k]? = some e) : l.drop k = e :: l.drop (k + 1) := by
  rw [List.drop_eq_getElem_cons (List.getElem?_eq_some_iff.1 he).1, (List.getElem?_eq_some_iff.1 he).2]
theorem drop_last {α : Type} {l : List α} {k : Nat} (h : k < l.length) : (l.drop (k + 1)).isEmpty = decide (k + 1 = l.length) := by
  rw [Bool.eq_iff_iff, List.isEmpty_iff, List.drop_eq_nil_iff, decide_eq_true_eq]; omega
set_option maxRecDepth 100000 in
set_option maxHeartbeats 8000000 in
theorem ordered_calls (w : World) (x : Since w) (r : Ride) (h : r.At w) :
    Calls Tryd.prog 82 #[.agg #[.int .i64 r.id, .int .i64 r.rd, .int .i64 r.s0, .int .i64 r.s1, .int .i64 r.e0, .int .i64 r.e1, .bool r.op, .slice r.la r.legs.length r.lc, .slice r.pa r.pauses.length r.pc, .int .i64 r.fw, .int .i64 r.fp, .int .i64 r.wh, .int .i64 r.pl]] x.w fun o w' => o = .returned (.bool (orderedB r)) ∧ ∃ y : Since w, w' = y.w := by
  have HL := Lib.hid h.l; have HP := Lib.hid h.p
  have hlm := h.lm
  have hpm := h.pm
  have hO : orderedB r = (legsO r.op r.legs && (r.pauses.isEmpty || psesO r.op r.e0 r.s0 r.pauses)) := rfl
  have HO := Lib.hid hO
  clear h hO
  generalize r.la = la at HL ⊢
  generalize r.pa = pa at HP ⊢
  generalize r.op = op at HO ⊢
  go_enter Tryd.func82, Tryd.ntmps82
  go_upto_region 1 with fail
  have hb0_0 : ∀ y : Since (x.w.alloc (.cells #[.int .i64 r.id, .int .i64 r.rd, .int .i64 r.s0, .int .i64 r.s1, .int .i64 r.e0, .int .i64 r.e1, .bool op, .slice la r.legs.length r.lc, .slice pa r.pauses.length r.pc, .int .i64 r.fw, .int .i64 r.fp, .int .i64 r.wh, .int .i64 r.pl] 73)), y.w.cell? ⟨x.w.heap.size, 0, none⟩ = some (.int .i64 r.id) := fun y => Since.cell (by simp [go_sem]) (by first | (simp; done) | (simp; omega)) y
  have hb0_1 : ∀ y : Since (x.w.alloc (.cells #[.int .i64 r.id, .int .i64 r.rd, .int .i64 r.s0, .int .i64 r.s1, .int .i64 r.e0, .int .i64 r.e1, .bool op, .slice la r.legs.length r.lc, .slice pa r.pauses.length r.pc, .int .i64 r.fw, .int .i64 r.fp, .int .i64 r.wh, .int .i64 r.pl] 73)), y.w.cell? ⟨x.w.heap.size, 1, none⟩ = some (.int .i64 r.rd) := fun y => Since.cell (by simp [go_sem]) (by first | (simp; done) | (simp; omega)) y
  have hb0_2 : ∀ y : Since (x.w.alloc (.cells #[.int .i64 r.id, .int .i64 r.rd, .int .i64 r.s0, .int .i64 r.s1, .int .i64 r.e0, .int .i64 r.e1, .bool op, .slice la r.legs.length r.lc, .slice pa r.pauses.length r.pc, .int .i64 r.fw, .int .i64 r.fp, .int .i64 r.wh, .int .i64 r.pl] 73)), y.w.cell? ⟨x.w.heap.size, 2, none⟩ = some (.int .i64 r.s0) := fun y => Since.cell (by simp [go_sem]) (by first | (simp; done) | (simp; omega)) y
  have hb0_3 : ∀ y : Since (x.w.alloc (.cells #[.int .i64 r.id, .int .i64 r.rd, .int .i64 r.s0, .int .i64 r.s1, .int .i64 r.e0, .int .i64 r.e1, .bool op, .slice la r.legs.length r.lc, .slice pa r.pauses.length r.pc, .int .i64 r.fw, .int .i64 r.fp, .int .i64 r.wh, .int .i64 r.pl] 73)), y.w.cell? ⟨x.w.heap.size, 3, none⟩ = some (.int .i64 r.s1) := fun y => Since.cell (by simp [go_sem]) (by first | (simp; done) | (simp; omega)) y
  have hb0_4 : ∀ y : Since (x.w.alloc (.cells #[.int .i64 r.id, .int .i64 r.rd, .int .i64 r.s0, .int .i64 r.s1, .int .i64 r.e0, .int .i64 r.e1, .bool op, .slice la r.legs.length r.lc, .slice pa r.pauses.length r.pc, .int .i64 r.fw, .int .i64 r.fp, .int .i64 r.wh, .int .i64 r.pl] 73)), y.w.cell? ⟨x.w.heap.size, 4, none⟩ = some (.int .i64 r.e0) := fun y => Since.cell (by simp [go_sem]) (by first | (simp; done) | (simp; omega)) y
  have hb0_5 : ∀ y : Since (x.w.alloc (.cells #[.int .i64 r.id, .int .i64 r.rd, .int .i64 r.s0, .int .i64 r.s1, .int .i64 r.e0, .int .i64 r.e1, .bool op, .slice la r.legs.length r.lc, .slice pa r.pauses.length r.pc, .int .i64 r.fw, .int .i64 r.fp, .int .i64 r.wh, .int .i64 r.pl] 73)), y.w.cell? ⟨x.w.heap.size, 5, none⟩ = some (.int .i64 r.e1) := fun y => Since.cell (by simp [go_sem]) (by first | (simp; done) | (simp; omega)) y
  have hb0_6 : ∀ y : Since (x.w.alloc (.cells #[.int .i64 r.id, .int .i64 r.rd, .int .i64 r.s0, .int .i64 r.s1, .int .i64 r.e0, .int .i64 r.e1, .bool op, .slice la r.legs.length r.lc, .slice pa r.pauses.length r.pc, .int .i64 r.fw, .int .i64 r.fp, .int .i64 r.wh, .int .i64 r.pl] 73)), y.w.cell? ⟨x.w.heap.size, 6, none⟩ = some (.bool op) := fun y => Since.cell (by simp [go_sem]) (by first | (simp; done) | (simp; omega)) y
  have hb0_7 : ∀ y : Since (x.w.alloc (.cells #[.int .i64 r.id, .int .i64 r.rd, .int .i64 r.s0, .int .i64 r.s1, .int .i64 r.e0, .int .i64 r.e1, .bool op, .slice la r.legs.length r.lc, .slice pa r.pauses.length r.pc, .int .i64 r.fw, .int .i64 r.fp, .int .i64 r.wh, .int .i64 r.pl] 73)), y.w.cell? ⟨x.w.heap.size, 7, none⟩ = some (.slice la r.legs.length r.lc) := fun y => Since.cell (by simp [go_sem]) (by first | (simp; done) | (simp; omega)) y
  have hb0_8 : ∀ y : Since (x.w.alloc (.cells #[.int .i64 r.id, .int .i64 r.rd, .int .i64 r.s0, .int .i64 r.s1, .int .i64 r.e0, .int .i64 r.e1, .bool op, .slice la r.legs.length r.lc, .slice pa r.pauses.length r.pc, .int .i64 r.fw, .int .i64 r.fp, .int .i64 r.wh, .int .i64 r.pl] 73)), y.w.cell? ⟨x.w.heap.size, 8, none⟩ = some (.slice pa r.pauses.length r.pc) := fun y => Since.cell (by simp [go_sem]) (by first | (simp; done) | (simp; omega)) y
  have hb0_9 : ∀ y : Since (x.w.alloc (.cells #[.int .i64 r.id, .int .i64 r.rd, .int .i64 r.s0, .int .i64 r.s1, .int .i64 r.e0, .int .i64 r.e1, .bool op, .slice la r.legs.length r.lc, .slice pa r.pauses.length r.pc, .int .i64 r.fw, .int .i64 r.fp, .int .i64 r.wh, .int .i64 r.pl] 73)), y.w.cell? ⟨x.w.heap.size, 9, none⟩ = some (.int .i64 r.fw) := fun y => Since.cell (by simp [go_sem]) (by first | (simp; done) | (simp; omega)) y
  have hb0_10 : ∀ y : Since (x.w.alloc (.cells #[.int .i64 r.id, .int .i64 r.rd, .int .i64 r.s0, .int .i64 r.s1, .int .i64 r.e0, .int .i64 r.e1, .bool op, .slice la r.legs.length r.lc, .slice pa r.pauses.length r.pc, .int .i64 r.fw, .int .i64 r.fp, .int .i64 r.wh, .int .i64 r.pl] 73)), y.w.cell? ⟨x.w.heap.size, 10, none⟩ = some (.int .i64 r.fp) := fun y => Since.cell (by simp [go_sem]) (by first | (simp; done) | (simp; omega)) y
  have hb0_11 : ∀ y : Since (x.w.alloc (.cells #[.int .i64 r.id, .int .i64 r.rd, .int .i64 r.s0, .int .i64 r.s1, .int .i64 r.e0, .int .i64 r.e1, .bool op, .slice la r.legs.length r.lc, .slice pa r.pauses.length r.pc, .int .i64 r.fw, .int .i64 r.fp, .int .i64 r.wh, .int .i64 r.pl] 73)), y.w.cell? ⟨x.w.heap.size, 11, none⟩ = some (.int .i64 r.wh) := fun y => Since.cell (by simp [go_sem]) (by first | (simp; done) | (simp; omega)) y
  have hb0_12 : ∀ y : Since (x.w.alloc (.cells #[.int .i64 r.id, .int .i64 r.rd, .int .i64 r.s0, .int .i64 r.s1, .int .i64 r.e0, .int .i64 r.e1, .bool op, .slice la r.legs.length r.lc, .slice pa r.pauses.length r.pc, .int .i64 r.fw, .int .i64 r.fp, .int .i64 r.wh, .int .i64 r.pl] 73)), y.w.cell? ⟨x.w.heap.size, 12, none⟩ = some (.int .i64 r.pl) := fun y => Since.cell (by simp [go_sem]) (by first | (simp; done) | (simp; omega)) y
  have hf0 : ∀ (y : Since (x.w.alloc (.cells #[.int .i64 r.id, .int .i64 r.rd, .int .i64 r.s0, .int .i64 r.s1, .int .i64 r.e0, .int .i64 r.e1, .bool op, .slice la r.legs.length r.lc, .slice pa r.pauses.length r.pc, .int .i64 r.fw, .int .i64 r.fp, .int .i64 r.wh, .int .i64 r.pl] 73))) (o : Nat), y.w.frozen? ⟨x.w.heap.size, o, none⟩ = false := fun y o => Since.free (by simp [go_sem]) (by first | (simp; done) | (simp; omega)) y
  have hWup : ∃ z : Since w, (x.w.alloc (.cells #[.int .i64 r.id, .int .i64 r.rd, .int .i64 r.s0, .int .i64 r.s1, .int .i64 r.e0, .int .i64 r.e1, .bool op, .slice la r.legs.length r.lc, .slice pa r.pauses.length r.pc, .int .i64 r.fw, .int .i64 r.fp, .int .i64 r.wh, .int .i64 r.pl] 73)) = z.w := x.alloc _
  obtain ⟨y0, hy0⟩ := Since.refl (x.w.alloc (.cells #[.int .i64 r.id, .int .i64 r.rd, .int .i64 r.s0, .int .i64 r.s1, .int .i64 r.e0, .int .i64 r.e1, .bool op, .slice la r.legs.length r.lc, .slice pa r.pauses.length r.pc, .int .i64 r.fw, .int .i64 r.fp, .int .i64 r.wh, .int .i64 r.pl] 73))
  have Hbx := Lib.hid (And.intro x.b.size (show x.w.heap.size + 1 = (x.w.alloc (.cells #[.int .i64 r.id, .int .i64 r.rd, .int .i64 r.s0, .int .i64 r.s1, .int .i64 r.e0, .int .i64 r.e1, .bool op, .slice la r.legs.length r.lc, .slice pa r.pauses.length r.pc, .int .i64 r.fw, .int .i64 r.fp, .int .i64 r.wh, .int .i64 r.pl] 73)).heap.size from by simp))
  generalize hW : (x.w.alloc (.cells #[.int .i64 r.id, .int .i64 r.rd, .int .i64 r.s0, .int .i64 r.s1, .int .i64 r.e0, .int .i64 r.e1, .bool op, .slice la r.legs.length r.lc, .slice pa r.pauses.length r.pc, .int .i64 r.fw, .int .i64 r.fp, .int .i64 r.wh, .int .i64 r.pl] 73)) = W at *
  clear hW
  generalize x.w.heap.size = bx at *
  have Hup := Lib.hid (Since.up hWup)
  rw [hy0]
  clear hy0
  replace HL := Lib.hid (HL.out.to hWup); replace HP := Lib.hid (HP.out.to hWup)
  clear hWup
  go_wp2_with fail
  go_loopw [11] (fun i wr => ∃ (k : Nat) (y : Since W), k ≤ r.legs.length ∧ i = .int .i64 k ∧ wr = y.w ∧ legsO op r.legs = legsO op (r.legs.drop k)) (fun i _ => r.legs.length - (intOf i).toNat)
  case atStart => exact ⟨0, _, by omega, rfl, rfl, rfl⟩
  case round =>
    obtain ⟨k, y, hk, rfl, rfl, hch⟩ := hrel
    have Hch := Lib.hid hch; clear hch
    by_cases hlt : k < r.legs.length
    · obtain ⟨e, he⟩ : ∃ e, r.legs[k]? = some e := ⟨_, List.getElem?_eq_getElem hlt⟩
      obtain ⟨b1, off1, rfl, h1'⟩ := Els.leg HL.out he
      have pa0 := h1'.c0
      have pa1 := h1'.c1
      have pa2 := h1'.c2
      have pa3 := h1'.c3
      have pa4 := h1'.c4
      have hstep : legsO op (r.legs.drop k) = ((decide (e.f0 ≤ e.t0) || (op && decide (k + 1 = r.legs.length))) && legsO op (r.legs.drop (k + 1))) := by
        rw [drop_cons he, ← drop_last hlt]; rfl
      have Hstep := Lib.hid hstep
      have hk0 : (0 : Int) ≤ (k : Int) := by omega
      have hkl : (k : Int) < (r.legs.length : Int) := by omega
      clear h1' he hstep
      go_upto_region 4 with fail
      have hx0 : (y.w.alloc (.cells #[.int .i64 e.b, .int .i64 e.f0, .int .i64 e.f1, .int .i64 e.t0, .int .i64 e.t1] 98)).cell? ⟨y.w.heap.size, 0, none⟩ = some (.int .i64 e.b) := by simp [go_sem]
      have hx1 : (y.w.alloc (.cells #[.int .i64 e.b, .int .i64 e.f0, .int .i64 e.f1, .int .i64 e.t0, .int .i64 e.t1] 98)).cell? ⟨y.w.heap.size, 1, none⟩ = some (.int .i64 e.f0) := by simp [go_sem]
      have hx2 : (y.w.alloc (.cells #[.int .i64 e.b, .int .i64 e.f0, .int .i64 e.f1, .int .i64 e.t0, .int .i64 e.t1] 98)).cell? ⟨y.w.heap.size, 2, none⟩ = some (.int .i64 e.f1) := by simp [go_sem]
      have hx3 : (y.w.alloc (.cells #[.int .i64 e.b, .int .i64 e.f0, .int .i64 e.f1, .int .i64 e.t0, .int .i64 e.t1] 98)).cell? ⟨y.w.heap.size, 3, none⟩ = some (.int .i64 e.t0) := by simp [go_sem]
      have hx4 : (y.w.alloc (.cells #[.int .i64 e.b, .int .i64 e.f0, .int .i64 e.f1, .int .i64 e.t0, .int .i64 e.t1] 98)).cell? ⟨y.w.heap.size, 4, none⟩ = some (.int .i64 e.t1) := by simp [go_sem]
      have hxf : ∀ o, (y.w.alloc (.cells #[.int .i64 e.b, .int .i64 e.f0, .int .i64 e.f1, .int .i64 e.t0, .int .i64 e.t1] 98)).frozen? ⟨y.w.heap.size, o, none⟩ = false := fun o => by simp [go_sem]
      have hlt0 : y.w.heap.size < (y.w.alloc (.cells #[.int .i64 e.b, .int .i64 e.f0, .int .i64 e.f1, .int .i64 e.t0, .int .i64 e.t1] 98)).heap.size := by simp
      have hst0 : ∃ zz : Since y.w, (y.w.alloc (.cells #[.int .i64 e.b, .int .i64 e.f0, .int .i64 e.f1, .int .i64 e.t0, .int .i64 e.t1] 98)) = zz.w := IsSince.alloc (IsSince.self _) _
      have hsz0 := y.b.size
      obtain ⟨y2, e2⟩ := IsSince.alloc (IsSince.of y) (.cells #[.int .i64 e.b, .int .i64 e.f0, .int .i64 e.f1, .int .i64 e.t0, .int .i64 e.t1] 98)
      rw [e2] at hx0 hx1 hx2 hx3 hx4 hxf hlt0 hst0 ⊢
      skip
      clear e2 hst0
      generalize y.w.heap.size = g at *
      have Hhx0 : ∀ q : Since y2.w, q.w.cell? ⟨g, 0, none⟩ = some (.int .i64 e.b) := fun q => Since.cell hx0 (by omega) q
      have Hhx1 : ∀ q : Since y2.w, q.w.cell? ⟨g, 1, none⟩ = some (.int .i64 e.f0) := fun q => Since.cell hx1 (by omega) q
      have Hhx2 : ∀ q : Since y2.w, q.w.cell? ⟨g, 2, none⟩ = some (.int .i64 e.f1) := fun q => Since.cell hx2 (by omega) q
      have Hhx3 : ∀ q : Since y2.w, q.w.cell? ⟨g, 3, none⟩ = some (.int .i64 e.t0) := fun q => Since.cell hx3 (by omega) q
      have Hhx4 : ∀ q : Since y2.w, q.w.cell? ⟨g, 4, none⟩ = some (.int .i64 e.t1) := fun q => Since.cell hx4 (by omega) q
      have Hhxf : ∀ (q : Since y2.w) (o : Nat), q.w.frozen? ⟨g, o, none⟩ = false := fun q o => Since.free (hxf o) (by omega) q
      have Hhxg := Lib.hid (And.intro hsz0 hlt0)
      clear hlt0 hsz0
      replace hb0_0 := Since.cellTo ⟨y2, rfl⟩ hb0_0
      replace hb0_1 := Since.cellTo ⟨y2, rfl⟩ hb0_1
      replace hb0_2 := Since.cellTo ⟨y2, rfl⟩ hb0_2
      replace hb0_3 := Since.cellTo ⟨y2, rfl⟩ hb0_3
      replace hb0_4 := Since.cellTo ⟨y2, rfl⟩ hb0_4
      replace hb0_5 := Since.cellTo ⟨y2, rfl⟩ hb0_5
      replace hb0_6 := Since.cellTo ⟨y2, rfl⟩ hb0_6
      replace hb0_7 := Since.cellTo ⟨y2, rfl⟩ hb0_7
      replace hb0_8 := Since.cellTo ⟨y2, rfl⟩ hb0_8
      replace hb0_9 := Since.cellTo ⟨y2, rfl⟩ hb0_9
      replace hb0_10 := Since.cellTo ⟨y2, rfl⟩ hb0_10
      replace hb0_11 := Since.cellTo ⟨y2, rfl⟩ hb0_11
      replace hb0_12 := Since.cellTo ⟨y2, rfl⟩ hb0_12
      obtain ⟨q0, hq0⟩ := Since.refl y2.w
      rw [hq0]
      clear hq0
      rcases (by omega : e.f0 ≤ e.t0 ∨ (e.t0 < e.f0 ∧ k + 1 = r.legs.length) ∨ (e.t0 < e.f0 ∧ k + 1 < r.legs.length)) with hle | ⟨hgt, hkk⟩ | ⟨hgt, hkk⟩
      · have Hr := Lib.hid (show legsO op (r.legs.drop k) = legsO op (r.legs.drop (k + 1)) by rw [Hstep.out]; simp [hle])
        go_wp2_with fail
        obtain ⟨q, eq⟩ := y2.trans q0
        rw [eq]
        go_roundw
        case rel => exact ⟨k + 1, q, by omega, by go_num, rfl, by rw [Hch.out, Hr.out]⟩
        case measure => simp [intOf] <;> omega
      · have hkb : ((k : Int) == (r.legs.length : Int) - 1) = true := by simp; omega
        have Hkk := Lib.hid hkk; clear hkk
        cases op with
        | true =>
          have Hr := Lib.hid (show legsO true (r.legs.drop k) = legsO true (r.legs.drop (k + 1)) by rw [Hstep.out]; simp [Hkk.out])
          go_wp2_with fail
          obtain ⟨q, eq⟩ := y2.trans q0
          rw [eq]
          go_roundw
          case rel => exact ⟨k + 1, q, by omega, by go_num, rfl, by rw [Hch.out, Hr.out]⟩
          case measure => simp [intOf] <;> omega
        | false =>
          have Hr := Lib.hid (show orderedB r = false by rw [HO.out, Hch.out, Hstep.out]; simp; omega)
          go_wp2_with fail
          go_ret
          exact ⟨ret_bool Hr.out.symm, by obtain ⟨q, e⟩ := y2.trans q0; rw [e]; exact Hup.out q⟩
      · have hkb : ((k : Int) == (r.legs.length : Int) - 1) = false := by simp; omega
        have Hr := Lib.hid (show orderedB r = false by rw [HO.out, Hch.out, Hstep.out]; simp; omega)
        cases op
        all_goals
          go_wp2_with fail
          go_ret
          exact ⟨ret_bool Hr.out.symm, by obtain ⟨q, e⟩ := y2.trans q0; rw [e]; exact Hup.out q⟩
    · obtain rfl : k = r.legs.length := by omega
      rw [List.drop_length] at Hch
      have HO2 := Lib.hid (show orderedB r = (r.pauses.isEmpty || psesO op r.e0 r.s0 r.pauses) by rw [HO.out, Hch.out]; rfl)
      clear HO Hch
      go_wp2_with fail
      go_loopw [5, 43] (fun v i wr => ∃ (k : Nat) (a : Int) (y : Since W), k ≤ r.pauses.length ∧ i = .int .i64 k ∧ v = .int .i64 a ∧ wr = y.w ∧ psesO op r.e0 r.s0 r.pauses = psesO op r.e0 a (r.pauses.drop k)) (fun _ i _ => r.pauses.length - (intOf i).toNat)
      case atStart => exact ⟨0, r.s0, y, by omega, rfl, rfl, rfl, rfl⟩
      case round =>
        obtain ⟨k, a, y, hk, rfl, rfl, rfl, hch⟩ := hrel
        have Hch := Lib.hid hch; clear hch
        by_cases hlt : k < r.pauses.length
        · obtain ⟨e, he⟩ : ∃ e, r.pauses[k]? = some e := ⟨_, List.getElem?_eq_getElem hlt⟩
          obtain ⟨b1, off1, rfl, h1'⟩ := Els.pse HP.out he
          have pb0 := h1'.c0
          have pb1 := h1'.c1
          have pb2 := h1'.c2
          have pb3 := h1'.c3
          have hstep : psesO op r.e0 a (r.pauses.drop k) = (decide (a ≤ e.f0) && ((op && decide (k + 1 = r.pauses.length) && decide (e.t0 = 0)) || (decide (e.f0 ≤ e.t0) && psesO op r.e0 e.t0 (r.pauses.drop (k + 1))))) := by
            rw [drop_cons he, ← drop_last hlt]; rfl
          have Hstep := Lib.hid hstep
          have hne : r.pauses.isEmpty = false := by cases hh : r.pauses <;> simp_all
          have HO3 := Lib.hid (show orderedB r = psesO op r.e0 a (r.pauses.drop k) by rw [HO2.out, hne, Hch.out]; rfl)
          have hk0 : (0 : Int) ≤ (k : Int) := by omega
          have hkl : (k : Int) < (r.pauses.length : Int) := by omega
          clear h1' he hstep hne
          go_upto_region 11 with fail
          have hx0 : (y.w.alloc (.cells #[.int .i64 e.f0, .int .i64 e.f1, .int .i64 e.t0, .int .i64 e.t1] 146)).cell? ⟨y.w.heap.size, 0, none⟩ = some (.int .i64 e.f0) := by simp [go_sem]
          have hx1 : (y.w.alloc (.cells #[.int .i64 e.f0, .int .i64 e.f1, .int .i64 e.t0, .int .i64 e.t1] 146)).cell? ⟨y.w.heap.size, 1, none⟩ = some (.int .i64 e.f1) := by simp [go_sem]
          have hx2 : (y.w.alloc (.cells #[.int .i64 e.f0, .int .i64 e.f1, .int .i64 e.t0, .int .i64 e.t1] 146)).cell? ⟨y.w.heap.size, 2, none⟩ = some (.int .i64 e.t0) := by simp [go_sem]
          have hx3 : (y.w.alloc (.cells #[.int .i64 e.f0, .int .i64 e.f1, .int .i64 e.t0, .int .i64 e.t1] 146)).cell? ⟨y.w.heap.size, 3, none⟩ = some (.int .i64 e.t1) := by simp [go_sem]
          have hxf : ∀ o, (y.w.alloc (.cells #[.int .i64 e.f0, .int .i64 e.f1, .int .i64 e.t0, .int .i64 e.t1] 146)).frozen? ⟨y.w.heap.size, o, none⟩ = false := fun o => by simp [go_sem]
          have hlt0 : y.w.heap.size < (y.w.alloc (.cells #[.int .i64 e.f0, .int .i64 e.f1, .int .i64 e.t0, .int .i64 e.t1] 146)).heap.size := by simp
          have hst0 : ∃ zz : Since y.w, (y.w.alloc (.cells #[.int .i64 e.f0, .int .i64 e.f1, .int .i64 e.t0, .int .i64 e.t1] 146)) = zz.w := IsSince.alloc (IsSince.self _) _
          have hsz0 := y.b.size
          obtain ⟨y2, e2⟩ := IsSince.alloc (IsSince.of y) (.cells #[.int .i64 e.f0, .int .i64 e.f1, .int .i64 e.t0, .int .i64 e.t1] 146)
          rw [e2] at hx0 hx1 hx2 hx3 hxf hlt0 hst0 ⊢
          skip
          clear e2 hst0
          generalize y.w.heap.size = g at *
          have Hhx0 : ∀ q : Since y2.w, q.w.cell? ⟨g, 0, none⟩ = some (.int .i64 e.f0) := fun q => Since.cell hx0 (by omega) q
          have Hhx1 : ∀ q : Since y2.w, q.w.cell? ⟨g, 1, none⟩ = some (.int .i64 e.f1) := fun q => Since.cell hx1 (by omega) q
          have Hhx2 : ∀ q : Since y2.w, q.w.cell? ⟨g, 2, none⟩ = some (.int .i64 e.t0) := fun q => Since.cell hx2 (by omega) q
          have Hhx3 : ∀ q : Since y2.w, q.w.cell? ⟨g, 3, none⟩ = some (.int .i64 e.t1) := fun q => Since.cell hx3 (by omega) q
          have Hhxf : ∀ (q : Since y2.w) (o : Nat), q.w.frozen? ⟨g, o, none⟩ = false := fun q o => Since.free (hxf o) (by omega) q
          have Hhxg := Lib.hid (And.intro hsz0 hlt0)
          clear hlt0 hsz0
          replace hb0_0 := Since.cellTo ⟨y2, rfl⟩ hb0_0
          replace hb0_1 := Since.cellTo ⟨y2, rfl⟩ hb0_1
          replace hb0_2 := Since.cellTo ⟨y2, rfl⟩ hb0_2
          replace hb0_3 := Since.cellTo ⟨y2, rfl⟩ hb0_3
          replace hb0_4 := Since.cellTo ⟨y2, rfl⟩ hb0_4
          replace hb0_5 := Since.cellTo ⟨y2, rfl⟩ hb0_5
          replace hb0_6 := Since.cellTo ⟨y2, rfl⟩ hb0_6
          replace hb0_7 := Since.cellTo ⟨y2, rfl⟩ hb0_7
          replace hb0_8 := Since.cellTo ⟨y2, rfl⟩ hb0_8
          replace hb0_9 := Since.cellTo ⟨y2, rfl⟩ hb0_9
          replace hb0_10 := Since.cellTo ⟨y2, rfl⟩ hb0_10
          replace hb0_11 := Since.cellTo ⟨y2, rfl⟩ hb0_11
          replace hb0_12 := Since.cellTo ⟨y2, rfl⟩ hb0_12
          obtain ⟨q0, hq0⟩ := Since.refl y2.w
          rw [hq0]
          clear hq0
          by_cases hfa : e.f0 < a
          · have Hr := Lib.hid (show orderedB r = false by rw [HO3.out, Hstep.out, decide_eq_false (by omega)]; rfl)
            go_wp2_with fail
            go_ret
            exact ⟨ret_bool Hr.out.symm, by obtain ⟨q, e⟩ := y2.trans q0; rw [e]; exact Hup.out q⟩
          have hfa' : a ≤ e.f0 := by omega
          by_cases hret : op = true ∧ k + 1 = r.pauses.length ∧ e.t0 = 0
          · obtain ⟨rfl, hkk, ht0⟩ := hret
            have Hr := Lib.hid (show orderedB r = true by rw [HO3.out, Hstep.out, decide_eq_true hfa', decide_eq_true hkk, decide_eq_true ht0]; rfl)
            have hkb : ((k : Int) == (r.pauses.length : Int) - 1) = true := by simp; omega
            have htb : (e.t0 == 0) = true := by simpa using ht0
            have Hkk := Lib.hid hkk; have Ht0 := Lib.hid ht0
            clear hkk ht0 hfa
            go_wp2_with fail
            go_ret
            exact ⟨ret_bool Hr.out.symm, by obtain ⟨q, e⟩ := y2.trans q0; rw [e]; exact Hup.out q⟩
          have hno : (op && decide (k + 1 = r.pauses.length) && decide (e.t0 = 0)) = false := by
            cases op
            · rfl
            · by_cases h1 : k + 1 = r.pauses.length
              · by_cases h2 : e.t0 = 0
                · exact (hret ⟨rfl, h1, h2⟩).elim
                · simp [h2]
              · simp [h1]
          have Hno := Lib.hid hno
          have hcase : (op = false) ∨ (op = true ∧ ((k : Int) == (r.pauses.length : Int) - 1) = false) ∨ (op = true ∧ ((k : Int) == (r.pauses.length : Int) - 1) = true ∧ (e.t0 == 0) = false) := by
            cases op
            · exact .inl rfl
            · by_cases h1 : k + 1 = r.pauses.length
              · exact .inr (.inr ⟨rfl, by simp; omega, by simp; intro h2; exact hret ⟨rfl, h1, h2⟩⟩)
              · exact .inr (.inl ⟨rfl, by simp; omega⟩)
          clear hno hret hfa
          by_cases hft : e.f0 ≤ e.t0
          · have Hr := Lib.hid (show psesO op r.e0 a (r.pauses.drop k) = psesO op r.e0 e.t0 (r.pauses.drop (k + 1)) by rw [Hstep.out, Hno.out, decide_eq_true hfa', decide_eq_true hft]; rfl)
            rcases hcase with rfl | ⟨rfl, hkb⟩ | ⟨rfl, hkb, htb⟩
            all_goals
              go_wp2_with fail
              obtain ⟨q, eq⟩ := y2.trans q0
              rw [eq]
              go_roundw
              case rel => exact ⟨k + 1, e.t0, q, by omega, by go_num, rfl, rfl, by rw [Hch.out, Hr.out]⟩
              case measure => simp [intOf] <;> omega
          · have Hr := Lib.hid (show orderedB r = false by rw [HO3.out, Hstep.out, Hno.out, decide_eq_true hfa', decide_eq_false hft]; rfl)
            rcases hcase with rfl | ⟨rfl, hkb⟩ | ⟨rfl, hkb, htb⟩
            all_goals
              go_wp2_with fail
              go_ret
              exact ⟨ret_bool Hr.out.symm, by obtain ⟨q, e⟩ := y2.trans q0; rw [e]; exact Hup.out q⟩
        · obtain rfl : k = r.pauses.length := by omega
          rw [List.drop_length] at Hch
          have HO3 := Lib.hid (show orderedB r = (decide (r.pauses.length = 0) || op || decide (a ≤ r.e0)) by
            rw [HO2.out, Hch.out]
            have : r.pauses.isEmpty = decide (r.pauses.length = 0) := by rw [Bool.eq_iff_iff]; simp
            rw [this, Bool.or_assoc]; rfl)
          clear HO2 Hch
          have hcase : op = true ∨ (op = false ∧ ((r.pauses.length : Int) == 0) = true ∧ orderedB r = true) ∨ (op = false ∧ ((r.pauses.length : Int) == 0) = false ∧ orderedB r = decide (a ≤ r.e0)) := by
            cases op
            · by_cases h0 : r.pauses.length = 0
              · exact .inr (.inl ⟨rfl, by simp; simpa using h0, by rw [HO3.out, decide_eq_true h0]; rfl⟩)
              · exact .inr (.inr ⟨rfl, by simp; simpa using h0, by rw [HO3.out, decide_eq_false h0]; rfl⟩)
            · exact .inl rfl
          rcases hcase with rfl | ⟨rfl, h0, hr⟩ | ⟨rfl, h0, hr⟩
          · have Hr := Lib.hid (show orderedB r = true by rw [HO3.out]; simp)
            go_wp2_with fail
            go_ret
            exact ⟨ret_bool Hr.out.symm, Hup.out _⟩
          · have Hr := Lib.hid hr; clear hr
            go_wp2_with fail
            go_ret
            exact ⟨ret_bool Hr.out.symm, Hup.out _⟩
          · have Hr := Lib.hid hr; clear hr
            go_wp2_with fail
            go_ret
            exact ⟨ret_bool Hr.out.symm, Hup.out _⟩
end Go.Proofs.YtdkcclngionihaaDoor
/- The walks of the reference's check of a ride, second part: the legs follow one another. -/
namespace Go.Proofs.YtdkcclngionihaaDoor
open Go.RowKit

/-- leg i begins where leg i - 1 ends -/
def linkB (l : List Leg) (i : Nat) : Bool := match l[i]?, l[i - 1]? with | some x, some y => decide (x.f0 = y.t0) && decide (x.f1 = y.t1) | _, _ => true
theorem linkB_at {l : List Leg} {i : Nat} {x y : Leg} (hx : l[i]? = some x) (hy : l[i - 1]? = some y) : linkB l i = (decide (x.f0 = y.t0) && decide (x.f1 = y.t1)) := by unfold linkB; rw [hx, hy]
theorem chainL_iff : ∀ (l : List Leg) (a0 a1 e0 e1 : Int) (x y : Leg), l[0]? = some x → l[l.length - 1]? = some y →
    (chainL a0 a1 l e0 e1 = true ↔ (x.f0 = a0 ∧ x.f1 = a1) ∧ (y.t0 = e0 ∧ y.t1 = e1) ∧ ∀ i, 1 ≤ i → i < l.length → linkB l i = true)
  | [], _, _, _, _, _, _, h, _ => by simp at h
  | [z], a0, a1, e0, e1, x, y, hx, hy => by
    simp at hx hy; subst hx; subst hy
    simp only [chainL, Bool.and_eq_true, decide_eq_true_eq, List.length_cons, List.length_nil]
    constructor
    · rintro ⟨h1, h2⟩; exact ⟨h1, h2, fun i h h' => by omega⟩
    · rintro ⟨h1, h2, _⟩; exact ⟨h1, h2⟩
  | z :: z2 :: l, a0, a1, e0, e1, x, y, hx, hy => by
    simp at hx; subst hx
    have hy' : (z2 :: l)[(z2 :: l).length - 1]? = some y := by
      simp only [List.length_cons, Nat.add_sub_cancel] at hy ⊢
      rw [← hy]; simp
    have ih := chainL_iff (z2 :: l) z.t0 z.t1 e0 e1 z2 y rfl hy'
    show (decide (z.f0 = a0) && decide (z.f1 = a1) && chainL z.t0 z.t1 (z2 :: l) e0 e1) = true ↔ _
    rw [Bool.and_eq_true, ih, Bool.and_eq_true, decide_eq_true_eq, decide_eq_true_eq]
    constructor
    · rintro ⟨h1, h2, h3, h4⟩
      refine ⟨h1, h3, fun i hi hil => ?_⟩
      by_cases hi1 : i = 1
      · subst hi1
        rw [linkB_at (x := z2) (y := z) rfl rfl]; simp [h2]
      · have := h4 (i - 1) (by omega) (by simp at hil ⊢; omega)
        unfold linkB at this ⊢
        obtain ⟨j, rfl⟩ : ∃ j, i = j + 2 := ⟨i - 2, by omega⟩
        simpa using this
    · rintro ⟨h1, h3, h4⟩
      have h2 := h4 1 (by omega) (by simp)
      rw [linkB_at (x := z2) (y := z) rfl rfl, Bool.and_eq_true, decide_eq_true_eq, decide_eq_true_eq] at h2
      refine ⟨h1, h2, h3, fun i hi hil => ?_⟩
      have := h4 (i + 1) (by omega) (by simp at hil ⊢; omega)
      unfold linkB at this ⊢
      obtain ⟨j, rfl⟩ : ∃ j, i = j + 1 := ⟨i - 1, by omega⟩
      simpa using this
set_option maxRecDepth 100000 in
set_option maxHeartbeats 8000000 in
theorem rjoined_calls (w : World) (x : Since w) (r : Ride) (h : r.At w) :
    Calls Tryd.prog 123 #[.agg #[.int .i64 r.id, .int .i64 r.rd, .int .i64 r.s0, .int .i64 r.s1, .int .i64 r.e0, .int .i64 r.e1, .bool r.op, .slice r.la r.legs.length r.lc, .slice r.pa r.pauses.length r.pc, .int .i64 r.fw, .int .i64 r.fp, .int .i64 r.wh, .int .i64 r.pl]] x.w fun o w' => o = .returned (.bool (joinedB r)) ∧ ∃ y : Since w, w' = y.w := by
  have HL := Lib.hid h.l
  have hlm := h.lm
  have hpm := h.pm
  clear h
  generalize r.la = la at HL ⊢
  rcases (by omega : r.legs.length < 1 ∨ (1 ≤ r.legs.length ∧ 512 < r.legs.length) ∨ (1 ≤ r.legs.length ∧ r.legs.length ≤ 512 ∧ 512 < r.pauses.length) ∨ (1 ≤ r.legs.length ∧ r.legs.length ≤ 512 ∧ r.pauses.length ≤ 512)) with h1 | ⟨h1, h2⟩ | ⟨h1, h2, h3⟩ | ⟨h1, h2, h3⟩
  case inr.inr.inr =>
    have hj : joinedB r = chainL r.s0 r.s1 r.legs r.e0 r.e1 := by unfold joinedB; simp [h1, h2, h3]
    obtain ⟨u, hu⟩ : ∃ e, r.legs[0]? = some e := ⟨_, List.getElem?_eq_getElem (by omega)⟩
    obtain ⟨v, hv⟩ : ∃ e, r.legs[r.legs.length - 1]? = some e := ⟨_, List.getElem?_eq_getElem (by omega)⟩
    have hci := chainL_iff r.legs r.s0 r.s1 r.e0 r.e1 u v hu hv
    rw [← hj] at hci
    have Hci := Lib.hid hci
    go_enter Tryd.func123, Tryd.ntmps123
    go_upto_region 1 with fail
    have hb0_0 : ∀ y : Since (x.w.alloc (.cells #[.int .i64 r.id, .int .i64 r.rd, .int .i64 r.s0, .int .i64 r.s1, .int .i64 r.e0, .int .i64 r.e1, .bool r.op, .slice la r.legs.length r.lc, .slice r.pa r.pauses.length r.pc, .int .i64 r.fw, .int .i64 r.fp, .int .i64 r.wh, .int .i64 r.pl] 73)), y.w.cell? ⟨x.w.heap.size, 0, none⟩ = some (.int .i64 r.id) := fun y => Since.cell (by simp [go_sem]) (by first | (simp; done) | (simp; omega)) y
    have hb0_1 : ∀ y : Since (x.w.alloc (.cells #[.int .i64 r.id, .int .i64 r.rd, .int .i64 r.s0, .int .i64 r.s1, .int .i64 r.e0, .int .i64 r.e1, .bool r.op, .slice la r.legs.length r.lc, .slice r.pa r.pauses.length r.pc, .int .i64 r.fw, .int .i64 r.fp, .int .i64 r.wh, .int .i64 r.pl] 73)), y.w.cell? ⟨x.w.heap.size, 1, none⟩ = some (.int .i64 r.rd) := fun y => Since.cell (by simp [go_sem]) (by first | (simp; done) | (simp; omega)) y
    have hb0_2 : ∀ y : Since (x.w.alloc (.cells #[.int .i64 r.id, .int .i64 r.rd, .int .i64 r.s0, .int .i64 r.s1, .int .i64 r.e0, .int .i64 r.e1, .bool r.op, .slice la r.legs.length r.lc, .slice r.pa r.pauses.length r.pc, .int .i64 r.fw, .int .i64 r.fp, .int .i64 r.wh, .int .i64 r.pl] 73)), y.w.cell? ⟨x.w.heap.size, 2, none⟩ = some (.int .i64 r.s0) := fun y => Since.cell (by simp [go_sem]) (by first | (simp; done) | (simp; omega)) y
    have hb0_3 : ∀ y : Since (x.w.alloc (.cells #[.int .i64 r.id, .int .i64 r.rd, .int .i64 r.s0, .int .i64 r.s1, .int .i64 r.e0, .int .i64 r.e1, .bool r.op, .slice la r.legs.length r.lc, .slice r.pa r.pauses.length r.pc, .int .i64 r.fw, .int .i64 r.fp, .int .i64 r.wh, .int .i64 r.pl] 73)), y.w.cell? ⟨x.w.heap.size, 3, none⟩ = some (.int .i64 r.s1) := fun y => Since.cell (by simp [go_sem]) (by first | (simp; done) | (simp; omega)) y
    have hb0_4 : ∀ y : Since (x.w.alloc (.cells #[.int .i64 r.id, .int .i64 r.rd, .int .i64 r.s0, .int .i64 r.s1, .int .i64 r.e0, .int .i64 r.e1, .bool r.op, .slice la r.legs.length r.lc, .slice r.pa r.pauses.length r.pc, .int .i64 r.fw, .int .i64 r.fp, .int .i64 r.wh, .int .i64 r.pl] 73)), y.w.cell? ⟨x.w.heap.size, 4, none⟩ = some (.int .i64 r.e0) := fun y => Since.cell (by simp [go_sem]) (by first | (simp; done) | (simp; omega)) y
    have hb0_5 : ∀ y : Since (x.w.alloc (.cells #[.int .i64 r.id, .int .i64 r.rd, .int .i64 r.s0, .int .i64 r.s1, .int .i64 r.e0, .int .i64 r.e1, .bool r.op, .slice la r.legs.length r.lc, .slice r.pa r.pauses.length r.pc, .int .i64 r.fw, .int .i64 r.fp, .int .i64 r.wh, .int .i64 r.pl] 73)), y.w.cell? ⟨x.w.heap.size, 5, none⟩ = some (.int .i64 r.e1) := fun y => Since.cell (by simp [go_sem]) (by first | (simp; done) | (simp; omega)) y
    have hb0_6 : ∀ y : Since (x.w.alloc (.cells #[.int .i64 r.id, .int .i64 r.rd, .int .i64 r.s0, .int .i64 r.s1, .int .i64 r.e0, .int .i64 r.e1, .bool r.op, .slice la r.legs.length r.lc, .slice r.pa r.pauses.length r.pc, .int .i64 r.fw, .int .i64 r.fp, .int .i64 r.wh, .int .i64 r.pl] 73)), y.w.cell? ⟨x.w.heap.size, 6, none⟩ = some (.bool r.op) := fun y => Since.cell (by simp [go_sem]) (by first | (simp; done) | (simp; omega)) y
    have hb0_7 : ∀ y : Since (x.w.alloc (.cells #[.int .i64 r.id, .int .i64 r.rd, .int .i64 r.s0, .int .i64 r.s1, .int .i64 r.e0, .int .i64 r.e1, .bool r.op, .slice la r.legs.length r.lc, .slice r.pa r.pauses.length r.pc, .int .i64 r.fw, .int .i64 r.fp, .int .i64 r.wh, .int .i64 r.pl] 73)), y.w.cell? ⟨x.w.heap.size, 7, none⟩ = some (.slice la r.legs.length r.lc) := fun y => Since.cell (by simp [go_sem]) (by first | (simp; done) | (simp; omega)) y
    have hb0_8 : ∀ y : Since (x.w.alloc (.cells #[.int .i64 r.id, .int .i64 r.rd, .int .i64 r.s0, .int .i64 r.s1, .int .i64 r.e0, .int .i64 r.e1, .bool r.op, .slice la r.legs.length r.lc, .slice r.pa r.pauses.length r.pc, .int .i64 r.fw, .int .i64 r.fp, .int .i64 r.wh, .int .i64 r.pl] 73)), y.w.cell? ⟨x.w.heap.size, 8, none⟩ = some (.slice r.pa r.pauses.length r.pc) := fun y => Since.cell (by simp [go_sem]) (by first | (simp; done) | (simp; omega)) y
    have hb0_9 : ∀ y : Since (x.w.alloc (.cells #[.int .i64 r.id, .int .i64 r.rd, .int .i64 r.s0, .int .i64 r.s1, .int .i64 r.e0, .int .i64 r.e1, .bool r.op, .slice la r.legs.length r.lc, .slice r.pa r.pauses.length r.pc, .int .i64 r.fw, .int .i64 r.fp, .int .i64 r.wh, .int .i64 r.pl] 73)), y.w.cell? ⟨x.w.heap.size, 9, none⟩ = some (.int .i64 r.fw) := fun y => Since.cell (by simp [go_sem]) (by first | (simp; done) | (simp; omega)) y
    have hb0_10 : ∀ y : Since (x.w.alloc (.cells #[.int .i64 r.id, .int .i64 r.rd, .int .i64 r.s0, .int .i64 r.s1, .int .i64 r.e0, .int .i64 r.e1, .bool r.op, .slice la r.legs.length r.lc, .slice r.pa r.pauses.length r.pc, .int .i64 r.fw, .int .i64 r.fp, .int .i64 r.wh, .int .i64 r.pl] 73)), y.w.cell? ⟨x.w.heap.size, 10, none⟩ = some (.int .i64 r.fp) := fun y => Since.cell (by simp [go_sem]) (by first | (simp; done) | (simp; omega)) y
    have hb0_11 : ∀ y : Since (x.w.alloc (.cells #[.int .i64 r.id, .int .i64 r.rd, .int .i64 r.s0, .int .i64 r.s1, .int .i64 r.e0, .int .i64 r.e1, .bool r.op, .slice la r.legs.length r.lc, .slice r.pa r.pauses.length r.pc, .int .i64 r.fw, .int .i64 r.fp, .int .i64 r.wh, .int .i64 r.pl] 73)), y.w.cell? ⟨x.w.heap.size, 11, none⟩ = some (.int .i64 r.wh) := fun y => Since.cell (by simp [go_sem]) (by first | (simp; done) | (simp; omega)) y
    have hb0_12 : ∀ y : Since (x.w.alloc (.cells #[.int .i64 r.id, .int .i64 r.rd, .int .i64 r.s0, .int .i64 r.s1, .int .i64 r.e0, .int .i64 r.e1, .bool r.op, .slice la r.legs.length r.lc, .slice r.pa r.pauses.length r.pc, .int .i64 r.fw, .int .i64 r.fp, .int .i64 r.wh, .int .i64 r.pl] 73)), y.w.cell? ⟨x.w.heap.size, 12, none⟩ = some (.int .i64 r.pl) := fun y => Since.cell (by simp [go_sem]) (by first | (simp; done) | (simp; omega)) y
    have hf0 : ∀ (y : Since (x.w.alloc (.cells #[.int .i64 r.id, .int .i64 r.rd, .int .i64 r.s0, .int .i64 r.s1, .int .i64 r.e0, .int .i64 r.e1, .bool r.op, .slice la r.legs.length r.lc, .slice r.pa r.pauses.length r.pc, .int .i64 r.fw, .int .i64 r.fp, .int .i64 r.wh, .int .i64 r.pl] 73))) (o : Nat), y.w.frozen? ⟨x.w.heap.size, o, none⟩ = false := fun y o => Since.free (by simp [go_sem]) (by first | (simp; done) | (simp; omega)) y
    have hWup : ∃ z : Since w, (x.w.alloc (.cells #[.int .i64 r.id, .int .i64 r.rd, .int .i64 r.s0, .int .i64 r.s1, .int .i64 r.e0, .int .i64 r.e1, .bool r.op, .slice la r.legs.length r.lc, .slice r.pa r.pauses.length r.pc, .int .i64 r.fw, .int .i64 r.fp, .int .i64 r.wh, .int .i64 r.pl] 73)) = z.w := x.alloc _
    obtain ⟨y0, hy0⟩ := Since.refl (x.w.alloc (.cells #[.int .i64 r.id, .int .i64 r.rd, .int .i64 r.s0, .int .i64 r.s1, .int .i64 r.e0, .int .i64 r.e1, .bool r.op, .slice la r.legs.length r.lc, .slice r.pa r.pauses.length r.pc, .int .i64 r.fw, .int .i64 r.fp, .int .i64 r.wh, .int .i64 r.pl] 73))
    have Hbx := Lib.hid (And.intro x.b.size (show x.w.heap.size + 1 = (x.w.alloc (.cells #[.int .i64 r.id, .int .i64 r.rd, .int .i64 r.s0, .int .i64 r.s1, .int .i64 r.e0, .int .i64 r.e1, .bool r.op, .slice la r.legs.length r.lc, .slice r.pa r.pauses.length r.pc, .int .i64 r.fw, .int .i64 r.fp, .int .i64 r.wh, .int .i64 r.pl] 73)).heap.size from by simp))
    generalize hW : (x.w.alloc (.cells #[.int .i64 r.id, .int .i64 r.rd, .int .i64 r.s0, .int .i64 r.s1, .int .i64 r.e0, .int .i64 r.e1, .bool r.op, .slice la r.legs.length r.lc, .slice r.pa r.pauses.length r.pc, .int .i64 r.fw, .int .i64 r.fp, .int .i64 r.wh, .int .i64 r.pl] 73)) = W at *
    clear hW
    generalize x.w.heap.size = bx at *
    have Hup := Lib.hid (Since.up hWup)
    rw [hy0]
    clear hy0
    replace HL := Lib.hid (HL.out.to hWup)
    clear hWup hj hci
    obtain ⟨b1, off1, rfl, h1'⟩ := Els.leg HL.out hu
    obtain ⟨b2, off2, hbo, h2'⟩ := Els.leg HL.out hv
    obtain ⟨rfl, rfl⟩ : b1 = b2 ∧ off1 = off2 := by simpa using hbo
    have pa0 := h1'.c0
    have pa1 := h1'.c1
    have pa2 := h1'.c2
    have pa3 := h1'.c3
    have pa4 := h1'.c4
    have qa0 := h2'.c0
    have qa1 := h2'.c1
    have qa2 := h2'.c2
    have qa3 := h2'.c3
    have qa4 := h2'.c4
    simp only [Nat.zero_mul, Nat.add_zero] at pa0 pa1 pa2 pa3 pa4
    first | have hd1 : decide ((r.legs.length : Int) < 1) = true := decide_eq_true (by omega) | have hd1 : decide ((r.legs.length : Int) < 1) = false := decide_eq_false (by omega)
    try first | have hd2 : decide ((512 : Int) < (r.legs.length : Int)) = true := decide_eq_true (by omega) | have hd2 : decide ((512 : Int) < (r.legs.length : Int)) = false := decide_eq_false (by omega)
    try first | have hd3 : decide ((512 : Int) < (r.pauses.length : Int)) = true := decide_eq_true (by omega) | have hd3 : decide ((512 : Int) < (r.pauses.length : Int)) = false := decide_eq_false (by omega)
    have heq0 := span_equal
    have hgd := span_guard
    have Heq := Lib.hid heq0; clear heq0
    have heq := Heq.out u.f0 u.f1 r.s0 r.s1
    have heq2 := Heq.out v.t0 v.t1 r.e0 r.e1
    have hm1 : (0 : Int) < (r.legs.length : Int) := by omega
    have hmw : IntKind.i64.wrap ((r.legs.length : Int) - 1) = ((r.legs.length - 1 : Nat) : Int) := by rw [show (r.legs.length : Int) - 1 = ((r.legs.length - 1 : Nat) : Int) by omega]; exact IntWalk.i64_in _ (by omega)
    have hmr : (0 : Int) ≤ ((r.legs.length - 1 : Nat) : Int) := by omega
    have hml : ((r.legs.length - 1 : Nat) : Int) < (r.legs.length : Int) := by omega
    clear hbo h1' h2' hu hv
    cases hb : (decide (u.f0 = r.s0) && decide (u.f1 = r.s1)) with
    | false =>
      rw [hb] at heq
      have Hr := Lib.hid (show joinedB r = false by
        cases hh : joinedB r
        · rfl
        · have := (Hci.out.1 hh).1; simp [this] at hb)
      clear hb
      go_wp2_with fail
      refine wp_region_since (by kernel_rfl) (by kernel_rfl) ?_
      repeat (go_big_quiet_step (fail))
      refine wpQuiet_nil ?_
      rintro _ ⟨y1, rfl⟩
      go_wp2_with fail
      go_ret
      exact ⟨ret_bool Hr.out.symm, Hup.out _⟩
    | true =>
      rw [hb] at heq
      have Hb := Lib.hid hb; clear hb
      cases hb2 : (decide (v.t0 = r.e0) && decide (v.t1 = r.e1)) with
      | false =>
        rw [hb2] at heq2
        have Hr := Lib.hid (show joinedB r = false by
          cases hh : joinedB r
          · rfl
          · have := (Hci.out.1 hh).2.1; simp [this] at hb2)
        clear hb2
        go_wp2_with fail
        refine wp_region_since (by kernel_rfl) (by kernel_rfl) ?_
        repeat (go_big_quiet_step (fail))
        refine wpQuiet_nil ?_
        rintro _ ⟨y1, rfl⟩
        go_wp2_with fail
        go_ret
        exact ⟨ret_bool Hr.out.symm, Hup.out _⟩
      | true =>
        rw [hb2] at heq2
        have Hb2 := Lib.hid hb2; clear hb2
        go_wp2_with fail
        refine wp_region_since (by kernel_rfl) (by kernel_rfl) ?_
        repeat (go_big_quiet_step (fail))
        refine wpQuiet_nil ?_
        rintro _ ⟨y1, rfl⟩
        clear pa0 pa1 pa2 pa3 pa4 qa0 qa1 qa2 qa3 qa4 heq heq2 hmw hmr hml
        go_wp2_with fail
        go_loopw [4] (fun i wr => ∃ (m : Nat) (y : Since W), 1 ≤ m ∧ m ≤ r.legs.length ∧ i = .int .i64 m ∧ wr = y.w ∧ ∀ i, 1 ≤ i → i < m → linkB r.legs i = true) (fun i _ => r.legs.length - (intOf i).toNat)
        case atStart => exact ⟨1, _, by omega, by omega, rfl, rfl, fun i hi hil => by omega⟩
        case round =>
          obtain ⟨m, y, hm1', hm2, rfl, rfl, hok⟩ := hrel
          have Hok := Lib.hid hok; clear hok
          by_cases hlt : m < r.legs.length
          · obtain ⟨u2, hu⟩ : ∃ e, r.legs[m]? = some e := ⟨_, List.getElem?_eq_getElem hlt⟩
            obtain ⟨v2, hv⟩ : ∃ e, r.legs[m - 1]? = some e := ⟨_, List.getElem?_eq_getElem (by omega)⟩
            obtain ⟨c1, of1, hbo1, h1'⟩ := Els.leg HL.out hu
            obtain ⟨rfl, rfl⟩ : b1 = c1 ∧ off1 = of1 := by simpa using hbo1
            obtain ⟨c2, of2, hbo2, h2'⟩ := Els.leg HL.out hv
            obtain ⟨rfl, rfl⟩ : b1 = c2 ∧ off1 = of2 := by simpa using hbo2
            have pa0 := h1'.c0
            have pa1 := h1'.c1
            have pa2 := h1'.c2
            have pa3 := h1'.c3
            have pa4 := h1'.c4
            have qa0 := h2'.c0
            have qa1 := h2'.c1
            have qa2 := h2'.c2
            have qa3 := h2'.c3
            have qa4 := h2'.c4
            have hm3 : (0 : Int) < (m : Int) := by omega
            have hmw : IntKind.i64.wrap ((m : Int) - 1) = ((m - 1 : Nat) : Int) := by rw [show (m : Int) - 1 = ((m - 1 : Nat) : Int) by omega]; exact IntWalk.i64_in _ (by omega)
            have hmr : (0 : Int) ≤ ((m - 1 : Nat) : Int) := by omega
            have hml : ((m - 1 : Nat) : Int) < (r.legs.length : Int) := by omega
            have hmk : (0 : Int) ≤ (m : Int) := by omega
            have hmj : (m : Int) < (r.legs.length : Int) := by omega
            have Hlk := Lib.hid (linkB_at hu hv)
            have heq := Heq.out u2.f0 u2.f1 v2.t0 v2.t1
            clear hbo1 hbo2 h1' h2' hu hv
            cases hb : (decide (u2.f0 = v2.t0) && decide (u2.f1 = v2.t1)) with
            | false =>
              rw [hb] at heq Hlk
              have Hr := Lib.hid (show joinedB r = false by
                cases hh : joinedB r
                · rfl
                · have := (Hci.out.1 hh).2.2 m hm1' hlt; rw [Hlk.out] at this; cases this)
              clear hb
              go_wp2_with fail
              refine wp_region_since (by kernel_rfl) (by kernel_rfl) ?_
              repeat (go_big_quiet_step (fail))
              refine wpQuiet_nil ?_
              rintro _ ⟨y2, rfl⟩
              clear pa0 pa1 pa2 pa3 pa4 qa0 qa1 qa2 qa3 qa4 heq hmw hmr hml
              go_wp2_with fail
              go_ret
              exact ⟨ret_bool Hr.out.symm, Hup.out _⟩
            | true =>
              rw [hb] at heq Hlk
              clear hb
              go_wp2_with fail
              refine wp_region_since (by kernel_rfl) (by kernel_rfl) ?_
              repeat (go_big_quiet_step (fail))
              refine wpQuiet_nil ?_
              rintro _ ⟨y2, rfl⟩
              clear pa0 pa1 pa2 pa3 pa4 qa0 qa1 qa2 qa3 qa4 heq hmw hmr hml
              go_wp2_with fail
              go_roundw
              case rel => exact ⟨m + 1, y2, by omega, by omega, by go_num, rfl, fun i hi hil => by
                by_cases him : i < m
                · exact Hok.out i hi him
                · obtain rfl : i = m := by omega
                  exact Hlk.out⟩
              case measure => simp [intOf] <;> omega
          · obtain rfl : m = r.legs.length := by omega
            have Hr := Lib.hid (show joinedB r = true from Hci.out.2 ⟨by simpa using Hb.out, by simpa using Hb2.out, Hok.out⟩)
            go_wp2_with fail
            go_ret
            exact ⟨ret_bool Hr.out.symm, Hup.out _⟩
  all_goals
    have Hr := Lib.hid (show joinedB r = false by
      cases hh : joinedB r
      · rfl
      · unfold joinedB at hh
        simp only [Bool.and_eq_true, decide_eq_true_eq] at hh
        omega)
    go_enter Tryd.func123, Tryd.ntmps123
    go_upto_region 1 with fail
    have hb0_0 : ∀ y : Since (x.w.alloc (.cells #[.int .i64 r.id, .int .i64 r.rd, .int .i64 r.s0, .int .i64 r.s1, .int .i64 r.e0, .int .i64 r.e1, .bool r.op, .slice la r.legs.length r.lc, .slice r.pa r.pauses.length r.pc, .int .i64 r.fw, .int .i64 r.fp, .int .i64 r.wh, .int .i64 r.pl] 73)), y.w.cell? ⟨x.w.heap.size, 0, none⟩ = some (.int .i64 r.id) := fun y => Since.cell (by simp [go_sem]) (by first | (simp; done) | (simp; omega)) y
    have hb0_1 : ∀ y : Since (x.w.alloc (.cells #[.int .i64 r.id, .int .i64 r.rd, .int .i64 r.s0, .int .i64 r.s1, .int .i64 r.e0, .int .i64 r.e1, .bool r.op, .slice la r.legs.length r.lc, .slice r.pa r.pauses.length r.pc, .int .i64 r.fw, .int .i64 r.fp, .int .i64 r.wh, .int .i64 r.pl] 73)), y.w.cell? ⟨x.w.heap.size, 1, none⟩ = some (.int .i64 r.rd) := fun y => Since.cell (by simp [go_sem]) (by first | (simp; done) | (simp; omega)) y
    have hb0_2 : ∀ y : Since (x.w.alloc (.cells #[.int .i64 r.id, .int .i64 r.rd, .int .i64 r.s0, .int .i64 r.s1, .int .i64 r.e0, .int .i64 r.e1, .bool r.op, .slice la r.legs.length r.lc, .slice r.pa r.pauses.length r.pc, .int .i64 r.fw, .int .i64 r.fp, .int .i64 r.wh, .int .i64 r.pl] 73)), y.w.cell? ⟨x.w.heap.size, 2, none⟩ = some (.int .i64 r.s0) := fun y => Since.cell (by simp [go_sem]) (by first | (simp; done) | (simp; omega)) y
    have hb0_3 : ∀ y : Since (x.w.alloc (.cells #[.int .i64 r.id, .int .i64 r.rd, .int .i64 r.s0, .int .i64 r.s1, .int .i64 r.e0, .int .i64 r.e1, .bool r.op, .slice la r.legs.length r.lc, .slice r.pa r.pauses.length r.pc, .int .i64 r.fw, .int .i64 r.fp, .int .i64 r.wh, .int .i64 r.pl] 73)), y.w.cell? ⟨x.w.heap.size, 3, none⟩ = some (.int .i64 r.s1) := fun y => Since.cell (by simp [go_sem]) (by first | (simp; done) | (simp; omega)) y
    have hb0_4 : ∀ y : Since (x.w.alloc (.cells #[.int .i64 r.id, .int .i64 r.rd, .int .i64 r.s0, .int .i64 r.s1, .int .i64 r.e0, .int .i64 r.e1, .bool r.op, .slice la r.legs.length r.lc, .slice r.pa r.pauses.length r.pc, .int .i64 r.fw, .int .i64 r.fp, .int .i64 r.wh, .int .i64 r.pl] 73)), y.w.cell? ⟨x.w.heap.size, 4, none⟩ = some (.int .i64 r.e0) := fun y => Since.cell (by simp [go_sem]) (by first | (simp; done) | (simp; omega)) y
    have hb0_5 : ∀ y : Since (x.w.alloc (.cells #[.int .i64 r.id, .int .i64 r.rd, .int .i64 r.s0, .int .i64 r.s1, .int .i64 r.e0, .int .i64 r.e1, .bool r.op, .slice la r.legs.length r.lc, .slice r.pa r.pauses.length r.pc, .int .i64 r.fw, .int .i64 r.fp, .int .i64 r.wh, .int .i64 r.pl] 73)), y.w.cell? ⟨x.w.heap.size, 5, none⟩ = some (.int .i64 r.e1) := fun y => Since.cell (by simp [go_sem]) (by first | (simp; done) | (simp; omega)) y
    have hb0_6 : ∀ y : Since (x.w.alloc (.cells #[.int .i64 r.id, .int .i64 r.rd, .int .i64 r.s0, .int .i64 r.s1, .int .i64 r.e0, .int .i64 r.e1, .bool r.op, .slice la r.legs.length r.lc, .slice r.pa r.pauses.length r.pc, .int .i64 r.fw, .int .i64 r.fp, .int .i64 r.wh, .int .i64 r.pl] 73)), y.w.cell? ⟨x.w.heap.size, 6, none⟩ = some (.bool r.op) := fun y => Since.cell (by simp [go_sem]) (by first | (simp; done) | (simp; omega)) y
    have hb0_7 : ∀ y : Since (x.w.alloc (.cells #[.int .i64 r.id, .int .i64 r.rd, .int .i64 r.s0, .int .i64 r.s1, .int .i64 r.e0, .int .i64 r.e1, .bool r.op, .slice la r.legs.length r.lc, .slice r.pa r.pauses.length r.pc, .int .i64 r.fw, .int .i64 r.fp, .int .i64 r.wh, .int .i64 r.pl] 73)), y.w.cell? ⟨x.w.heap.size, 7, none⟩ = some (.slice la r.legs.length r.lc) := fun y => Since.cell (by simp [go_sem]) (by first | (simp; done) | (simp; omega)) y
    have hb0_8 : ∀ y : Since (x.w.alloc (.cells #[.int .i64 r.id, .int .i64 r.rd, .int .i64 r.s0, .int .i64 r.s1, .int .i64 r.e0, .int .i64 r.e1, .bool r.op, .slice la r.legs.length r.lc, .slice r.pa r.pauses.length r.pc, .int .i64 r.fw, .int .i64 r.fp, .int .i64 r.wh, .int .i64 r.pl] 73)), y.w.cell? ⟨x.w.heap.size, 8, none⟩ = some (.slice r.pa r.pauses.length r.pc) := fun y => Since.cell (by simp [go_sem]) (by first | (simp; done) | (simp; omega)) y
    have hb0_9 : ∀ y : Since (x.w.alloc (.cells #[.int .i64 r.id, .int .i64 r.rd, .int .i64 r.s0, .int .i64 r.s1, .int .i64 r.e0, .int .i64 r.e1, .bool r.op, .slice la r.legs.length r.lc, .slice r.pa r.pauses.length r.pc, .int .i64 r.fw, .int .i64 r.fp, .int .i64 r.wh, .int .i64 r.pl] 73)), y.w.cell? ⟨x.w.heap.size, 9, none⟩ = some (.int .i64 r.fw) := fun y => Since.cell (by simp [go_sem]) (by first | (simp; done) | (simp; omega)) y
    have hb0_10 : ∀ y : Since (x.w.alloc (.cells #[.int .i64 r.id, .int .i64 r.rd, .int .i64 r.s0, .int .i64 r.s1, .int .i64 r.e0, .int .i64 r.e1, .bool r.op, .slice la r.legs.length r.lc, .slice r.pa r.pauses.length r.pc, .int .i64 r.fw, .int .i64 r.fp, .int .i64 r.wh, .int .i64 r.pl] 73)), y.w.cell? ⟨x.w.heap.size, 10, none⟩ = some (.int .i64 r.fp) := fun y => Since.cell (by simp [go_sem]) (by first | (simp; done) | (simp; omega)) y
    have hb0_11 : ∀ y : Since (x.w.alloc (.cells #[.int .i64 r.id, .int .i64 r.rd, .int .i64 r.s0, .int .i64 r.s1, .int .i64 r.e0, .int .i64 r.e1, .bool r.op, .slice la r.legs.length r.lc, .slice r.pa r.pauses.length r.pc, .int .i64 r.fw, .int .i64 r.fp, .int .i64 r.wh, .int .i64 r.pl] 73)), y.w.cell? ⟨x.w.heap.size, 11, none⟩ = some (.int .i64 r.wh) := fun y => Since.cell (by simp [go_sem]) (by first | (simp; done) | (simp; omega)) y
    have hb0_12 : ∀ y : Since (x.w.alloc (.cells #[.int .i64 r.id, .int .i64 r.rd, .int .i64 r.s0, .int .i64 r.s1, .int .i64 r.e0, .int .i64 r.e1, .bool r.op, .slice la r.legs.length r.lc, .slice r.pa r.pauses.length r.pc, .int .i64 r.fw, .int .i64 r.fp, .int .i64 r.wh, .int .i64 r.pl] 73)), y.w.cell? ⟨x.w.heap.size, 12, none⟩ = some (.int .i64 r.pl) := fun y => Since.cell (by simp [go_sem]) (by first | (simp; done) | (simp; omega)) y
    have hf0 : ∀ (y : Since (x.w.alloc (.cells #[.int .i64 r.id, .int .i64 r.rd, .int .i64 r.s0, .int .i64 r.s1, .int .i64 r.e0, .int .i64 r.e1, .bool r.op, .slice la r.legs.length r.lc, .slice r.pa r.pauses.length r.pc, .int .i64 r.fw, .int .i64 r.fp, .int .i64 r.wh, .int .i64 r.pl] 73))) (o : Nat), y.w.frozen? ⟨x.w.heap.size, o, none⟩ = false := fun y o => Since.free (by simp [go_sem]) (by first | (simp; done) | (simp; omega)) y
    have hWup : ∃ z : Since w, (x.w.alloc (.cells #[.int .i64 r.id, .int .i64 r.rd, .int .i64 r.s0, .int .i64 r.s1, .int .i64 r.e0, .int .i64 r.e1, .bool r.op, .slice la r.legs.length r.lc, .slice r.pa r.pauses.length r.pc, .int .i64 r.fw, .int .i64 r.fp, .int .i64 r.wh, .int .i64 r.pl] 73)) = z.w := x.alloc _
    obtain ⟨y0, hy0⟩ := Since.refl (x.w.alloc (.cells #[.int .i64 r.id, .int .i64 r.rd, .int .i64 r.s0, .int .i64 r.s1, .int .i64 r.e0, .int .i64 r.e1, .bool r.op, .slice la r.legs.length r.lc, .slice r.pa r.pauses.length r.pc, .int .i64 r.fw, .int .i64 r.fp, .int .i64 r.wh, .int .i64 r.pl] 73))
    have Hbx := Lib.hid (And.intro x.b.size (show x.w.heap.size + 1 = (x.w.alloc (.cells #[.int .i64 r.id, .int .i64 r.rd, .int .i64 r.s0, .int .i64 r.s1, .int .i64 r.e0, .int .i64 r.e1, .bool r.op, .slice la r.legs.length r.lc, .slice r.pa r.pauses.length r.pc, .int .i64 r.fw, .int .i64 r.fp, .int .i64 r.wh, .int .i64 r.pl] 73)).heap.size from by simp))
    generalize hW : (x.w.alloc (.cells #[.int .i64 r.id, .int .i64 r.rd, .int .i64 r.s0, .int .i64 r.s1, .int .i64 r.e0, .int .i64 r.e1, .bool r.op, .slice la r.legs.length r.lc, .slice r.pa r.pauses.length r.pc, .int .i64 r.fw, .int .i64 r.fp, .int .i64 r.wh, .int .i64 r.pl] 73)) = W at *
    clear hW
    generalize x.w.heap.size = bx at *
    have Hup := Lib.hid (Since.up hWup)
    rw [hy0]
    clear hy0
    clear hWup
    first | have hd1 : decide ((r.legs.length : Int) < 1) = true := decide_eq_true (by omega) | have hd1 : decide ((r.legs.length : Int) < 1) = false := decide_eq_false (by omega)
    try first | have hd2 : decide ((512 : Int) < (r.legs.length : Int)) = true := decide_eq_true (by omega) | have hd2 : decide ((512 : Int) < (r.legs.length : Int)) = false := decide_eq_false (by omega)
    try first | have hd3 : decide ((512 : Int) < (r.pauses.length : Int)) = true := decide_eq_true (by omega) | have hd3 : decide ((512 : Int) < (r.pauses.length : Int)) = false := decide_eq_false (by omega)
    go_wp2_with fail
    refine wp_region_since (by kernel_rfl) (by kernel_rfl) ?_
    repeat (go_big_quiet_step (fail))
    refine wpQuiet_nil ?_
    rintro _ ⟨y1, rfl⟩
    go_wp2_with fail
    go_ret
    exact ⟨ret_bool Hr.out.symm, Hup.out _⟩
end Go.Proofs.YtdkcclngionihaaDoor
/- The walks of the reference's check of a ride, third part: the marks of the pauses. -/
namespace Go.Proofs.YtdkcclngionihaaDoor
open Go.RowKit

theorem sInts : SliceOf Tryd.prog 22 3 (.int .i64 0) 1 8 := SliceOf.mk' Tryd.underlying22 (by kernel_rfl) rfl (by decide)
/-- the beginnings and ends of pauses -/
def flatM (l : List Pse) : List Int := l.flatMap fun p => [p.f0, p.t0]
theorem flatM_len : ∀ l : List Pse, (flatM l).length = 2 * l.length
  | [] => rfl
  | p :: l => by
    have := flatM_len l
    simp only [flatM, List.flatMap_cons, List.length_append, List.length_cons, List.length_nil] at this ⊢
    omega
theorem flatM_next {l : List Pse} {k : Nat} {e : Pse} (h : l[k]? = some e) : flatM (l.take (k + 1)) = flatM (l.take k) ++ [e.f0, e.t0] := by
  rw [List.take_succ_eq_append_getElem (List.getElem?_eq_some_iff.1 h).1, (List.getElem?_eq_some_iff.1 h).2]
  simp [flatM]
/-- the last end is 0 -/
def lastZ (l : List Pse) : Bool := match l.getLast? with | some p => decide (p.t0 = 0) | none => false
def marksL (op : Bool) (l : List Pse) : List Int := if op && lastZ l then (flatM l).dropLast else flatM l
theorem marks_len (op : Bool) (l : List Pse) : (marksL op l).length ≤ 2 * l.length := by
  unfold marksL; split
  · rw [List.length_dropLast, flatM_len]; omega
  · rw [flatM_len]; omega
theorem flat_last {l : List Pse} {e : Pse} (h : l[l.length - 1]? = some e) (h0 : 0 < l.length) : at0 (flatM l) (2 * l.length - 1) = e.t0 := by
  have h1 := flatM_next h
  rw [show l.length - 1 + 1 = l.length by omega, List.take_length] at h1
  have h2 : (flatM (l.take (l.length - 1))).length = 2 * (l.length - 1) := by rw [flatM_len, List.length_take]; omega
  rw [h1]
  unfold at0
  rw [List.getD_eq_getElem?_getD, List.getElem?_append_right (by omega), h2, show 2 * l.length - 1 - 2 * (l.length - 1) = 1 by omega]
  rfl
theorem lastZ_at {l : List Pse} {e : Pse} (h : l[l.length - 1]? = some e) : lastZ l = decide (e.t0 = 0) := by
  unfold lastZ; rw [List.getLast?_eq_getElem?, h]
theorem ints_row {w : World} {a : Option Addr} {n : Nat} {l : List Int} (hn : l.length = n) (h : Row w a n fun i => (l.map (Value.int .i64)).getD i undef) : IntRow w a l := by
  subst hn
  intro i hi
  obtain ⟨b, off, ha, hlt, hc⟩ := h i hi
  exact ⟨b, off, ha, hlt, by rw [hc]; simp [at0, List.getD_eq_getElem?_getD, hi]⟩
def MarksPost (w : World) (l : List Int) (o : Ending) (w' : World) : Prop :=
  ∃ (a : Option Addr) (cap : Nat) (y : Since w), o = .returned (.slice a l.length cap) ∧ w' = y.w ∧ IntRow y.w a l
set_option maxRecDepth 100000 in
set_option maxHeartbeats 8000000 in
theorem marks_calls (w : World) (x : Since w) (r : Ride) (h : r.At w) (hp : r.pauses.length ≤ 100000) :
    Calls Tryd.prog 127 #[.agg #[.int .i64 r.id, .int .i64 r.rd, .int .i64 r.s0, .int .i64 r.s1, .int .i64 r.e0, .int .i64 r.e1, .bool r.op, .slice r.la r.legs.length r.lc, .slice r.pa r.pauses.length r.pc, .int .i64 r.fw, .int .i64 r.fp, .int .i64 r.wh, .int .i64 r.pl]] x.w (MarksPost w (marksL r.op r.pauses)) := by
  have HP := Lib.hid h.p
  clear h
  generalize r.pa = pa at HP ⊢
  generalize r.op = op at ⊢
  go_enter Tryd.func127, Tryd.ntmps127
  go_upto_region 1 with fail
  have hb0_0 : ∀ y : Since (x.w.alloc (.cells #[.int .i64 r.id, .int .i64 r.rd, .int .i64 r.s0, .int .i64 r.s1, .int .i64 r.e0, .int .i64 r.e1, .bool op, .slice r.la r.legs.length r.lc, .slice pa r.pauses.length r.pc, .int .i64 r.fw, .int .i64 r.fp, .int .i64 r.wh, .int .i64 r.pl] 73)), y.w.cell? ⟨x.w.heap.size, 0, none⟩ = some (.int .i64 r.id) := fun y => Since.cell (by simp [go_sem]) (by first | (simp; done) | (simp; omega)) y
  have hb0_1 : ∀ y : Since (x.w.alloc (.cells #[.int .i64 r.id, .int .i64 r.rd, .int .i64 r.s0, .int .i64 r.s1, .int .i64 r.e0, .int .i64 r.e1, .bool op, .slice r.la r.legs.length r.lc, .slice pa r.pauses.length r.pc, .int .i64 r.fw, .int .i64 r.fp, .int .i64 r.wh, .int .i64 r.pl] 73)), y.w.cell? ⟨x.w.heap.size, 1, none⟩ = some (.int .i64 r.rd) := fun y => Since.cell (by simp [go_sem]) (by first | (simp; done) | (simp; omega)) y
  have hb0_2 : ∀ y : Since (x.w.alloc (.cells #[.int .i64 r.id, .int .i64 r.rd, .int .i64 r.s0, .int .i64 r.s1, .int .i64 r.e0, .int .i64 r.e1, .bool op, .slice r.la r.legs.length r.lc, .slice pa r.pauses.length r.pc, .int .i64 r.fw, .int .i64 r.fp, .int .i64 r.wh, .int .i64 r.pl] 73)), y.w.cell? ⟨x.w.heap.size, 2, none⟩ = some (.int .i64 r.s0) := fun y => Since.cell (by simp [go_sem]) (by first | (simp; done) | (simp; omega)) y
  have hb0_3 : ∀ y : Since (x.w.alloc (.cells #[.int .i64 r.id, .int .i64 r.rd, .int .i64 r.s0, .int .i64 r.s1, .int .i64 r.e0, .int .i64 r.e1, .bool op, .slice r.la r.legs.length r.lc, .slice pa r.pauses.length r.pc, .int .i64 r.fw, .int .i64 r.fp, .int .i64 r.wh, .int .i64 r.pl] 73)), y.w.cell? ⟨x.w.heap.size, 3, none⟩ = some (.int .i64 r.s1) := fun y => Since.cell (by simp [go_sem]) (by first | (simp; done) | (simp; omega)) y
  have hb0_4 : ∀ y : Since (x.w.alloc (.cells #[.int .i64 r.id, .int .i64 r.rd, .int .i64 r.s0, .int .i64 r.s1, .int .i64 r.e0, .int .i64 r.e1, .bool op, .slice r.la r.legs.length r.lc, .slice pa r.pauses.length r.pc, .int .i64 r.fw, .int .i64 r.fp, .int .i64 r.wh, .int .i64 r.pl] 73)), y.w.cell? ⟨x.w.heap.size, 4, none⟩ = some (.int .i64 r.e0) := fun y => Since.cell (by simp [go_sem]) (by first | (simp; done) | (simp; omega)) y
  have hb0_5 : ∀ y : Since (x.w.alloc (.cells #[.int .i64 r.id, .int .i64 r.rd, .int .i64 r.s0, .int .i64 r.s1, .int .i64 r.e0, .int .i64 r.e1, .bool op, .slice r.la r.legs.length r.lc, .slice pa r.pauses.length r.pc, .int .i64 r.fw, .int .i64 r.fp, .int .i64 r.wh, .int .i64 r.pl] 73)), y.w.cell? ⟨x.w.heap.size, 5, none⟩ = some (.int .i64 r.e1) := fun y => Since.cell (by simp [go_sem]) (by first | (simp; done) | (simp; omega)) y
  have hb0_6 : ∀ y : Since (x.w.alloc (.cells #[.int .i64 r.id, .int .i64 r.rd, .int .i64 r.s0, .int .i64 r.s1, .int .i64 r.e0, .int .i64 r.e1, .bool op, .slice r.la r.legs.length r.lc, .slice pa r.pauses.length r.pc, .int .i64 r.fw, .int .i64 r.fp, .int .i64 r.wh, .int .i64 r.pl] 73)), y.w.cell? ⟨x.w.heap.size, 6, none⟩ = some (.bool op) := fun y => Since.cell (by simp [go_sem]) (by first | (simp; done) | (simp; omega)) y
  have hb0_7 : ∀ y : Since (x.w.alloc (.cells #[.int .i64 r.id, .int .i64 r.rd, .int .i64 r.s0, .int .i64 r.s1, .int .i64 r.e0, .int .i64 r.e1, .bool op, .slice r.la r.legs.length r.lc, .slice pa r.pauses.length r.pc, .int .i64 r.fw, .int .i64 r.fp, .int .i64 r.wh, .int .i64 r.pl] 73)), y.w.cell? ⟨x.w.heap.size, 7, none⟩ = some (.slice r.la r.legs.length r.lc) := fun y => Since.cell (by simp [go_sem]) (by first | (simp; done) | (simp; omega)) y
  have hb0_8 : ∀ y : Since (x.w.alloc (.cells #[.int .i64 r.id, .int .i64 r.rd, .int .i64 r.s0, .int .i64 r.s1, .int .i64 r.e0, .int .i64 r.e1, .bool op, .slice r.la r.legs.length r.lc, .slice pa r.pauses.length r.pc, .int .i64 r.fw, .int .i64 r.fp, .int .i64 r.wh, .int .i64 r.pl] 73)), y.w.cell? ⟨x.w.heap.size, 8, none⟩ = some (.slice pa r.pauses.length r.pc) := fun y => Since.cell (by simp [go_sem]) (by first | (simp; done) | (simp; omega)) y
  have hb0_9 : ∀ y : Since (x.w.alloc (.cells #[.int .i64 r.id, .int .i64 r.rd, .int .i64 r.s0, .int .i64 r.s1, .int .i64 r.e0, .int .i64 r.e1, .bool op, .slice r.la r.legs.length r.lc, .slice pa r.pauses.length r.pc, .int .i64 r.fw, .int .i64 r.fp, .int .i64 r.wh, .int .i64 r.pl] 73)), y.w.cell? ⟨x.w.heap.size, 9, none⟩ = some (.int .i64 r.fw) := fun y => Since.cell (by simp [go_sem]) (by first | (simp; done) | (simp; omega)) y
  have hb0_10 : ∀ y : Since (x.w.alloc (.cells #[.int .i64 r.id, .int .i64 r.rd, .int .i64 r.s0, .int .i64 r.s1, .int .i64 r.e0, .int .i64 r.e1, .bool op, .slice r.la r.legs.length r.lc, .slice pa r.pauses.length r.pc, .int .i64 r.fw, .int .i64 r.fp, .int .i64 r.wh, .int .i64 r.pl] 73)), y.w.cell? ⟨x.w.heap.size, 10, none⟩ = some (.int .i64 r.fp) := fun y => Since.cell (by simp [go_sem]) (by first | (simp; done) | (simp; omega)) y
  have hb0_11 : ∀ y : Since (x.w.alloc (.cells #[.int .i64 r.id, .int .i64 r.rd, .int .i64 r.s0, .int .i64 r.s1, .int .i64 r.e0, .int .i64 r.e1, .bool op, .slice r.la r.legs.length r.lc, .slice pa r.pauses.length r.pc, .int .i64 r.fw, .int .i64 r.fp, .int .i64 r.wh, .int .i64 r.pl] 73)), y.w.cell? ⟨x.w.heap.size, 11, none⟩ = some (.int .i64 r.wh) := fun y => Since.cell (by simp [go_sem]) (by first | (simp; done) | (simp; omega)) y
  have hb0_12 : ∀ y : Since (x.w.alloc (.cells #[.int .i64 r.id, .int .i64 r.rd, .int .i64 r.s0, .int .i64 r.s1, .int .i64 r.e0, .int .i64 r.e1, .bool op, .slice r.la r.legs.length r.lc, .slice pa r.pauses.length r.pc, .int .i64 r.fw, .int .i64 r.fp, .int .i64 r.wh, .int .i64 r.pl] 73)), y.w.cell? ⟨x.w.heap.size, 12, none⟩ = some (.int .i64 r.pl) := fun y => Since.cell (by simp [go_sem]) (by first | (simp; done) | (simp; omega)) y
  have hf0 : ∀ (y : Since (x.w.alloc (.cells #[.int .i64 r.id, .int .i64 r.rd, .int .i64 r.s0, .int .i64 r.s1, .int .i64 r.e0, .int .i64 r.e1, .bool op, .slice r.la r.legs.length r.lc, .slice pa r.pauses.length r.pc, .int .i64 r.fw, .int .i64 r.fp, .int .i64 r.wh, .int .i64 r.pl] 73))) (o : Nat), y.w.frozen? ⟨x.w.heap.size, o, none⟩ = false := fun y o => Since.free (by simp [go_sem]) (by first | (simp; done) | (simp; omega)) y
  have hWup : ∃ z : Since w, (x.w.alloc (.cells #[.int .i64 r.id, .int .i64 r.rd, .int .i64 r.s0, .int .i64 r.s1, .int .i64 r.e0, .int .i64 r.e1, .bool op, .slice r.la r.legs.length r.lc, .slice pa r.pauses.length r.pc, .int .i64 r.fw, .int .i64 r.fp, .int .i64 r.wh, .int .i64 r.pl] 73)) = z.w := x.alloc _
  obtain ⟨y0, hy0⟩ := Since.refl (x.w.alloc (.cells #[.int .i64 r.id, .int .i64 r.rd, .int .i64 r.s0, .int .i64 r.s1, .int .i64 r.e0, .int .i64 r.e1, .bool op, .slice r.la r.legs.length r.lc, .slice pa r.pauses.length r.pc, .int .i64 r.fw, .int .i64 r.fp, .int .i64 r.wh, .int .i64 r.pl] 73))
  have Hbx := Lib.hid (And.intro x.b.size (show x.w.heap.size + 1 = (x.w.alloc (.cells #[.int .i64 r.id, .int .i64 r.rd, .int .i64 r.s0, .int .i64 r.s1, .int .i64 r.e0, .int .i64 r.e1, .bool op, .slice r.la r.legs.length r.lc, .slice pa r.pauses.length r.pc, .int .i64 r.fw, .int .i64 r.fp, .int .i64 r.wh, .int .i64 r.pl] 73)).heap.size from by simp))
  generalize hW : (x.w.alloc (.cells #[.int .i64 r.id, .int .i64 r.rd, .int .i64 r.s0, .int .i64 r.s1, .int .i64 r.e0, .int .i64 r.e1, .bool op, .slice r.la r.legs.length r.lc, .slice pa r.pauses.length r.pc, .int .i64 r.fw, .int .i64 r.fp, .int .i64 r.wh, .int .i64 r.pl] 73)) = W at *
  clear hW
  generalize x.w.heap.size = bx at *
  have Hup := Lib.hid (Since.up hWup)
  rw [hy0]
  clear hy0
  replace HP := Lib.hid (HP.out.to hWup)
  clear hWup
  go_wp2_with fail
  go_loopw [3, 4] (fun s i wr => ∃ (k : Nat) (y : Since W) (v : Value), k ≤ r.pauses.length ∧ i = .int .i64 k ∧ v = s ∧ wr = y.w ∧ y.w.ownsRow W.heap.size 3 1 v (2 * k) ((flatM (r.pauses.take k)).map (Value.int .i64))) (fun _ i _ => r.pauses.length - (intOf i).toNat)
  case atStart => exact ⟨0, _, _, by omega, rfl, rfl, rfl, ⟨rfl, .inl ⟨rfl, rfl⟩⟩⟩
  case round =>
    obtain ⟨k, y, v, hk, rfl, rfl, rfl, hown⟩ := hrel
    have Hown := Lib.hid hown; clear hown
    by_cases hlt : k < r.pauses.length
    · obtain ⟨e, he⟩ : ∃ e, r.pauses[k]? = some e := ⟨_, List.getElem?_eq_getElem hlt⟩
      obtain ⟨b1, off1, rfl, h1'⟩ := Els.pse HP.out he
      have pb0 := h1'.c0
      have pb1 := h1'.c1
      have pb2 := h1'.c2
      have pb3 := h1'.c3
      have Hnext := Lib.hid (flatM_next he)
      have hk0 : (0 : Int) ≤ (k : Int) := by omega
      have hkl : (k : Int) < (r.pauses.length : Int) := by omega
      clear h1' he
      replace hb0_0 := Since.cellTo ⟨y, rfl⟩ hb0_0
      replace hb0_1 := Since.cellTo ⟨y, rfl⟩ hb0_1
      replace hb0_2 := Since.cellTo ⟨y, rfl⟩ hb0_2
      replace hb0_3 := Since.cellTo ⟨y, rfl⟩ hb0_3
      replace hb0_4 := Since.cellTo ⟨y, rfl⟩ hb0_4
      replace hb0_5 := Since.cellTo ⟨y, rfl⟩ hb0_5
      replace hb0_6 := Since.cellTo ⟨y, rfl⟩ hb0_6
      replace hb0_7 := Since.cellTo ⟨y, rfl⟩ hb0_7
      replace hb0_8 := Since.cellTo ⟨y, rfl⟩ hb0_8
      replace hb0_9 := Since.cellTo ⟨y, rfl⟩ hb0_9
      replace hb0_10 := Since.cellTo ⟨y, rfl⟩ hb0_10
      replace hb0_11 := Since.cellTo ⟨y, rfl⟩ hb0_11
      replace hb0_12 := Since.cellTo ⟨y, rfl⟩ hb0_12
      replace pb0 := Since.cellTo ⟨y, rfl⟩ pb0
      replace pb2 := Since.cellTo ⟨y, rfl⟩ pb2
      clear pb1 pb3
      obtain ⟨q0, hq0⟩ := Since.refl y.w
      rw [hq0]
      clear hq0
      go_upto_region 5 with fail
      refine wp_region_tail (fun w' => ∃ q : Since (y.w), w' = q.w) [0] [1, 2, 3, 4, 5, 6, 7, 8, 9, 10, 11, 12, 13, 14] 15 (by kernel_rfl) (by kernel_rfl) (fun _ _ _ _ _ h => h) (q0.drew) ?_
      simp only [List.cons_append, List.nil_append, picks_cons, picks_nil, List.getD_cons_zero, List.getD_cons_succ]
      repeat (go_big_quiet_step (fail))
      refine wpQuiet_nil ?_
      rintro _ ⟨q, rfl⟩
      simp only [List.drop_succ_cons, List.drop_zero]
      have hown1 := own_since (own_since Hown.out q.b) (below_new q.w (.cells #[.int .i64 e.f0, .int .i64 e.t0] 3))
      have Hown1 := Lib.hid hown1; clear hown1
      go_wp2_with (at_builtin; go_loud (refine wpList_appendK (k := 1) (w0 := W) ?hw rfl _ _ 22 rfl W.heap.size (Nat.le_refl _) ?hb 3 (.int .i64 0) 8 sInts v (2 * k) ((flatM (r.pauses.take k)).map (Value.int .i64)) rfl Hown1.out ⟨q.w.heap.size, 0, none⟩ 2 2 [.int .i64 e.f0, .int .i64 e.t0] rfl rfl ?hc ?h1 ?h63 ?hbytes ?_; rotate_right 1; intro v2 q2 hown2 _ hg2))
      case hw => obtain ⟨z, e⟩ := y.trans q; rw [e]; exact z.alloc _
      case hb => have := y.b.size; have := q.b.size; simp; omega
      case hc => exact fun j u hu => cell_new_at q.w [.int .i64 e.f0, .int .i64 e.t0] _ j u hu
      case h1 => intro u hu; simp at hu; rcases hu with rfl | rfl <;> rfl
      case h63 => unfold maxLen; omega
      case hbytes => omega
      have Hown2 := Lib.hid hown2; clear hown2 hg2
      go_roundw
      case rel => exact ⟨k + 1, q2, v2, by omega, by go_num, rfl, rfl, by rw [Hnext.out, List.map_append]; exact Hown2.out⟩
      case measure => simp [intOf] <;> omega
    · obtain rfl : k = r.pauses.length := by omega
      rw [List.take_length] at Hown
      obtain ⟨a, cap, rfl, hcap, hrow, -⟩ := own_row Hown.out
      have Hrow := Lib.hid (ints_row (flatM_len r.pauses) hrow)
      have hfl := flatM_len r.pauses
      clear Hown hrow
      have Hpost := Lib.hid (fun (l : List Int) (n : Nat) (z : Since W) (h1 : l.length = n) (h2 : IntRow z.w a l) (h3 : marksL op r.pauses = l) => show MarksPost w (marksL op r.pauses) (.returned (.slice a n cap)) z.w by
        obtain ⟨z', e⟩ := Hup.out z
        subst h1
        exact ⟨a, cap, z', by rw [h3], e, by rw [h3, ← e]; exact h2⟩)
      have hml : marksL op r.pauses = if op && lastZ r.pauses then (flatM r.pauses).dropLast else flatM r.pauses := rfl
      have Hml := Lib.hid hml; clear hml
      generalize hn : 2 * r.pauses.length = n at *
      have Hn := Lib.hid hn
      have Hfl := Lib.hid hfl
      obtain ⟨q0, hq0⟩ := Since.refl y.w
      rw [hq0]
      replace hq0 := Lib.hid hq0
      replace hb0_0 := Since.cellTo ⟨y, rfl⟩ hb0_0
      replace hb0_1 := Since.cellTo ⟨y, rfl⟩ hb0_1
      replace hb0_2 := Since.cellTo ⟨y, rfl⟩ hb0_2
      replace hb0_3 := Since.cellTo ⟨y, rfl⟩ hb0_3
      replace hb0_4 := Since.cellTo ⟨y, rfl⟩ hb0_4
      replace hb0_5 := Since.cellTo ⟨y, rfl⟩ hb0_5
      replace hb0_6 := Since.cellTo ⟨y, rfl⟩ hb0_6
      replace hb0_7 := Since.cellTo ⟨y, rfl⟩ hb0_7
      replace hb0_8 := Since.cellTo ⟨y, rfl⟩ hb0_8
      replace hb0_9 := Since.cellTo ⟨y, rfl⟩ hb0_9
      replace hb0_10 := Since.cellTo ⟨y, rfl⟩ hb0_10
      replace hb0_11 := Since.cellTo ⟨y, rfl⟩ hb0_11
      replace hb0_12 := Since.cellTo ⟨y, rfl⟩ hb0_12
      rcases (by omega : n ≤ 0 ∨ 0 < n) with h0 | h0
      · have Hr := Lib.hid (Hpost.out (flatM r.pauses) n y hfl Hrow.out (by
          rw [Hml.out]
          have : r.pauses = [] := List.eq_nil_of_length_eq_zero (by omega)
          rw [this]; simp [flatM]))
        clear hn hfl
        go_wp2_with fail
        go_ret
        rw [← hq0.out]
        exact Hr.out
      · obtain ⟨e, he⟩ : ∃ e, r.pauses[r.pauses.length - 1]? = some e := ⟨_, List.getElem?_eq_getElem (by omega)⟩
        have hlz := lastZ_at he
        have hla := flat_last he (by omega)
        rw [hn] at hla
        obtain ⟨b, off, rfl, hlt2, hcl⟩ := Hrow.out (n - 1) (by omega)
        replace hcl : y.w.cell? ⟨b, off + (n - 1), none⟩ = some (.int .i64 e.t0) := by rw [hcl]; show some (Value.int .i64 (at0 _ _)) = _; rw [hla]
        have kc : ∀ q : Since y.w, q.w.cell? ⟨b, off + (n - 1), none⟩ = some (.int .i64 e.t0) := fun q => Since.cell hcl hlt2 q
        have hm1 : (0 : Int) < (n : Int) := by omega
        have hmm : (n : Int) - 1 = ((n - 1 : Nat) : Int) := by omega
        have hmr : (0 : Int) ≤ ((n - 1 : Nat) : Int) := by omega
        have hml : ((n - 1 : Nat) : Int) < (n : Int) := by omega
        have hn5 : n ≤ 200000 := by omega
        have Hlz := Lib.hid hlz
        have Hr1 := Lib.hid (fun h => Hpost.out (flatM r.pauses) n y hfl Hrow.out h)
        have Hr2 := Lib.hid (fun h => Hpost.out (flatM r.pauses).dropLast (n - 1) y (by rw [List.length_dropLast, hfl]) (by
          have hd : (flatM r.pauses).dropLast = (flatM r.pauses).take (n - 1) := by rw [List.dropLast_eq_take, hfl]
          rw [hd]
          intro i hi
          rw [List.length_take] at hi
          obtain ⟨b, off, ha, hb, hc⟩ := Hrow.out i (by omega)
          refine ⟨b, off, ha, hb, ?_⟩
          rw [hc]
          show some (Value.int .i64 (at0 _ i)) = some (.int .i64 (at0 _ i))
          unfold at0
          rw [List.getD_eq_getElem?_getD, List.getD_eq_getElem?_getD, List.getElem?_take, if_pos (by omega)]) h)
        clear he hlz hla hlt2 hcl hn hfl Hpost
        by_cases hc : op = true ∧ e.t0 = 0
        · obtain ⟨rfl, ht⟩ := hc
          have htb : (e.t0 == 0) = true := by simpa using ht
          have Hr := Lib.hid (Hr2.out (by rw [Hml.out, Hlz.out, decide_eq_true ht]; rfl))
          clear ht Hr1 Hr2
          go_wp2_with fail
          go_ret
          rw [← hq0.out]
          exact Hr.out
        · have Hr := Lib.hid (Hr1.out (by
            rw [Hml.out, Hlz.out]
            cases op
            · rfl
            · rw [decide_eq_false (fun h => hc ⟨rfl, h⟩)]; rfl))
          clear Hr1 Hr2
          have hcase : op = false ∨ (op = true ∧ (e.t0 == 0) = false) := by
            cases op
            · exact .inl rfl
            · exact .inr ⟨rfl, by simp; intro h; exact hc ⟨rfl, h⟩⟩
          clear hc
          rcases hcase with rfl | ⟨rfl, htb⟩
          all_goals
            go_wp2_with fail
            go_ret
            rw [← hq0.out]
            exact Hr.out
end Go.Proofs.YtdkcclngionihaaDoor
/- The walks of the reference's check of a ride, fourth part: the ends are in order. -/
namespace Go.Proofs.YtdkcclngionihaaDoor
open Go.RowKit

/-- mark i is in order -/
def markB (op : Bool) (s0 e0 : Int) (l : List Int) (i : Nat) : Bool :=
  (if i = 0 then decide (s0 ≤ at0 l 0) else decide (at0 l (i - 1) ≤ at0 l i)) && (op || decide (at0 l i ≤ e0))
def monoL (op : Bool) (e : Int) : Int → List Int → Bool
  | _, [] => true
  | last, x :: l => decide (last ≤ x) && (op || decide (x ≤ e)) && monoL op e x l
theorem monoL_all (op : Bool) (e : Int) : ∀ (l : List Int) (a : Int), monoL op e a l = true ↔ ∀ i, i < l.length → markB op a e l i = true
  | [], a => by simp [monoL]
  | x :: l, a => by
    rw [monoL, Bool.and_eq_true, monoL_all op e l x]
    constructor
    · rintro ⟨h1, h2⟩ i hi
      cases i with
      | zero => unfold markB; simpa [at0] using h1
      | succ i =>
        have := h2 i (by simpa using hi)
        unfold markB at this ⊢
        cases i with
        | zero => simpa [at0] using this
        | succ i => simpa [at0] using this
    · intro h
      refine ⟨by have := h 0 (by simp); unfold markB at this; simpa [at0] using this, fun i hi => ?_⟩
      have := h (i + 1) (by simpa using hi)
      unfold markB at this ⊢
      cases i with
      | zero => simpa [at0] using this
      | succ i => simpa [at0] using this
theorem marks_cons {op : Bool} {p q : Pse} {l : List Pse} : marksL op (p :: q :: l) = p.f0 :: p.t0 :: marksL op (q :: l) := by
  unfold marksL
  have h1 : lastZ (p :: q :: l) = lastZ (q :: l) := by unfold lastZ; rw [List.getLast?_cons_cons]
  rw [h1]
  split
  · have : (flatM (q :: l)) ≠ [] := by simp [flatM]
    show (p.f0 :: p.t0 :: flatM (q :: l)).dropLast = _
    rw [List.dropLast_cons_of_ne_nil (by simp), List.dropLast_cons_of_ne_nil this]
  · rfl
theorem marks_one (op : Bool) (p : Pse) : marksL op [p] = if op && decide (p.t0 = 0) then [p.f0] else [p.f0, p.t0] := by
  unfold marksL lastZ
  simp [flatM]
theorem pses_last : ∀ (l : List Pse) (a e : Int), psesO false e a l = true → a ≤ e
  | [], a, e, h => by simpa [psesO] using h
  | p :: l, a, e, h => by
    simp only [psesO, Bool.false_and, Bool.false_or, Bool.and_eq_true, decide_eq_true_eq] at h
    have := pses_last l p.t0 e h.2.2
    omega
/-- the two ways to say that the pauses are in order -/
theorem mono_pses (op : Bool) (e : Int) : ∀ (l : List Pse) (a : Int), l ≠ [] → monoL op e a (marksL op l) = psesO op e a l
  | [], _, h => (h rfl).elim
  | [p], a, _ => by
    rw [marks_one]
    cases op
    · simp only [Bool.false_and, Bool.false_eq_true, if_false, monoL, psesO, Bool.false_or, Bool.and_true]
      rw [Bool.eq_iff_iff]
      simp only [Bool.and_eq_true, decide_eq_true_eq]
      omega
    · by_cases h : p.t0 = 0
      · simp [monoL, psesO, h]
      · simp [monoL, psesO, h]
  | p :: q :: l, a, _ => by
    rw [marks_cons]
    have ih := mono_pses op e (q :: l) p.t0 (by simp)
    show (decide (a ≤ p.f0) && (op || decide (p.f0 ≤ e)) && (decide (p.f0 ≤ p.t0) && (op || decide (p.t0 ≤ e)) && monoL op e p.t0 (marksL op (q :: l)))) = (decide (a ≤ p.f0) && ((op && (q :: l).isEmpty && decide (p.t0 = 0)) || (decide (p.f0 ≤ p.t0) && psesO op e p.t0 (q :: l))))
    rw [ih]
    cases op
    · rw [Bool.eq_iff_iff]
      simp only [Bool.false_and, Bool.false_or, Bool.and_eq_true, decide_eq_true_eq]
      constructor
      · rintro ⟨⟨h1, h2⟩, ⟨h3, h4⟩, h5⟩; exact ⟨h1, h3, h5⟩
      · rintro ⟨h1, h3, h5⟩
        have := pses_last _ _ _ h5
        exact ⟨⟨h1, by omega⟩, ⟨h3, by omega⟩, h5⟩
    · simp
theorem marks_empty (op : Bool) : marksL op [] = [] := by unfold marksL; split <;> rfl
theorem ordered_iff (r : Ride) : orderedB r = true ↔ legsO r.op r.legs = true ∧ ∀ i, i < (marksL r.op r.pauses).length → markB r.op r.s0 r.e0 (marksL r.op r.pauses) i = true := by
  unfold orderedB
  rw [Bool.and_eq_true, ← monoL_all]
  cases h : r.pauses with
  | nil => simp [marks_empty, monoL]
  | cons p l => rw [mono_pses _ _ _ _ (by simp)]; simp
/-- the end of leg i is in order -/
def legB (op : Bool) (l : List Leg) (i : Nat) : Bool := match l[i]? with | some x => decide (x.f0 ≤ x.t0) || (op && decide (i + 1 = l.length)) | none => true
theorem legsO_all (op : Bool) : ∀ l : List Leg, legsO op l = true ↔ ∀ i, i < l.length → legB op l i = true
  | [] => by simp [legsO]
  | x :: l => by
    rw [legsO, Bool.and_eq_true, legsO_all op l]
    have he : l.isEmpty = decide (0 + 1 = (x :: l).length) := by rw [Bool.eq_iff_iff]; simp
    constructor
    · rintro ⟨h1, h2⟩ i hi
      cases i with
      | zero => unfold legB; rw [he] at h1; simpa using h1
      | succ i => have := h2 i (by simpa using hi); unfold legB at this ⊢; simpa using this
    · intro h
      refine ⟨by have := h 0 (by simp); unfold legB at this; rw [he]; simpa using this, fun i hi => ?_⟩
      have := h (i + 1) (by simpa using hi)
      unfold legB at this ⊢; simpa using this
end Go.Proofs.YtdkcclngionihaaDoor
/- The walks of the reference's check of a ride, fifth part: the ends are in order (the walk). -/
namespace Go.Proofs.YtdkcclngionihaaDoor
open Go.RowKit

set_option maxRecDepth 100000 in
set_option maxHeartbeats 8000000 in
theorem rordered_calls (w : World) (x : Since w) (r : Ride) (h : r.At w) (hp : r.pauses.length ≤ 100000) :
    Calls Tryd.prog 124 #[.agg #[.int .i64 r.id, .int .i64 r.rd, .int .i64 r.s0, .int .i64 r.s1, .int .i64 r.e0, .int .i64 r.e1, .bool r.op, .slice r.la r.legs.length r.lc, .slice r.pa r.pauses.length r.pc, .int .i64 r.fw, .int .i64 r.fp, .int .i64 r.wh, .int .i64 r.pl]] x.w fun o w' => o = .returned (.bool (orderedB r)) ∧ ∃ y : Since w, w' = y.w := by
  have HL := Lib.hid h.l
  have hlm := h.lm
  have hpm := h.pm
  have HA := Lib.hid h
  have HO := Lib.hid (ordered_iff r)
  have HG := Lib.hid (legsO_all r.op r.legs)
  have hmlen := marks_len r.op r.pauses
  have Hmk := Lib.hid (fun (W : World) (h : r.At W) (y : Since W) => marks_calls W y r h hp)
  clear h
  generalize marksL r.op r.pauses = M at *
  unfold MarksPost at Hmk
  generalize r.la = la at HL Hmk ⊢
  generalize r.op = op at HO HG Hmk ⊢
  go_enter Tryd.func124, Tryd.ntmps124
  go_upto_region 1 with fail
  have hb0_0 : ∀ y : Since (x.w.alloc (.cells #[.int .i64 r.id, .int .i64 r.rd, .int .i64 r.s0, .int .i64 r.s1, .int .i64 r.e0, .int .i64 r.e1, .bool op, .slice la r.legs.length r.lc, .slice r.pa r.pauses.length r.pc, .int .i64 r.fw, .int .i64 r.fp, .int .i64 r.wh, .int .i64 r.pl] 73)), y.w.cell? ⟨x.w.heap.size, 0, none⟩ = some (.int .i64 r.id) := fun y => Since.cell (by simp [go_sem]) (by first | (simp; done) | (simp; omega)) y
  have hb0_1 : ∀ y : Since (x.w.alloc (.cells #[.int .i64 r.id, .int .i64 r.rd, .int .i64 r.s0, .int .i64 r.s1, .int .i64 r.e0, .int .i64 r.e1, .bool op, .slice la r.legs.length r.lc, .slice r.pa r.pauses.length r.pc, .int .i64 r.fw, .int .i64 r.fp, .int .i64 r.wh, .int .i64 r.pl] 73)), y.w.cell? ⟨x.w.heap.size, 1, none⟩ = some (.int .i64 r.rd) := fun y => Since.cell (by simp [go_sem]) (by first | (simp; done) | (simp; omega)) y
  have hb0_2 : ∀ y : Since (x.w.alloc (.cells #[.int .i64 r.id, .int .i64 r.rd, .int .i64 r.s0, .int .i64 r.s1, .int .i64 r.e0, .int .i64 r.e1, .bool op, .slice la r.legs.length r.lc, .slice r.pa r.pauses.length r.pc, .int .i64 r.fw, .int .i64 r.fp, .int .i64 r.wh, .int .i64 r.pl] 73)), y.w.cell? ⟨x.w.heap.size, 2, none⟩ = some (.int .i64 r.s0) := fun y => Since.cell (by simp [go_sem]) (by first | (simp; done) | (simp; omega)) y
  have hb0_3 : ∀ y : Since (x.w.alloc (.cells #[.int .i64 r.id, .int .i64 r.rd, .int .i64 r.s0, .int .i64 r.s1, .int .i64 r.e0, .int .i64 r.e1, .bool op, .slice la r.legs.length r.lc, .slice r.pa r.pauses.length r.pc, .int .i64 r.fw, .int .i64 r.fp, .int .i64 r.wh, .int .i64 r.pl] 73)), y.w.cell? ⟨x.w.heap.size, 3, none⟩ = some (.int .i64 r.s1) := fun y => Since.cell (by simp [go_sem]) (by first | (simp; done) | (simp; omega)) y
  have hb0_4 : ∀ y : Since (x.w.alloc (.cells #[.int .i64 r.id, .int .i64 r.rd, .int .i64 r.s0, .int .i64 r.s1, .int .i64 r.e0, .int .i64 r.e1, .bool op, .slice la r.legs.length r.lc, .slice r.pa r.pauses.length r.pc, .int .i64 r.fw, .int .i64 r.fp, .int .i64 r.wh, .int .i64 r.pl] 73)), y.w.cell? ⟨x.w.heap.size, 4, none⟩ = some (.int .i64 r.e0) := fun y => Since.cell (by simp [go_sem]) (by first | (simp; done) | (simp; omega)) y
  have hb0_5 : ∀ y : Since (x.w.alloc (.cells #[.int .i64 r.id, .int .i64 r.rd, .int .i64 r.s0, .int .i64 r.s1, .int .i64 r.e0, .int .i64 r.e1, .bool op, .slice la r.legs.length r.lc, .slice r.pa r.pauses.length r.pc, .int .i64 r.fw, .int .i64 r.fp, .int .i64 r.wh, .int .i64 r.pl] 73)), y.w.cell? ⟨x.w.heap.size, 5, none⟩ = some (.int .i64 r.e1) := fun y => Since.cell (by simp [go_sem]) (by first | (simp; done) | (simp; omega)) y
  have hb0_6 : ∀ y : Since (x.w.alloc (.cells #[.int .i64 r.id, .int .i64 r.rd, .int .i64 r.s0, .int .i64 r.s1, .int .i64 r.e0, .int .i64 r.e1, .bool op, .slice la r.legs.length r.lc, .slice r.pa r.pauses.length r.pc, .int .i64 r.fw, .int .i64 r.fp, .int .i64 r.wh, .int .i64 r.pl] 73)), y.w.cell? ⟨x.w.heap.size, 6, none⟩ = some (.bool op) := fun y => Since.cell (by simp [go_sem]) (by first | (simp; done) | (simp; omega)) y
  have hb0_7 : ∀ y : Since (x.w.alloc (.cells #[.int .i64 r.id, .int .i64 r.rd, .int .i64 r.s0, .int .i64 r.s1, .int .i64 r.e0, .int .i64 r.e1, .bool op, .slice la r.legs.length r.lc, .slice r.pa r.pauses.length r.pc, .int .i64 r.fw, .int .i64 r.fp, .int .i64 r.wh, .int .i64 r.pl] 73)), y.w.cell? ⟨x.w.heap.size, 7, none⟩ = some (.slice la r.legs.length r.lc) := fun y => Since.cell (by simp [go_sem]) (by first | (simp; done) | (simp; omega)) y
  have hb0_8 : ∀ y : Since (x.w.alloc (.cells #[.int .i64 r.id, .int .i64 r.rd, .int .i64 r.s0, .int .i64 r.s1, .int .i64 r.e0, .int .i64 r.e1, .bool op, .slice la r.legs.length r.lc, .slice r.pa r.pauses.length r.pc, .int .i64 r.fw, .int .i64 r.fp, .int .i64 r.wh, .int .i64 r.pl] 73)), y.w.cell? ⟨x.w.heap.size, 8, none⟩ = some (.slice r.pa r.pauses.length r.pc) := fun y => Since.cell (by simp [go_sem]) (by first | (simp; done) | (simp; omega)) y
  have hb0_9 : ∀ y : Since (x.w.alloc (.cells #[.int .i64 r.id, .int .i64 r.rd, .int .i64 r.s0, .int .i64 r.s1, .int .i64 r.e0, .int .i64 r.e1, .bool op, .slice la r.legs.length r.lc, .slice r.pa r.pauses.length r.pc, .int .i64 r.fw, .int .i64 r.fp, .int .i64 r.wh, .int .i64 r.pl] 73)), y.w.cell? ⟨x.w.heap.size, 9, none⟩ = some (.int .i64 r.fw) := fun y => Since.cell (by simp [go_sem]) (by first | (simp; done) | (simp; omega)) y
  have hb0_10 : ∀ y : Since (x.w.alloc (.cells #[.int .i64 r.id, .int .i64 r.rd, .int .i64 r.s0, .int .i64 r.s1, .int .i64 r.e0, .int .i64 r.e1, .bool op, .slice la r.legs.length r.lc, .slice r.pa r.pauses.length r.pc, .int .i64 r.fw, .int .i64 r.fp, .int .i64 r.wh, .int .i64 r.pl] 73)), y.w.cell? ⟨x.w.heap.size, 10, none⟩ = some (.int .i64 r.fp) := fun y => Since.cell (by simp [go_sem]) (by first | (simp; done) | (simp; omega)) y
  have hb0_11 : ∀ y : Since (x.w.alloc (.cells #[.int .i64 r.id, .int .i64 r.rd, .int .i64 r.s0, .int .i64 r.s1, .int .i64 r.e0, .int .i64 r.e1, .bool op, .slice la r.legs.length r.lc, .slice r.pa r.pauses.length r.pc, .int .i64 r.fw, .int .i64 r.fp, .int .i64 r.wh, .int .i64 r.pl] 73)), y.w.cell? ⟨x.w.heap.size, 11, none⟩ = some (.int .i64 r.wh) := fun y => Since.cell (by simp [go_sem]) (by first | (simp; done) | (simp; omega)) y
  have hb0_12 : ∀ y : Since (x.w.alloc (.cells #[.int .i64 r.id, .int .i64 r.rd, .int .i64 r.s0, .int .i64 r.s1, .int .i64 r.e0, .int .i64 r.e1, .bool op, .slice la r.legs.length r.lc, .slice r.pa r.pauses.length r.pc, .int .i64 r.fw, .int .i64 r.fp, .int .i64 r.wh, .int .i64 r.pl] 73)), y.w.cell? ⟨x.w.heap.size, 12, none⟩ = some (.int .i64 r.pl) := fun y => Since.cell (by simp [go_sem]) (by first | (simp; done) | (simp; omega)) y
  have hf0 : ∀ (y : Since (x.w.alloc (.cells #[.int .i64 r.id, .int .i64 r.rd, .int .i64 r.s0, .int .i64 r.s1, .int .i64 r.e0, .int .i64 r.e1, .bool op, .slice la r.legs.length r.lc, .slice r.pa r.pauses.length r.pc, .int .i64 r.fw, .int .i64 r.fp, .int .i64 r.wh, .int .i64 r.pl] 73))) (o : Nat), y.w.frozen? ⟨x.w.heap.size, o, none⟩ = false := fun y o => Since.free (by simp [go_sem]) (by first | (simp; done) | (simp; omega)) y
  have hWup : ∃ z : Since w, (x.w.alloc (.cells #[.int .i64 r.id, .int .i64 r.rd, .int .i64 r.s0, .int .i64 r.s1, .int .i64 r.e0, .int .i64 r.e1, .bool op, .slice la r.legs.length r.lc, .slice r.pa r.pauses.length r.pc, .int .i64 r.fw, .int .i64 r.fp, .int .i64 r.wh, .int .i64 r.pl] 73)) = z.w := x.alloc _
  obtain ⟨y0, hy0⟩ := Since.refl (x.w.alloc (.cells #[.int .i64 r.id, .int .i64 r.rd, .int .i64 r.s0, .int .i64 r.s1, .int .i64 r.e0, .int .i64 r.e1, .bool op, .slice la r.legs.length r.lc, .slice r.pa r.pauses.length r.pc, .int .i64 r.fw, .int .i64 r.fp, .int .i64 r.wh, .int .i64 r.pl] 73))
  have Hbx := Lib.hid (And.intro x.b.size (show x.w.heap.size + 1 = (x.w.alloc (.cells #[.int .i64 r.id, .int .i64 r.rd, .int .i64 r.s0, .int .i64 r.s1, .int .i64 r.e0, .int .i64 r.e1, .bool op, .slice la r.legs.length r.lc, .slice r.pa r.pauses.length r.pc, .int .i64 r.fw, .int .i64 r.fp, .int .i64 r.wh, .int .i64 r.pl] 73)).heap.size from by simp))
  generalize hW : (x.w.alloc (.cells #[.int .i64 r.id, .int .i64 r.rd, .int .i64 r.s0, .int .i64 r.s1, .int .i64 r.e0, .int .i64 r.e1, .bool op, .slice la r.legs.length r.lc, .slice r.pa r.pauses.length r.pc, .int .i64 r.fw, .int .i64 r.fp, .int .i64 r.wh, .int .i64 r.pl] 73)) = W at *
  clear hW
  generalize x.w.heap.size = bx at *
  have Hup := Lib.hid (Since.up hWup)
  rw [hy0]
  clear hy0
  replace HL := Lib.hid (HL.out.to hWup); replace HA := Lib.hid (HA.out.to hWup)
  replace Hmk := Lib.hid (Hmk.out W HA.out)
  clear hWup
  go_wp2_with fail
  go_loopw [3] (fun i wr => ∃ (k : Nat) (y : Since W), k ≤ r.legs.length ∧ i = .int .i64 k ∧ wr = y.w ∧ ∀ i, i < k → legB op r.legs i = true) (fun i _ => r.legs.length - (intOf i).toNat)
  case atStart => exact ⟨0, _, by omega, rfl, rfl, fun i hi => by omega⟩
  case round =>
    obtain ⟨k, y, hk, rfl, rfl, hok⟩ := hrel
    have Hok := Lib.hid hok; clear hok
    by_cases hlt : k < r.legs.length
    · obtain ⟨e, he⟩ : ∃ e, r.legs[k]? = some e := ⟨_, List.getElem?_eq_getElem hlt⟩
      obtain ⟨b1, off1, rfl, h1'⟩ := Els.leg HL.out he
      have pa0 := h1'.c0
      have pa1 := h1'.c1
      have pa2 := h1'.c2
      have pa3 := h1'.c3
      have pa4 := h1'.c4
      have Hlb := Lib.hid (show legB op r.legs k = (decide (e.f0 ≤ e.t0) || (op && decide (k + 1 = r.legs.length))) by unfold legB; rw [he])
      have hk0 : (0 : Int) ≤ (k : Int) := by omega
      have hkl : (k : Int) < (r.legs.length : Int) := by omega
      clear h1' he
      have hcase : (((k : Int) == (r.legs.length : Int) - 1) = true ∧ op = true ∧ legB op r.legs k = true) ∨ (((k : Int) == (r.legs.length : Int) - 1) = true ∧ op = false ∧ legB op r.legs k = decide (e.f0 ≤ e.t0)) ∨ (((k : Int) == (r.legs.length : Int) - 1) = false ∧ legB op r.legs k = decide (e.f0 ≤ e.t0)) := by
        by_cases h1 : k + 1 = r.legs.length
        · cases op
          · exact .inr (.inl ⟨by simp; omega, rfl, by rw [Hlb.out]; simp⟩)
          · exact .inl ⟨by simp; omega, rfl, by rw [Hlb.out, decide_eq_true h1]; simp⟩
        · exact .inr (.inr ⟨by simp; omega, by rw [Hlb.out, decide_eq_false h1]; simp⟩)
      clear Hlb
      rcases hcase with ⟨hkb, rfl, hlb⟩ | ⟨hkb, rfl, hlb⟩ | ⟨hkb, hlb⟩
      · have Hlb := Lib.hid hlb; clear hlb
        go_wp2_with fail
        refine wp_region_since (by kernel_rfl) (by kernel_rfl) ?_
        repeat (go_big_quiet_step (fail))
        refine wpQuiet_nil ?_
        rintro _ ⟨y2, rfl⟩
        go_wp2_with fail
        go_roundw
        case rel => exact ⟨k + 1, y2, by omega, by go_num, rfl, fun i hi => by
          by_cases hik : i < k
          · exact Hok.out i hik
          · obtain rfl : i = k := by omega
            exact Hlb.out⟩
        case measure => simp [intOf] <;> omega
      all_goals
        have Hlb := Lib.hid hlb; clear hlb
        by_cases hft : e.f0 ≤ e.t0
        · have hb : decide (e.t0 < e.f0) = false := decide_eq_false (by omega)
          have Hlb2 := Lib.hid (Hlb.out.trans (decide_eq_true hft))
          clear hft
          go_wp2_with fail
          refine wp_region_since (by kernel_rfl) (by kernel_rfl) ?_
          repeat (go_big_quiet_step (fail))
          refine wpQuiet_nil ?_
          rintro _ ⟨y2, rfl⟩
          clear hb
          go_wp2_with fail
          go_roundw
          case rel => exact ⟨k + 1, y2, by omega, by go_num, rfl, fun i hi => by
            by_cases hik : i < k
            · exact Hok.out i hik
            · obtain rfl : i = k := by omega
              exact Hlb2.out⟩
          case measure => simp [intOf] <;> omega
        · have hb : decide (e.t0 < e.f0) = true := decide_eq_true (by omega)
          have Hr := Lib.hid (show orderedB r = false by
            cases hh : orderedB r
            · rfl
            · have := HG.out.1 (HO.out.1 hh).1 k hlt
              rw [Hlb.out, decide_eq_false hft] at this; cases this)
          clear hft
          go_wp2_with fail
          refine wp_region_since (by kernel_rfl) (by kernel_rfl) ?_
          repeat (go_big_quiet_step (fail))
          refine wpQuiet_nil ?_
          rintro _ ⟨y2, rfl⟩
          clear hb
          go_wp2_with fail
          go_ret
          exact ⟨ret_bool Hr.out.symm, Hup.out _⟩
    · obtain rfl : k = r.legs.length := by omega
      have HG2 := Lib.hid (HG.out.2 Hok.out)
      clear Hok HG
      go_wp2_with (go_at_call 127; ((with_reducible refine (Hmk.out _).mono ?_); rintro _ _ ⟨a, cap, y2, rfl, rfl, hrow⟩))
      clear Hmk
      have hM5 : M.length ≤ 200000 := by omega
      have Hrow := Lib.hid hrow; clear hrow
      replace hb0_0 := Since.cellTo ⟨y2, rfl⟩ hb0_0
      replace hb0_1 := Since.cellTo ⟨y2, rfl⟩ hb0_1
      replace hb0_2 := Since.cellTo ⟨y2, rfl⟩ hb0_2
      replace hb0_3 := Since.cellTo ⟨y2, rfl⟩ hb0_3
      replace hb0_4 := Since.cellTo ⟨y2, rfl⟩ hb0_4
      replace hb0_5 := Since.cellTo ⟨y2, rfl⟩ hb0_5
      replace hb0_6 := Since.cellTo ⟨y2, rfl⟩ hb0_6
      replace hb0_7 := Since.cellTo ⟨y2, rfl⟩ hb0_7
      replace hb0_8 := Since.cellTo ⟨y2, rfl⟩ hb0_8
      replace hb0_9 := Since.cellTo ⟨y2, rfl⟩ hb0_9
      replace hb0_10 := Since.cellTo ⟨y2, rfl⟩ hb0_10
      replace hb0_11 := Since.cellTo ⟨y2, rfl⟩ hb0_11
      replace hb0_12 := Since.cellTo ⟨y2, rfl⟩ hb0_12
      obtain ⟨q0, hq0⟩ := Since.refl y2.w
      rw [hq0]
      clear hq0
      go_wp2_with fail
      go_loopw [6] (fun i wr => ∃ (k : Nat) (z : Since y2.w), k ≤ M.length ∧ i = .int .i64 k ∧ wr = z.w ∧ ∀ i, i < k → markB op r.s0 r.e0 M i = true) (fun i _ => M.length - (intOf i).toNat)
      case atStart => exact ⟨0, _, by omega, rfl, rfl, fun i hi => by omega⟩
      case round =>
        obtain ⟨k, z, hk, rfl, rfl, hok⟩ := hrel
        have Hok := Lib.hid hok; clear hok
        by_cases hlt : k < M.length
        · obtain ⟨b, off, rfl, hbl, hc⟩ := Hrow.out k hlt
          have kc : ∀ q : Since y2.w, q.w.cell? ⟨b, off + k, none⟩ = some (.int .i64 (at0 M k)) := fun q => Since.cell hc hbl q
          have hk0 : (0 : Int) ≤ (k : Int) := by omega
          have hkl : (k : Int) < (M.length : Int) := by omega
          clear hbl hc
          by_cases hz : k = 0
          · have hz1 : ((k : Int) == 0) = true := by simp; omega
            have hz2 : decide ((0 : Int) < (k : Int)) = false := decide_eq_false (by omega)
            have hz3 : decide (0 < k) = false := decide_eq_false (by omega)
            have Hmb := Lib.hid (show markB op r.s0 r.e0 M k = (decide (r.s0 ≤ at0 M k) && (op || decide (at0 M k ≤ r.e0))) by unfold markB; rw [if_pos hz, hz])
            clear hz
            generalize at0 M k = v at *
            have hcase : (decide (v < r.s0) = true ∧ markB op r.s0 r.e0 M k = false) ∨ (decide (v < r.s0) = false ∧ op = true ∧ markB op r.s0 r.e0 M k = true) ∨ (decide (v < r.s0) = false ∧ op = false ∧ decide (r.e0 < v) = true ∧ markB op r.s0 r.e0 M k = false) ∨ (decide (v < r.s0) = false ∧ op = false ∧ decide (r.e0 < v) = false ∧ markB op r.s0 r.e0 M k = true) := by
              rw [Hmb.out]
              by_cases h1 : v < r.s0
              · exact .inl ⟨decide_eq_true h1, by rw [decide_eq_false (by omega)]; rfl⟩
              · cases op
                · by_cases h2 : r.e0 < v
                  · exact .inr (.inr (.inl ⟨decide_eq_false h1, rfl, decide_eq_true h2, by rw [decide_eq_false (p := v ≤ r.e0) (by omega)]; simp⟩))
                  · exact .inr (.inr (.inr ⟨decide_eq_false h1, rfl, decide_eq_false h2, by simp; omega⟩))
                · exact .inr (.inl ⟨decide_eq_false h1, rfl, by simp; omega⟩)
            clear Hmb
            rcases hcase with ⟨t1, hm⟩ | ⟨t1, rfl, hm⟩ | ⟨t1, rfl, t2, hm⟩ | ⟨t1, rfl, t2, hm⟩
            · have Hm := Lib.hid hm; clear hm
              have Hr := Lib.hid (show orderedB r = false by
                cases hh : orderedB r
                · rfl
                · have := (HO.out.1 hh).2 k hlt
                  rw [Hm.out] at this; cases this)
              go_wp2_with fail
              refine wp_region_since (by kernel_rfl) (by kernel_rfl) ?_
              repeat (go_big_quiet_step (fail))
              refine wpQuiet_nil ?_
              rintro _ ⟨z2, rfl⟩
              clear hz1 hz2 hz3
              go_wp2_with fail
              go_ret
              exact ⟨ret_bool Hr.out.symm, by obtain ⟨q, e⟩ := y2.trans z2; rw [e]; exact Hup.out q⟩
            · have Hm := Lib.hid hm; clear hm
              go_wp2_with fail
              refine wp_region_since (by kernel_rfl) (by kernel_rfl) ?_
              repeat (go_big_quiet_step (fail))
              refine wpQuiet_nil ?_
              rintro _ ⟨z2, rfl⟩
              clear hz1 hz2 hz3
              go_wp2_with fail
              go_roundw
              case rel => exact ⟨k + 1, z2, by omega, by go_num, rfl, fun i hi => by
                by_cases hik : i < k
                · exact Hok.out i hik
                · obtain rfl : i = k := by omega
                  exact Hm.out⟩
              case measure => simp [intOf] <;> omega
            · have Hm := Lib.hid hm; clear hm
              have Hr := Lib.hid (show orderedB r = false by
                cases hh : orderedB r
                · rfl
                · have := (HO.out.1 hh).2 k hlt
                  rw [Hm.out] at this; cases this)
              go_wp2_with fail
              refine wp_region_since (by kernel_rfl) (by kernel_rfl) ?_
              repeat (go_big_quiet_step (fail))
              refine wpQuiet_nil ?_
              rintro _ ⟨z2, rfl⟩
              clear hz1 hz2 hz3
              go_wp2_with fail
              go_ret
              exact ⟨ret_bool Hr.out.symm, by obtain ⟨q, e⟩ := y2.trans z2; rw [e]; exact Hup.out q⟩
            · have Hm := Lib.hid hm; clear hm
              go_wp2_with fail
              refine wp_region_since (by kernel_rfl) (by kernel_rfl) ?_
              repeat (go_big_quiet_step (fail))
              refine wpQuiet_nil ?_
              rintro _ ⟨z2, rfl⟩
              clear hz1 hz2 hz3
              go_wp2_with fail
              go_roundw
              case rel => exact ⟨k + 1, z2, by omega, by go_num, rfl, fun i hi => by
                by_cases hik : i < k
                · exact Hok.out i hik
                · obtain rfl : i = k := by omega
                  exact Hm.out⟩
              case measure => simp [intOf] <;> omega
          · obtain ⟨b', off', hbo, hbl, hc⟩ := Hrow.out (k - 1) (by omega)
            obtain ⟨rfl, rfl⟩ : b = b' ∧ off = off' := by simpa using hbo
            have kp : ∀ q : Since y2.w, q.w.cell? ⟨b, off + (k - 1), none⟩ = some (.int .i64 (at0 M (k - 1))) := fun q => Since.cell hc hbl q
            have hz1 : ((k : Int) == 0) = false := by simp; omega
            have hz2 : decide ((0 : Int) < (k : Int)) = true := decide_eq_true (by omega)
            have hz3 : decide (0 < k) = true := decide_eq_true (by omega)
            have hmw : IntKind.i64.wrap ((k : Int) - 1) = ((k - 1 : Nat) : Int) := by rw [show (k : Int) - 1 = ((k - 1 : Nat) : Int) by omega]; exact IntWalk.i64_in _ (by omega)
            have hmr : (0 : Int) ≤ ((k - 1 : Nat) : Int) := by omega
            have hml : ((k - 1 : Nat) : Int) < (M.length : Int) := by omega
            have Hmb := Lib.hid (show markB op r.s0 r.e0 M k = (decide (at0 M (k - 1) ≤ at0 M k) && (op || decide (at0 M k ≤ r.e0))) by unfold markB; rw [if_neg hz])
            clear hz hbo hbl hc
            generalize at0 M k = v at *
            generalize at0 M (k - 1) = u at *
            have hcase : (decide (v < u) = true ∧ markB op r.s0 r.e0 M k = false) ∨ (decide (v < u) = false ∧ op = true ∧ markB op r.s0 r.e0 M k = true) ∨ (decide (v < u) = false ∧ op = false ∧ decide (r.e0 < v) = true ∧ markB op r.s0 r.e0 M k = false) ∨ (decide (v < u) = false ∧ op = false ∧ decide (r.e0 < v) = false ∧ markB op r.s0 r.e0 M k = true) := by
              rw [Hmb.out]
              by_cases h1 : v < u
              · exact .inl ⟨decide_eq_true h1, by rw [decide_eq_false (by omega)]; rfl⟩
              · cases op
                · by_cases h2 : r.e0 < v
                  · exact .inr (.inr (.inl ⟨decide_eq_false h1, rfl, decide_eq_true h2, by rw [decide_eq_false (p := v ≤ r.e0) (by omega)]; simp⟩))
                  · exact .inr (.inr (.inr ⟨decide_eq_false h1, rfl, decide_eq_false h2, by simp; omega⟩))
                · exact .inr (.inl ⟨decide_eq_false h1, rfl, by simp; omega⟩)
            clear Hmb
            rcases hcase with ⟨t1, hm⟩ | ⟨t1, rfl, hm⟩ | ⟨t1, rfl, t2, hm⟩ | ⟨t1, rfl, t2, hm⟩
            · have Hm := Lib.hid hm; clear hm
              have Hr := Lib.hid (show orderedB r = false by
                cases hh : orderedB r
                · rfl
                · have := (HO.out.1 hh).2 k hlt
                  rw [Hm.out] at this; cases this)
              go_wp2_with fail
              refine wp_region_since (by kernel_rfl) (by kernel_rfl) ?_
              repeat (go_big_quiet_step (fail))
              refine wpQuiet_nil ?_
              rintro _ ⟨z2, rfl⟩
              clear hz1 hz2 hz3
              go_wp2_with fail
              go_ret
              exact ⟨ret_bool Hr.out.symm, by obtain ⟨q, e⟩ := y2.trans z2; rw [e]; exact Hup.out q⟩
            · have Hm := Lib.hid hm; clear hm
              go_wp2_with fail
              refine wp_region_since (by kernel_rfl) (by kernel_rfl) ?_
              repeat (go_big_quiet_step (fail))
              refine wpQuiet_nil ?_
              rintro _ ⟨z2, rfl⟩
              clear hz1 hz2 hz3
              go_wp2_with fail
              go_roundw
              case rel => exact ⟨k + 1, z2, by omega, by go_num, rfl, fun i hi => by
                by_cases hik : i < k
                · exact Hok.out i hik
                · obtain rfl : i = k := by omega
                  exact Hm.out⟩
              case measure => simp [intOf] <;> omega
            · have Hm := Lib.hid hm; clear hm
              have Hr := Lib.hid (show orderedB r = false by
                cases hh : orderedB r
                · rfl
                · have := (HO.out.1 hh).2 k hlt
                  rw [Hm.out] at this; cases this)
              go_wp2_with fail
              refine wp_region_since (by kernel_rfl) (by kernel_rfl) ?_
              repeat (go_big_quiet_step (fail))
              refine wpQuiet_nil ?_
              rintro _ ⟨z2, rfl⟩
              clear hz1 hz2 hz3
              go_wp2_with fail
              go_ret
              exact ⟨ret_bool Hr.out.symm, by obtain ⟨q, e⟩ := y2.trans z2; rw [e]; exact Hup.out q⟩
            · have Hm := Lib.hid hm; clear hm
              go_wp2_with fail
              refine wp_region_since (by kernel_rfl) (by kernel_rfl) ?_
              repeat (go_big_quiet_step (fail))
              refine wpQuiet_nil ?_
              rintro _ ⟨z2, rfl⟩
              clear hz1 hz2 hz3
              go_wp2_with fail
              go_roundw
              case rel => exact ⟨k + 1, z2, by omega, by go_num, rfl, fun i hi => by
                by_cases hik : i < k
                · exact Hok.out i hik
                · obtain rfl : i = k := by omega
                  exact Hm.out⟩
              case measure => simp [intOf] <;> omega
        · obtain rfl : k = M.length := by omega
          have Hr := Lib.hid (HO.out.2 ⟨HG2.out, Hok.out⟩)
          go_wp2_with fail
          go_ret
          exact ⟨ret_bool Hr.out.symm, by obtain ⟨q, e⟩ := y2.trans z; rw [e]; exact Hup.out q⟩
end Go.Proofs.YtdkcclngionihaaDoor
/- The walks of the program's check of a ride, fourth part: the check. -/
namespace Go.Proofs.YtdkcclngionihaaDoor
open Go.RowKit

set_option maxRecDepth 100000 in
set_option maxHeartbeats 8000000 in
theorem check_calls (w : World) (x : Since w) (r : Ride) (h : r.At w) :
    Calls Tryd.prog 61 #[.agg #[.int .i64 r.id, .int .i64 r.rd, .int .i64 r.s0, .int .i64 r.s1, .int .i64 r.e0, .int .i64 r.e1, .bool r.op, .slice r.la r.legs.length r.lc, .slice r.pa r.pauses.length r.pc, .int .i64 r.fw, .int .i64 r.fp, .int .i64 r.wh, .int .i64 r.pl]] x.w fun o w' => o = .returned (.int .i64 (rideE r)) ∧ ∃ y : Since w, w' = y.w := by
  have H := Lib.hid h
  clear h
  go_enter Tryd.func61, Tryd.ntmps61
  go_upto_region 1 with fail
  have hb0_0 : ∀ y : Since (x.w.alloc (.cells #[.int .i64 r.id, .int .i64 r.rd, .int .i64 r.s0, .int .i64 r.s1, .int .i64 r.e0, .int .i64 r.e1, .bool r.op, .slice r.la r.legs.length r.lc, .slice r.pa r.pauses.length r.pc, .int .i64 r.fw, .int .i64 r.fp, .int .i64 r.wh, .int .i64 r.pl] 73)), y.w.cell? ⟨x.w.heap.size, 0, none⟩ = some (.int .i64 r.id) := fun y => Since.cell (by simp [go_sem]) (by first | (simp; done) | (simp; omega)) y
  have hb0_1 : ∀ y : Since (x.w.alloc (.cells #[.int .i64 r.id, .int .i64 r.rd, .int .i64 r.s0, .int .i64 r.s1, .int .i64 r.e0, .int .i64 r.e1, .bool r.op, .slice r.la r.legs.length r.lc, .slice r.pa r.pauses.length r.pc, .int .i64 r.fw, .int .i64 r.fp, .int .i64 r.wh, .int .i64 r.pl] 73)), y.w.cell? ⟨x.w.heap.size, 1, none⟩ = some (.int .i64 r.rd) := fun y => Since.cell (by simp [go_sem]) (by first | (simp; done) | (simp; omega)) y
  have hb0_2 : ∀ y : Since (x.w.alloc (.cells #[.int .i64 r.id, .int .i64 r.rd, .int .i64 r.s0, .int .i64 r.s1, .int .i64 r.e0, .int .i64 r.e1, .bool r.op, .slice r.la r.legs.length r.lc, .slice r.pa r.pauses.length r.pc, .int .i64 r.fw, .int .i64 r.fp, .int .i64 r.wh, .int .i64 r.pl] 73)), y.w.cell? ⟨x.w.heap.size, 2, none⟩ = some (.int .i64 r.s0) := fun y => Since.cell (by simp [go_sem]) (by first | (simp; done) | (simp; omega)) y
  have hb0_3 : ∀ y : Since (x.w.alloc (.cells #[.int .i64 r.id, .int .i64 r.rd, .int .i64 r.s0, .int .i64 r.s1, .int .i64 r.e0, .int .i64 r.e1, .bool r.op, .slice r.la r.legs.length r.lc, .slice r.pa r.pauses.length r.pc, .int .i64 r.fw, .int .i64 r.fp, .int .i64 r.wh, .int .i64 r.pl] 73)), y.w.cell? ⟨x.w.heap.size, 3, none⟩ = some (.int .i64 r.s1) := fun y => Since.cell (by simp [go_sem]) (by first | (simp; done) | (simp; omega)) y
  have hb0_4 : ∀ y : Since (x.w.alloc (.cells #[.int .i64 r.id, .int .i64 r.rd, .int .i64 r.s0, .int .i64 r.s1, .int .i64 r.e0, .int .i64 r.e1, .bool r.op, .slice r.la r.legs.length r.lc, .slice r.pa r.pauses.length r.pc, .int .i64 r.fw, .int .i64 r.fp, .int .i64 r.wh, .int .i64 r.pl] 73)), y.w.cell? ⟨x.w.heap.size, 4, none⟩ = some (.int .i64 r.e0) := fun y => Since.cell (by simp [go_sem]) (by first | (simp; done) | (simp; omega)) y
  have hb0_5 : ∀ y : Since (x.w.alloc (.cells #[.int .i64 r.id, .int .i64 r.rd, .int .i64 r.s0, .int .i64 r.s1, .int .i64 r.e0, .int .i64 r.e1, .bool r.op, .slice r.la r.legs.length r.lc, .slice r.pa r.pauses.length r.pc, .int .i64 r.fw, .int .i64 r.fp, .int .i64 r.wh, .int .i64 r.pl] 73)), y.w.cell? ⟨x.w.heap.size, 5, none⟩ = some (.int .i64 r.e1) := fun y => Since.cell (by simp [go_sem]) (by first | (simp; done) | (simp; omega)) y
  have hb0_6 : ∀ y : Since (x.w.alloc (.cells #[.int .i64 r.id, .int .i64 r.rd, .int .i64 r.s0, .int .i64 r.s1, .int .i64 r.e0, .int .i64 r.e1, .bool r.op, .slice r.la r.legs.length r.lc, .slice r.pa r.pauses.length r.pc, .int .i64 r.fw, .int .i64 r.fp, .int .i64 r.wh, .int .i64 r.pl] 73)), y.w.cell? ⟨x.w.heap.size, 6, none⟩ = some (.bool r.op) := fun y => Since.cell (by simp [go_sem]) (by first | (simp; done) | (simp; omega)) y
  have hb0_7 : ∀ y : Since (x.w.alloc (.cells #[.int .i64 r.id, .int .i64 r.rd, .int .i64 r.s0, .int .i64 r.s1, .int .i64 r.e0, .int .i64 r.e1, .bool r.op, .slice r.la r.legs.length r.lc, .slice r.pa r.pauses.length r.pc, .int .i64 r.fw, .int .i64 r.fp, .int .i64 r.wh, .int .i64 r.pl] 73)), y.w.cell? ⟨x.w.heap.size, 7, none⟩ = some (.slice r.la r.legs.length r.lc) := fun y => Since.cell (by simp [go_sem]) (by first | (simp; done) | (simp; omega)) y
  have hb0_8 : ∀ y : Since (x.w.alloc (.cells #[.int .i64 r.id, .int .i64 r.rd, .int .i64 r.s0, .int .i64 r.s1, .int .i64 r.e0, .int .i64 r.e1, .bool r.op, .slice r.la r.legs.length r.lc, .slice r.pa r.pauses.length r.pc, .int .i64 r.fw, .int .i64 r.fp, .int .i64 r.wh, .int .i64 r.pl] 73)), y.w.cell? ⟨x.w.heap.size, 8, none⟩ = some (.slice r.pa r.pauses.length r.pc) := fun y => Since.cell (by simp [go_sem]) (by first | (simp; done) | (simp; omega)) y
  have hb0_9 : ∀ y : Since (x.w.alloc (.cells #[.int .i64 r.id, .int .i64 r.rd, .int .i64 r.s0, .int .i64 r.s1, .int .i64 r.e0, .int .i64 r.e1, .bool r.op, .slice r.la r.legs.length r.lc, .slice r.pa r.pauses.length r.pc, .int .i64 r.fw, .int .i64 r.fp, .int .i64 r.wh, .int .i64 r.pl] 73)), y.w.cell? ⟨x.w.heap.size, 9, none⟩ = some (.int .i64 r.fw) := fun y => Since.cell (by simp [go_sem]) (by first | (simp; done) | (simp; omega)) y
  have hb0_10 : ∀ y : Since (x.w.alloc (.cells #[.int .i64 r.id, .int .i64 r.rd, .int .i64 r.s0, .int .i64 r.s1, .int .i64 r.e0, .int .i64 r.e1, .bool r.op, .slice r.la r.legs.length r.lc, .slice r.pa r.pauses.length r.pc, .int .i64 r.fw, .int .i64 r.fp, .int .i64 r.wh, .int .i64 r.pl] 73)), y.w.cell? ⟨x.w.heap.size, 10, none⟩ = some (.int .i64 r.fp) := fun y => Since.cell (by simp [go_sem]) (by first | (simp; done) | (simp; omega)) y
  have hb0_11 : ∀ y : Since (x.w.alloc (.cells #[.int .i64 r.id, .int .i64 r.rd, .int .i64 r.s0, .int .i64 r.s1, .int .i64 r.e0, .int .i64 r.e1, .bool r.op, .slice r.la r.legs.length r.lc, .slice r.pa r.pauses.length r.pc, .int .i64 r.fw, .int .i64 r.fp, .int .i64 r.wh, .int .i64 r.pl] 73)), y.w.cell? ⟨x.w.heap.size, 11, none⟩ = some (.int .i64 r.wh) := fun y => Since.cell (by simp [go_sem]) (by first | (simp; done) | (simp; omega)) y
  have hb0_12 : ∀ y : Since (x.w.alloc (.cells #[.int .i64 r.id, .int .i64 r.rd, .int .i64 r.s0, .int .i64 r.s1, .int .i64 r.e0, .int .i64 r.e1, .bool r.op, .slice r.la r.legs.length r.lc, .slice r.pa r.pauses.length r.pc, .int .i64 r.fw, .int .i64 r.fp, .int .i64 r.wh, .int .i64 r.pl] 73)), y.w.cell? ⟨x.w.heap.size, 12, none⟩ = some (.int .i64 r.pl) := fun y => Since.cell (by simp [go_sem]) (by first | (simp; done) | (simp; omega)) y
  have hf0 : ∀ (y : Since (x.w.alloc (.cells #[.int .i64 r.id, .int .i64 r.rd, .int .i64 r.s0, .int .i64 r.s1, .int .i64 r.e0, .int .i64 r.e1, .bool r.op, .slice r.la r.legs.length r.lc, .slice r.pa r.pauses.length r.pc, .int .i64 r.fw, .int .i64 r.fp, .int .i64 r.wh, .int .i64 r.pl] 73))) (o : Nat), y.w.frozen? ⟨x.w.heap.size, o, none⟩ = false := fun y o => Since.free (by simp [go_sem]) (by first | (simp; done) | (simp; omega)) y
  have hWup : ∃ z : Since w, (x.w.alloc (.cells #[.int .i64 r.id, .int .i64 r.rd, .int .i64 r.s0, .int .i64 r.s1, .int .i64 r.e0, .int .i64 r.e1, .bool r.op, .slice r.la r.legs.length r.lc, .slice r.pa r.pauses.length r.pc, .int .i64 r.fw, .int .i64 r.fp, .int .i64 r.wh, .int .i64 r.pl] 73)) = z.w := x.alloc _
  obtain ⟨y0, hy0⟩ := Since.refl (x.w.alloc (.cells #[.int .i64 r.id, .int .i64 r.rd, .int .i64 r.s0, .int .i64 r.s1, .int .i64 r.e0, .int .i64 r.e1, .bool r.op, .slice r.la r.legs.length r.lc, .slice r.pa r.pauses.length r.pc, .int .i64 r.fw, .int .i64 r.fp, .int .i64 r.wh, .int .i64 r.pl] 73))
  have Hbx := Lib.hid (And.intro x.b.size (show x.w.heap.size + 1 = (x.w.alloc (.cells #[.int .i64 r.id, .int .i64 r.rd, .int .i64 r.s0, .int .i64 r.s1, .int .i64 r.e0, .int .i64 r.e1, .bool r.op, .slice r.la r.legs.length r.lc, .slice r.pa r.pauses.length r.pc, .int .i64 r.fw, .int .i64 r.fp, .int .i64 r.wh, .int .i64 r.pl] 73)).heap.size from by simp))
  generalize hW : (x.w.alloc (.cells #[.int .i64 r.id, .int .i64 r.rd, .int .i64 r.s0, .int .i64 r.s1, .int .i64 r.e0, .int .i64 r.e1, .bool r.op, .slice r.la r.legs.length r.lc, .slice r.pa r.pauses.length r.pc, .int .i64 r.fw, .int .i64 r.fp, .int .i64 r.wh, .int .i64 r.pl] 73)) = W at *
  clear hW
  generalize x.w.heap.size = bx at *
  have Hup := Lib.hid (Since.up hWup)
  rw [hy0]
  clear hy0
  replace H := Lib.hid (H.out.to hWup)
  clear hWup
  have Hra := Lib.hid (fun y : Since W => ranged_calls W y r H.out)
  have Hjo := Lib.hid (fun y : Since W => joined_calls W y r H.out)
  have Hor := Lib.hid (fun y : Since W => ordered_calls W y r H.out)
  have hgd := span_guard
  have heq := span_equal r.e0 r.e1 0 0
  have HE := Lib.hid (show rideE r = if rangedB r = false then 1 else if joinedB r = false then 3 else if orderedB r = false then 9 else if stateB r = true then 12 else 0 from rfl)
  have Hst := Lib.hid (show stateB r = ((r.op && !(decide (r.e0 = 0) && decide (r.e1 = 0))) || (r.op != decide (r.wh = 3))) from rfl)
  generalize stateB r = sb at *
  generalize rangedB r = rb at *
  generalize joinedB r = jb at *
  generalize orderedB r = ob at *
  cases rb with
  | false =>
    go_wp2_with (go_at_call 80; ((with_reducible refine (Hra.out _).mono ?_); rintro _ _ ⟨rfl, y1, rfl⟩))
    go_ret
    exact ⟨ret_int (by rw [HE.out]; rfl), Hup.out _⟩
  | true =>
    cases jb with
    | false =>
      go_wp2_with (first | (go_at_call 80; ((with_reducible refine (Hra.out _).mono ?_); rintro _ _ ⟨rfl, y1, rfl⟩)) | (go_at_call 81; ((with_reducible refine (Hjo.out _).mono ?_); rintro _ _ ⟨rfl, y2, rfl⟩)))
      go_ret
      exact ⟨ret_int (by rw [HE.out]; rfl), Hup.out _⟩
    | true =>
      cases ob with
      | false =>
        go_wp2_with (first | (go_at_call 80; ((with_reducible refine (Hra.out _).mono ?_); rintro _ _ ⟨rfl, y1, rfl⟩)) | (go_at_call 81; ((with_reducible refine (Hjo.out _).mono ?_); rintro _ _ ⟨rfl, y2, rfl⟩)) | (go_at_call 82; ((with_reducible refine (Hor.out _).mono ?_); rintro _ _ ⟨rfl, y3, rfl⟩)))
        go_ret
        exact ⟨ret_int (by rw [HE.out]; rfl), Hup.out _⟩
      | true =>
        go_upto_region 7 with (first | (go_at_call 80; ((with_reducible refine (Hra.out _).mono ?_); rintro _ _ ⟨rfl, y1, rfl⟩)) | (go_at_call 81; ((with_reducible refine (Hjo.out _).mono ?_); rintro _ _ ⟨rfl, y2, rfl⟩)) | (go_at_call 82; ((with_reducible refine (Hor.out _).mono ?_); rintro _ _ ⟨rfl, y3, rfl⟩)))
        clear Hra Hjo Hor
        cases hz : (decide (r.e0 = 0) && decide (r.e1 = 0)) with
        | false =>
          rw [hz] at heq Hst
          clear hz
          by_cases hw : r.wh = 3
          · have hwb : (r.wh == 3) = true := by simpa using hw
            rw [decide_eq_true hw] at Hst
            clear hw
            cases hop : r.op with
            | false =>
              rw [hop] at Hst
              go_wp2_with fail
              go_ret
              exact ⟨ret_int (by rw [HE.out, Hst.out]; rfl), Hup.out _⟩
            | true =>
              rw [hop] at Hst
              go_wp2_with fail
              go_ret
              exact ⟨ret_int (by rw [HE.out, Hst.out]; rfl), Hup.out _⟩
          · have hwb : (r.wh == 3) = false := by simpa using hw
            rw [decide_eq_false hw] at Hst
            clear hw
            cases hop : r.op with
            | false =>
              rw [hop] at Hst
              go_wp2_with fail
              go_ret
              exact ⟨ret_int (by rw [HE.out, Hst.out]; rfl), Hup.out _⟩
            | true =>
              rw [hop] at Hst
              go_wp2_with fail
              go_ret
              exact ⟨ret_int (by rw [HE.out, Hst.out]; rfl), Hup.out _⟩
        | true =>
          rw [hz] at heq Hst
          clear hz
          by_cases hw : r.wh = 3
          · have hwb : (r.wh == 3) = true := by simpa using hw
            rw [decide_eq_true hw] at Hst
            clear hw
            cases hop : r.op with
            | false =>
              rw [hop] at Hst
              go_wp2_with fail
              go_ret
              exact ⟨ret_int (by rw [HE.out, Hst.out]; rfl), Hup.out _⟩
            | true =>
              rw [hop] at Hst
              go_wp2_with fail
              go_ret
              exact ⟨ret_int (by rw [HE.out, Hst.out]; rfl), Hup.out _⟩
          · have hwb : (r.wh == 3) = false := by simpa using hw
            rw [decide_eq_false hw] at Hst
            clear hw
            cases hop : r.op with
            | false =>
              rw [hop] at Hst
              go_wp2_with fail
              go_ret
              exact ⟨ret_int (by rw [HE.out, Hst.out]; rfl), Hup.out _⟩
            | true =>
              rw [hop] at Hst
              go_wp2_with fail
              go_ret
              exact ⟨ret_int (by rw [HE.out, Hst.out]; rfl), Hup.out _⟩
end Go.Proofs.YtdkcclngionihaaDoor
/- The walks of the reference's check of a ride, sixth part: the check; short lists of rides. -/
namespace Go.Proofs.YtdkcclngionihaaDoor
open Go.RowKit

set_option maxRecDepth 100000 in
set_option maxHeartbeats 8000000 in
theorem rcheck_calls (w : World) (x : Since w) (r : Ride) (h : r.At w) :
    Calls Tryd.prog 112 #[.agg #[.int .i64 r.id, .int .i64 r.rd, .int .i64 r.s0, .int .i64 r.s1, .int .i64 r.e0, .int .i64 r.e1, .bool r.op, .slice r.la r.legs.length r.lc, .slice r.pa r.pauses.length r.pc, .int .i64 r.fw, .int .i64 r.fp, .int .i64 r.wh, .int .i64 r.pl]] x.w fun o w' => o = .returned (.int .i64 (rideE r)) ∧ ∃ y : Since w, w' = y.w := by
  have H := Lib.hid h
  clear h
  go_enter Tryd.func112, Tryd.ntmps112
  go_upto_region 1 with fail
  have hb0_0 : ∀ y : Since (x.w.alloc (.cells #[.int .i64 r.id, .int .i64 r.rd, .int .i64 r.s0, .int .i64 r.s1, .int .i64 r.e0, .int .i64 r.e1, .bool r.op, .slice r.la r.legs.length r.lc, .slice r.pa r.pauses.length r.pc, .int .i64 r.fw, .int .i64 r.fp, .int .i64 r.wh, .int .i64 r.pl] 73)), y.w.cell? ⟨x.w.heap.size, 0, none⟩ = some (.int .i64 r.id) := fun y => Since.cell (by simp [go_sem]) (by first | (simp; done) | (simp; omega)) y
  have hb0_1 : ∀ y : Since (x.w.alloc (.cells #[.int .i64 r.id, .int .i64 r.rd, .int .i64 r.s0, .int .i64 r.s1, .int .i64 r.e0, .int .i64 r.e1, .bool r.op, .slice r.la r.legs.length r.lc, .slice r.pa r.pauses.length r.pc, .int .i64 r.fw, .int .i64 r.fp, .int .i64 r.wh, .int .i64 r.pl] 73)), y.w.cell? ⟨x.w.heap.size, 1, none⟩ = some (.int .i64 r.rd) := fun y => Since.cell (by simp [go_sem]) (by first | (simp; done) | (simp; omega)) y
  have hb0_2 : ∀ y : Since (x.w.alloc (.cells #[.int .i64 r.id, .int .i64 r.rd, .int .i64 r.s0, .int .i64 r.s1, .int .i64 r.e0, .int .i64 r.e1, .bool r.op, .slice r.la r.legs.length r.lc, .slice r.pa r.pauses.length r.pc, .int .i64 r.fw, .int .i64 r.fp, .int .i64 r.wh, .int .i64 r.pl] 73)), y.w.cell? ⟨x.w.heap.size, 2, none⟩ = some (.int .i64 r.s0) := fun y => Since.cell (by simp [go_sem]) (by first | (simp; done) | (simp; omega)) y
  have hb0_3 : ∀ y : Since (x.w.alloc (.cells #[.int .i64 r.id, .int .i64 r.rd, .int .i64 r.s0, .int .i64 r.s1, .int .i64 r.e0, .int .i64 r.e1, .bool r.op, .slice r.la r.legs.length r.lc, .slice r.pa r.pauses.length r.pc, .int .i64 r.fw, .int .i64 r.fp, .int .i64 r.wh, .int .i64 r.pl] 73)), y.w.cell? ⟨x.w.heap.size, 3, none⟩ = some (.int .i64 r.s1) := fun y => Since.cell (by simp [go_sem]) (by first | (simp; done) | (simp; omega)) y
  have hb0_4 : ∀ y : Since (x.w.alloc (.cells #[.int .i64 r.id, .int .i64 r.rd, .int .i64 r.s0, .int .i64 r.s1, .int .i64 r.e0, .int .i64 r.e1, .bool r.op, .slice r.la r.legs.length r.lc, .slice r.pa r.pauses.length r.pc, .int .i64 r.fw, .int .i64 r.fp, .int .i64 r.wh, .int .i64 r.pl] 73)), y.w.cell? ⟨x.w.heap.size, 4, none⟩ = some (.int .i64 r.e0) := fun y => Since.cell (by simp [go_sem]) (by first | (simp; done) | (simp; omega)) y
  have hb0_5 : ∀ y : Since (x.w.alloc (.cells #[.int .i64 r.id, .int .i64 r.rd, .int .i64 r.s0, .int .i64 r.s1, .int .i64 r.e0, .int .i64 r.e1, .bool r.op, .slice r.la r.legs.length r.lc, .slice r.pa r.pauses.length r.pc, .int .i64 r.fw, .int .i64 r.fp, .int .i64 r.wh, .int .i64 r.pl] 73)), y.w.cell? ⟨x.w.heap.size, 5, none⟩ = some (.int .i64 r.e1) := fun y => Since.cell (by simp [go_sem]) (by first | (simp; done) | (simp; omega)) y
  have hb0_6 : ∀ y : Since (x.w.alloc (.cells #[.int .i64 r.id, .int .i64 r.rd, .int .i64 r.s0, .int .i64 r.s1, .int .i64 r.e0, .int .i64 r.e1, .bool r.op, .slice r.la r.legs.length r.lc, .slice r.pa r.pauses.length r.pc, .int .i64 r.fw, .int .i64 r.fp, .int .i64 r.wh, .int .i64 r.pl] 73)), y.w.cell? ⟨x.w.heap.size, 6, none⟩ = some (.bool r.op) := fun y => Since.cell (by simp [go_sem]) (by first | (simp; done) | (simp; omega)) y
  have hb0_7 : ∀ y : Since (x.w.alloc (.cells #[.int .i64 r.id, .int .i64 r.rd, .int .i64 r.s0, .int .i64 r.s1, .int .i64 r.e0, .int .i64 r.e1, .bool r.op, .slice r.la r.legs.length r.lc, .slice r.pa r.pauses.length r.pc, .int .i64 r.fw, .int .i64 r.fp, .int .i64 r.wh, .int .i64 r.pl] 73)), y.w.cell? ⟨x.w.heap.size, 7, none⟩ = some (.slice r.la r.legs.length r.lc) := fun y => Since.cell (by simp [go_sem]) (by first | (simp; done) | (simp; omega)) y
  have hb0_8 : ∀ y : Since (x.w.alloc (.cells #[.int .i64 r.id, .int .i64 r.rd, .int .i64 r.s0, .int .i64 r.s1, .int .i64 r.e0, .int .i64 r.e1, .bool r.op, .slice r.la r.legs.length r.lc, .slice r.pa r.pauses.length r.pc, .int .i64 r.fw, .int .i64 r.fp, .int .i64 r.wh, .int .i64 r.pl] 73)), y.w.cell? ⟨x.w.heap.size, 8, none⟩ = some (.slice r.pa r.pauses.length r.pc) := fun y => Since.cell (by simp [go_sem]) (by first | (simp; done) | (simp; omega)) y
  have hb0_9 : ∀ y : Since (x.w.alloc (.cells #[.int .i64 r.id, .int .i64 r.rd, .int .i64 r.s0, .int .i64 r.s1, .int .i64 r.e0, .int .i64 r.e1, .bool r.op, .slice r.la r.legs.length r.lc, .slice r.pa r.pauses.length r.pc, .int .i64 r.fw, .int .i64 r.fp, .int .i64 r.wh, .int .i64 r.pl] 73)), y.w.cell? ⟨x.w.heap.size, 9, none⟩ = some (.int .i64 r.fw) := fun y => Since.cell (by simp [go_sem]) (by first | (simp; done) | (simp; omega)) y
  have hb0_10 : ∀ y : Since (x.w.alloc (.cells #[.int .i64 r.id, .int .i64 r.rd, .int .i64 r.s0, .int .i64 r.s1, .int .i64 r.e0, .int .i64 r.e1, .bool r.op, .slice r.la r.legs.length r.lc, .slice r.pa r.pauses.length r.pc, .int .i64 r.fw, .int .i64 r.fp, .int .i64 r.wh, .int .i64 r.pl] 73)), y.w.cell? ⟨x.w.heap.size, 10, none⟩ = some (.int .i64 r.fp) := fun y => Since.cell (by simp [go_sem]) (by first | (simp; done) | (simp; omega)) y
  have hb0_11 : ∀ y : Since (x.w.alloc (.cells #[.int .i64 r.id, .int .i64 r.rd, .int .i64 r.s0, .int .i64 r.s1, .int .i64 r.e0, .int .i64 r.e1, .bool r.op, .slice r.la r.legs.length r.lc, .slice r.pa r.pauses.length r.pc, .int .i64 r.fw, .int .i64 r.fp, .int .i64 r.wh, .int .i64 r.pl] 73)), y.w.cell? ⟨x.w.heap.size, 11, none⟩ = some (.int .i64 r.wh) := fun y => Since.cell (by simp [go_sem]) (by first | (simp; done) | (simp; omega)) y
  have hb0_12 : ∀ y : Since (x.w.alloc (.cells #[.int .i64 r.id, .int .i64 r.rd, .int .i64 r.s0, .int .i64 r.s1, .int .i64 r.e0, .int .i64 r.e1, .bool r.op, .slice r.la r.legs.length r.lc, .slice r.pa r.pauses.length r.pc, .int .i64 r.fw, .int .i64 r.fp, .int .i64 r.wh, .int .i64 r.pl] 73)), y.w.cell? ⟨x.w.heap.size, 12, none⟩ = some (.int .i64 r.pl) := fun y => Since.cell (by simp [go_sem]) (by first | (simp; done) | (simp; omega)) y
  have hf0 : ∀ (y : Since (x.w.alloc (.cells #[.int .i64 r.id, .int .i64 r.rd, .int .i64 r.s0, .int .i64 r.s1, .int .i64 r.e0, .int .i64 r.e1, .bool r.op, .slice r.la r.legs.length r.lc, .slice r.pa r.pauses.length r.pc, .int .i64 r.fw, .int .i64 r.fp, .int .i64 r.wh, .int .i64 r.pl] 73))) (o : Nat), y.w.frozen? ⟨x.w.heap.size, o, none⟩ = false := fun y o => Since.free (by simp [go_sem]) (by first | (simp; done) | (simp; omega)) y
  have hWup : ∃ z : Since w, (x.w.alloc (.cells #[.int .i64 r.id, .int .i64 r.rd, .int .i64 r.s0, .int .i64 r.s1, .int .i64 r.e0, .int .i64 r.e1, .bool r.op, .slice r.la r.legs.length r.lc, .slice r.pa r.pauses.length r.pc, .int .i64 r.fw, .int .i64 r.fp, .int .i64 r.wh, .int .i64 r.pl] 73)) = z.w := x.alloc _
  obtain ⟨y0, hy0⟩ := Since.refl (x.w.alloc (.cells #[.int .i64 r.id, .int .i64 r.rd, .int .i64 r.s0, .int .i64 r.s1, .int .i64 r.e0, .int .i64 r.e1, .bool r.op, .slice r.la r.legs.length r.lc, .slice r.pa r.pauses.length r.pc, .int .i64 r.fw, .int .i64 r.fp, .int .i64 r.wh, .int .i64 r.pl] 73))
  have Hbx := Lib.hid (And.intro x.b.size (show x.w.heap.size + 1 = (x.w.alloc (.cells #[.int .i64 r.id, .int .i64 r.rd, .int .i64 r.s0, .int .i64 r.s1, .int .i64 r.e0, .int .i64 r.e1, .bool r.op, .slice r.la r.legs.length r.lc, .slice r.pa r.pauses.length r.pc, .int .i64 r.fw, .int .i64 r.fp, .int .i64 r.wh, .int .i64 r.pl] 73)).heap.size from by simp))
  generalize hW : (x.w.alloc (.cells #[.int .i64 r.id, .int .i64 r.rd, .int .i64 r.s0, .int .i64 r.s1, .int .i64 r.e0, .int .i64 r.e1, .bool r.op, .slice r.la r.legs.length r.lc, .slice r.pa r.pauses.length r.pc, .int .i64 r.fw, .int .i64 r.fp, .int .i64 r.wh, .int .i64 r.pl] 73)) = W at *
  clear hW
  generalize x.w.heap.size = bx at *
  have Hup := Lib.hid (Since.up hWup)
  rw [hy0]
  clear hy0
  replace H := Lib.hid (H.out.to hWup)
  clear hWup
  have Hra := Lib.hid (fun y : Since W => rranged_calls W y r H.out)
  have Hjo := Lib.hid (fun y : Since W => rjoined_calls W y r H.out)
  have Hor := Lib.hid (fun (hj : joinedB r = true) (y : Since W) => rordered_calls W y r H.out (by unfold joinedB at hj; simp only [Bool.and_eq_true, decide_eq_true_eq] at hj; omega))
  have hgd := span_guard
  have heq := span_equal r.e0 r.e1 0 0
  have HE := Lib.hid (show rideE r = if rangedB r = false then 1 else if joinedB r = false then 3 else if orderedB r = false then 9 else if stateB r = true then 12 else 0 from rfl)
  have Hst := Lib.hid (show stateB r = ((r.op && !(decide (r.e0 = 0) && decide (r.e1 = 0))) || (r.op != decide (r.wh = 3))) from rfl)
  generalize stateB r = sb at *
  generalize rangedB r = rb at *
  generalize joinedB r = jb at *
  generalize orderedB r = ob at *
  cases rb with
  | false =>
    go_wp2_with (go_at_call 122; ((with_reducible refine (Hra.out _).mono ?_); rintro _ _ ⟨rfl, y1, rfl⟩))
    go_ret
    exact ⟨ret_int (by rw [HE.out]; rfl), Hup.out _⟩
  | true =>
    cases jb with
    | false =>
      go_wp2_with (first | (go_at_call 122; ((with_reducible refine (Hra.out _).mono ?_); rintro _ _ ⟨rfl, y1, rfl⟩)) | (go_at_call 123; ((with_reducible refine (Hjo.out _).mono ?_); rintro _ _ ⟨rfl, y2, rfl⟩)))
      go_ret
      exact ⟨ret_int (by rw [HE.out]; rfl), Hup.out _⟩
    | true =>
      cases ob with
      | false =>
        go_wp2_with (first | (go_at_call 122; ((with_reducible refine (Hra.out _).mono ?_); rintro _ _ ⟨rfl, y1, rfl⟩)) | (go_at_call 123; ((with_reducible refine (Hjo.out _).mono ?_); rintro _ _ ⟨rfl, y2, rfl⟩)) | (go_at_call 124; ((with_reducible refine (Hor.out (by trivial) _).mono ?_); rintro _ _ ⟨rfl, y3, rfl⟩)))
        go_ret
        exact ⟨ret_int (by rw [HE.out]; rfl), Hup.out _⟩
      | true =>
        go_upto_region 7 with (first | (go_at_call 122; ((with_reducible refine (Hra.out _).mono ?_); rintro _ _ ⟨rfl, y1, rfl⟩)) | (go_at_call 123; ((with_reducible refine (Hjo.out _).mono ?_); rintro _ _ ⟨rfl, y2, rfl⟩)) | (go_at_call 124; ((with_reducible refine (Hor.out (by trivial) _).mono ?_); rintro _ _ ⟨rfl, y3, rfl⟩)))
        clear Hra Hjo Hor
        cases hz : (decide (r.e0 = 0) && decide (r.e1 = 0)) with
        | false =>
          rw [hz] at heq Hst
          clear hz
          by_cases hw : r.wh = 3
          · have hwb : (r.wh == 3) = true := by simpa using hw
            rw [decide_eq_true hw] at Hst
            clear hw
            cases hop : r.op with
            | false =>
              rw [hop] at Hst
              go_wp2_with fail
              go_ret
              exact ⟨ret_int (by rw [HE.out, Hst.out]; rfl), Hup.out _⟩
            | true =>
              rw [hop] at Hst
              go_wp2_with fail
              go_ret
              exact ⟨ret_int (by rw [HE.out, Hst.out]; rfl), Hup.out _⟩
          · have hwb : (r.wh == 3) = false := by simpa using hw
            rw [decide_eq_false hw] at Hst
            clear hw
            cases hop : r.op with
            | false =>
              rw [hop] at Hst
              go_wp2_with fail
              go_ret
              exact ⟨ret_int (by rw [HE.out, Hst.out]; rfl), Hup.out _⟩
            | true =>
              rw [hop] at Hst
              go_wp2_with fail
              go_ret
              exact ⟨ret_int (by rw [HE.out, Hst.out]; rfl), Hup.out _⟩
        | true =>
          rw [hz] at heq Hst
          clear hz
          by_cases hw : r.wh = 3
          · have hwb : (r.wh == 3) = true := by simpa using hw
            rw [decide_eq_true hw] at Hst
            clear hw
            cases hop : r.op with
            | false =>
              rw [hop] at Hst
              go_wp2_with fail
              go_ret
              exact ⟨ret_int (by rw [HE.out, Hst.out]; rfl), Hup.out _⟩
            | true =>
              rw [hop] at Hst
              go_wp2_with fail
              go_ret
              exact ⟨ret_int (by rw [HE.out, Hst.out]; rfl), Hup.out _⟩
          · have hwb : (r.wh == 3) = false := by simpa using hw
            rw [decide_eq_false hw] at Hst
            clear hw
            cases hop : r.op with
            | false =>
              rw [hop] at Hst
              go_wp2_with fail
              go_ret
              exact ⟨ret_int (by rw [HE.out, Hst.out]; rfl), Hup.out _⟩
            | true =>
              rw [hop] at Hst
              go_wp2_with fail
              go_ret
              exact ⟨ret_int (by rw [HE.out, Hst.out]; rfl), Hup.out _⟩
end Go.Proofs.YtdkcclngionihaaDoor
/- The plain mathematics of noise: weights, their sums, the value of a number, the excess, made weights: no program in sight. -/
namespace Go.Proofs.YtdkcclngionihaaDoor

def okAt (l : List Int) (i : Nat) : Prop := 1 ≤ at0 l i ∧ at0 l i ≤ 16777216 ∧ (0 < i → at0 l i ≤ at0 l (i-1))
def Good (l : List Int) : Prop := 1 ≤ l.length ∧ l.length ≤ 33 ∧ ∀ i, i < l.length → okAt l i
noncomputable def check (l : List Int) : Int := open Classical in if Good l then 0 else 32
theorem check_good {l : List Int} (h : Good l) : check l = 0 := by unfold check; simp [h]
theorem check_bad {l : List Int} (h : ¬ Good l) : check l = 32 := by unfold check; simp [h]
/-- the weight of v -/
def wt (l : List Int) (v : Int) : Int := if v.natAbs < l.length then at0 l v.natAbs else 0
noncomputable def weight (l : List Int) (v : Int) : Int := open Classical in if Good l then wt l v else 0
theorem weight_good {l : List Int} (h : Good l) (v : Int) : weight l v = wt l v := by unfold weight; simp [h]
theorem weight_bad {l : List Int} (h : ¬ Good l) (v : Int) : weight l v = 0 := by unfold weight; simp [h]
theorem wt_in {l : List Int} {v : Int} (h : v.natAbs < l.length) : wt l v = at0 l v.natAbs := by unfold wt; rw [if_pos h]
theorem wt_out {l : List Int} {v : Int} (h : l.length ≤ v.natAbs) : wt l v = 0 := by unfold wt; rw [if_neg (by omega)]
theorem wt_bd {l : List Int} (h : Good l) (v : Int) : 0 ≤ wt l v ∧ wt l v ≤ 16777216 := by
  unfold wt; split
  · rename_i hv; have := h.2.2 _ hv; unfold okAt at this; omega
  · omega

/-- the sum of f at 0 to n - 1 -/
def sumN (f : Nat → Int) : Nat → Int | 0 => 0 | n + 1 => sumN f n + f n
theorem sumN_succ (f : Nat → Int) (n : Nat) : sumN f (n + 1) = sumN f n + f n := rfl
theorem sumN_add (f : Nat → Int) (n m : Nat) : sumN f (n + m) = sumN f n + sumN (fun i => f (n + i)) m := by
  induction m with
  | zero => simp [sumN]
  | succ m ih => rw [← Nat.add_assoc, sumN_succ, sumN_succ, ih]; omega
theorem sumN_nonneg {f : Nat → Int} {n : Nat} (h : ∀ i, i < n → 0 ≤ f i) : 0 ≤ sumN f n := by
  induction n with
  | zero => exact Int.le_refl _
  | succ n ih => rw [sumN_succ]; have := ih (fun i hi => h i (by omega)); have := h n (by omega); omega
theorem sumN_mono {f : Nat → Int} (h : ∀ i, 0 ≤ f i) {n m : Nat} (hnm : n ≤ m) : sumN f n ≤ sumN f m := by
  obtain ⟨k, rfl⟩ : ∃ k, m = n + k := ⟨m - n, by omega⟩
  rw [sumN_add]; have := sumN_nonneg (f := fun i => f (n + i)) (n := k) (fun i _ => h _); omega

/-- the sum of the weights of the values from -32 to j - 33 -/
def pre (l : List Int) (j : Nat) : Int := sumN (fun i => wt l ((i : Int) - 32)) j
theorem pre_succ (l : List Int) (j : Nat) : pre l (j + 1) = pre l j + wt l ((j : Int) - 32) := rfl
def total (l : List Int) : Int := pre l 65
theorem pre_mono {l : List Int} (h : Good l) {i j : Nat} (hij : i ≤ j) : pre l i ≤ pre l j := sumN_mono (fun _ => (wt_bd h _).1) hij
/-- x belongs to v -/
def IsAt (l : List Int) (x v : Int) : Prop := ∃ j : Nat, j < 65 ∧ v = (j : Int) - 32 ∧ pre l j ≤ x ∧ x < pre l (j + 1)
theorem IsAt.unique {l : List Int} (h : Good l) {x v v' : Int} (a : IsAt l x v) (b : IsAt l x v') : v = v' := by
  obtain ⟨j, hj, rfl, h1, h2⟩ := a
  obtain ⟨k, hk, rfl, h3, h4⟩ := b
  rcases Nat.lt_trichotomy j k with hjk | rfl | hjk
  · have := pre_mono h (i := j + 1) (j := k) (by omega); omega
  · rfl
  · have := pre_mono h (i := k + 1) (j := j) (by omega); omega
noncomputable def atV (l : List Int) (x : Int) : Int := open Classical in if h : ∃ v, IsAt l x v then h.choose else 0
theorem IsAt.weight {l : List Int} {x v : Int} (a : IsAt l x v) : 1 ≤ wt l v := by
  obtain ⟨j, _, rfl, h1, h2⟩ := a; rw [pre_succ] at h2; omega
/-- a ratio is right -/
def Right (num den : Int) : Prop := 1 ≤ den ∧ den ≤ num ∧ num ≤ 1024
theorem mul_bd {a b A B : Int} (ha : 0 ≤ a) (ha' : a ≤ A) (hb : 0 ≤ b) (hb' : b ≤ B) : 0 ≤ a * b ∧ a * b ≤ A * B :=
  ⟨Int.mul_nonneg ha hb, Int.mul_le_mul ha' hb' hb (by omega)⟩
/-- weight i of made noise -/
def mk (num den : Int) : Nat → Int | 0 => 16777216 | i + 1 => (mk num den i * den + num - 1) / num
end Go.Proofs.YtdkcclngionihaaDoor
