/- The law IntervalParts, walked. -/
import Derived.Test.YtefodfpnedcodaaIvMe
set_option linter.all false
namespace Go.Proofs.Ytefodfpnedcodaa
open Go.RowKit

set_option maxRecDepth 100000 in
set_option maxHeartbeats 8000000 in
theorem intervalParts_calls (w : World) (x : Since w) (r : Ride) (h : r.At w) :
    Calls Try.prog 6 #[.agg #[.int .i64 r.id, .int .i64 r.rd, .int .i64 r.s0, .int .i64 r.s1, .int .i64 r.e0, .int .i64 r.e1, .bool r.op, .slice r.la r.legs.length r.lc, .slice r.pa r.pauses.length r.pc, .int .i64 r.fw, .int .i64 r.fp, .int .i64 r.wh, .int .i64 r.pl]] x.w fun o w' => o = .returned (.bool true) ∧ ∃ y : Since w, w' = y.w := by
  have H := Lib.hid h
  clear h
  have Hf := Lib.hid (fun (w : World) (x : Since w) (h : r.At w) => few23_calls w x r h)
  have Hfew := Lib.hid (show few23 r = (decide (r.legs.length ≤ 100) && decide (r.pauses.length ≤ 100)) from rfl)
  cases hfw : few23 r with
  | false =>
    rw [hfw] at Hf
    clear hfw
    go_enter Try.func6, Try.ntmps6
    go_upto_region 1 with fail
    have hb0_0 : ∀ y : Since (x.w.alloc (.cells #[.int .i64 r.id, .int .i64 r.rd, .int .i64 r.s0, .int .i64 r.s1, .int .i64 r.e0, .int .i64 r.e1, .bool r.op, .slice r.la r.legs.length r.lc, .slice r.pa r.pauses.length r.pc, .int .i64 r.fw, .int .i64 r.fp, .int .i64 r.wh, .int .i64 r.pl] 27)), y.w.cell? ⟨x.w.heap.size, 0, none⟩ = some (.int .i64 r.id) := fun y => Since.cell (by simp [go_sem]) (by first | (simp; done) | (simp; omega)) y
    have hb0_1 : ∀ y : Since (x.w.alloc (.cells #[.int .i64 r.id, .int .i64 r.rd, .int .i64 r.s0, .int .i64 r.s1, .int .i64 r.e0, .int .i64 r.e1, .bool r.op, .slice r.la r.legs.length r.lc, .slice r.pa r.pauses.length r.pc, .int .i64 r.fw, .int .i64 r.fp, .int .i64 r.wh, .int .i64 r.pl] 27)), y.w.cell? ⟨x.w.heap.size, 1, none⟩ = some (.int .i64 r.rd) := fun y => Since.cell (by simp [go_sem]) (by first | (simp; done) | (simp; omega)) y
    have hb0_2 : ∀ y : Since (x.w.alloc (.cells #[.int .i64 r.id, .int .i64 r.rd, .int .i64 r.s0, .int .i64 r.s1, .int .i64 r.e0, .int .i64 r.e1, .bool r.op, .slice r.la r.legs.length r.lc, .slice r.pa r.pauses.length r.pc, .int .i64 r.fw, .int .i64 r.fp, .int .i64 r.wh, .int .i64 r.pl] 27)), y.w.cell? ⟨x.w.heap.size, 2, none⟩ = some (.int .i64 r.s0) := fun y => Since.cell (by simp [go_sem]) (by first | (simp; done) | (simp; omega)) y
    have hb0_3 : ∀ y : Since (x.w.alloc (.cells #[.int .i64 r.id, .int .i64 r.rd, .int .i64 r.s0, .int .i64 r.s1, .int .i64 r.e0, .int .i64 r.e1, .bool r.op, .slice r.la r.legs.length r.lc, .slice r.pa r.pauses.length r.pc, .int .i64 r.fw, .int .i64 r.fp, .int .i64 r.wh, .int .i64 r.pl] 27)), y.w.cell? ⟨x.w.heap.size, 3, none⟩ = some (.int .i64 r.s1) := fun y => Since.cell (by simp [go_sem]) (by first | (simp; done) | (simp; omega)) y
    have hb0_4 : ∀ y : Since (x.w.alloc (.cells #[.int .i64 r.id, .int .i64 r.rd, .int .i64 r.s0, .int .i64 r.s1, .int .i64 r.e0, .int .i64 r.e1, .bool r.op, .slice r.la r.legs.length r.lc, .slice r.pa r.pauses.length r.pc, .int .i64 r.fw, .int .i64 r.fp, .int .i64 r.wh, .int .i64 r.pl] 27)), y.w.cell? ⟨x.w.heap.size, 4, none⟩ = some (.int .i64 r.e0) := fun y => Since.cell (by simp [go_sem]) (by first | (simp; done) | (simp; omega)) y
    have hb0_5 : ∀ y : Since (x.w.alloc (.cells #[.int .i64 r.id, .int .i64 r.rd, .int .i64 r.s0, .int .i64 r.s1, .int .i64 r.e0, .int .i64 r.e1, .bool r.op, .slice r.la r.legs.length r.lc, .slice r.pa r.pauses.length r.pc, .int .i64 r.fw, .int .i64 r.fp, .int .i64 r.wh, .int .i64 r.pl] 27)), y.w.cell? ⟨x.w.heap.size, 5, none⟩ = some (.int .i64 r.e1) := fun y => Since.cell (by simp [go_sem]) (by first | (simp; done) | (simp; omega)) y
    have hb0_6 : ∀ y : Since (x.w.alloc (.cells #[.int .i64 r.id, .int .i64 r.rd, .int .i64 r.s0, .int .i64 r.s1, .int .i64 r.e0, .int .i64 r.e1, .bool r.op, .slice r.la r.legs.length r.lc, .slice r.pa r.pauses.length r.pc, .int .i64 r.fw, .int .i64 r.fp, .int .i64 r.wh, .int .i64 r.pl] 27)), y.w.cell? ⟨x.w.heap.size, 6, none⟩ = some (.bool r.op) := fun y => Since.cell (by simp [go_sem]) (by first | (simp; done) | (simp; omega)) y
    have hb0_7 : ∀ y : Since (x.w.alloc (.cells #[.int .i64 r.id, .int .i64 r.rd, .int .i64 r.s0, .int .i64 r.s1, .int .i64 r.e0, .int .i64 r.e1, .bool r.op, .slice r.la r.legs.length r.lc, .slice r.pa r.pauses.length r.pc, .int .i64 r.fw, .int .i64 r.fp, .int .i64 r.wh, .int .i64 r.pl] 27)), y.w.cell? ⟨x.w.heap.size, 7, none⟩ = some (.slice r.la r.legs.length r.lc) := fun y => Since.cell (by simp [go_sem]) (by first | (simp; done) | (simp; omega)) y
    have hb0_8 : ∀ y : Since (x.w.alloc (.cells #[.int .i64 r.id, .int .i64 r.rd, .int .i64 r.s0, .int .i64 r.s1, .int .i64 r.e0, .int .i64 r.e1, .bool r.op, .slice r.la r.legs.length r.lc, .slice r.pa r.pauses.length r.pc, .int .i64 r.fw, .int .i64 r.fp, .int .i64 r.wh, .int .i64 r.pl] 27)), y.w.cell? ⟨x.w.heap.size, 8, none⟩ = some (.slice r.pa r.pauses.length r.pc) := fun y => Since.cell (by simp [go_sem]) (by first | (simp; done) | (simp; omega)) y
    have hb0_9 : ∀ y : Since (x.w.alloc (.cells #[.int .i64 r.id, .int .i64 r.rd, .int .i64 r.s0, .int .i64 r.s1, .int .i64 r.e0, .int .i64 r.e1, .bool r.op, .slice r.la r.legs.length r.lc, .slice r.pa r.pauses.length r.pc, .int .i64 r.fw, .int .i64 r.fp, .int .i64 r.wh, .int .i64 r.pl] 27)), y.w.cell? ⟨x.w.heap.size, 9, none⟩ = some (.int .i64 r.fw) := fun y => Since.cell (by simp [go_sem]) (by first | (simp; done) | (simp; omega)) y
    have hb0_10 : ∀ y : Since (x.w.alloc (.cells #[.int .i64 r.id, .int .i64 r.rd, .int .i64 r.s0, .int .i64 r.s1, .int .i64 r.e0, .int .i64 r.e1, .bool r.op, .slice r.la r.legs.length r.lc, .slice r.pa r.pauses.length r.pc, .int .i64 r.fw, .int .i64 r.fp, .int .i64 r.wh, .int .i64 r.pl] 27)), y.w.cell? ⟨x.w.heap.size, 10, none⟩ = some (.int .i64 r.fp) := fun y => Since.cell (by simp [go_sem]) (by first | (simp; done) | (simp; omega)) y
    have hb0_11 : ∀ y : Since (x.w.alloc (.cells #[.int .i64 r.id, .int .i64 r.rd, .int .i64 r.s0, .int .i64 r.s1, .int .i64 r.e0, .int .i64 r.e1, .bool r.op, .slice r.la r.legs.length r.lc, .slice r.pa r.pauses.length r.pc, .int .i64 r.fw, .int .i64 r.fp, .int .i64 r.wh, .int .i64 r.pl] 27)), y.w.cell? ⟨x.w.heap.size, 11, none⟩ = some (.int .i64 r.wh) := fun y => Since.cell (by simp [go_sem]) (by first | (simp; done) | (simp; omega)) y
    have hb0_12 : ∀ y : Since (x.w.alloc (.cells #[.int .i64 r.id, .int .i64 r.rd, .int .i64 r.s0, .int .i64 r.s1, .int .i64 r.e0, .int .i64 r.e1, .bool r.op, .slice r.la r.legs.length r.lc, .slice r.pa r.pauses.length r.pc, .int .i64 r.fw, .int .i64 r.fp, .int .i64 r.wh, .int .i64 r.pl] 27)), y.w.cell? ⟨x.w.heap.size, 12, none⟩ = some (.int .i64 r.pl) := fun y => Since.cell (by simp [go_sem]) (by first | (simp; done) | (simp; omega)) y
    have hf0 : ∀ (y : Since (x.w.alloc (.cells #[.int .i64 r.id, .int .i64 r.rd, .int .i64 r.s0, .int .i64 r.s1, .int .i64 r.e0, .int .i64 r.e1, .bool r.op, .slice r.la r.legs.length r.lc, .slice r.pa r.pauses.length r.pc, .int .i64 r.fw, .int .i64 r.fp, .int .i64 r.wh, .int .i64 r.pl] 27))) (o : Nat), y.w.frozen? ⟨x.w.heap.size, o, none⟩ = false := fun y o => Since.free (by simp [go_sem]) (by first | (simp; done) | (simp; omega)) y
    have hWup : ∃ z : Since w, (x.w.alloc (.cells #[.int .i64 r.id, .int .i64 r.rd, .int .i64 r.s0, .int .i64 r.s1, .int .i64 r.e0, .int .i64 r.e1, .bool r.op, .slice r.la r.legs.length r.lc, .slice r.pa r.pauses.length r.pc, .int .i64 r.fw, .int .i64 r.fp, .int .i64 r.wh, .int .i64 r.pl] 27)) = z.w := x.alloc _
    obtain ⟨y0, hy0⟩ := Since.refl (x.w.alloc (.cells #[.int .i64 r.id, .int .i64 r.rd, .int .i64 r.s0, .int .i64 r.s1, .int .i64 r.e0, .int .i64 r.e1, .bool r.op, .slice r.la r.legs.length r.lc, .slice r.pa r.pauses.length r.pc, .int .i64 r.fw, .int .i64 r.fp, .int .i64 r.wh, .int .i64 r.pl] 27))
    have Hbx := Lib.hid (And.intro x.b.size (show x.w.heap.size + 1 = (x.w.alloc (.cells #[.int .i64 r.id, .int .i64 r.rd, .int .i64 r.s0, .int .i64 r.s1, .int .i64 r.e0, .int .i64 r.e1, .bool r.op, .slice r.la r.legs.length r.lc, .slice r.pa r.pauses.length r.pc, .int .i64 r.fw, .int .i64 r.fp, .int .i64 r.wh, .int .i64 r.pl] 27)).heap.size from by simp))
    generalize hW : (x.w.alloc (.cells #[.int .i64 r.id, .int .i64 r.rd, .int .i64 r.s0, .int .i64 r.s1, .int .i64 r.e0, .int .i64 r.e1, .bool r.op, .slice r.la r.legs.length r.lc, .slice r.pa r.pauses.length r.pc, .int .i64 r.fw, .int .i64 r.fp, .int .i64 r.wh, .int .i64 r.pl] 27)) = W at *
    clear hW
    generalize x.w.heap.size = bx at *
    have Hup := Lib.hid (Since.up hWup)
    rw [hy0]
    clear hy0
    replace H := Lib.hid (H.out.to hWup)
    clear hWup
    go_wp2_with (first | (go_at_call 10; ((with_reducible refine (Hf.out W y0 H.out).mono ?_); rintro _ _ ⟨rfl, y1, rfl⟩)) | (go_at_call 11; ((with_reducible refine (awake_calls W y1).mono ?_); rintro _ _ ⟨rfl, y2, rfl⟩)))
    go_ret
    exact ⟨rfl, Hup.out y2⟩
  | true =>
    rw [hfw] at Hf
    have hpl : r.pauses.length ≤ 100 := by
      rw [Hfew.out, Bool.and_eq_true, decide_eq_true_eq, decide_eq_true_eq] at hfw; exact hfw.2
    clear hfw Hfew
    have hee : (ivE r != ivE r) = false := by simp
    have hee2 : (ivE r == ivE r) = true := by simp
    go_enter Try.func6, Try.ntmps6
    go_upto_region 1 with fail
    have hb0_0 : ∀ y : Since (x.w.alloc (.cells #[.int .i64 r.id, .int .i64 r.rd, .int .i64 r.s0, .int .i64 r.s1, .int .i64 r.e0, .int .i64 r.e1, .bool r.op, .slice r.la r.legs.length r.lc, .slice r.pa r.pauses.length r.pc, .int .i64 r.fw, .int .i64 r.fp, .int .i64 r.wh, .int .i64 r.pl] 27)), y.w.cell? ⟨x.w.heap.size, 0, none⟩ = some (.int .i64 r.id) := fun y => Since.cell (by simp [go_sem]) (by first | (simp; done) | (simp; omega)) y
    have hb0_1 : ∀ y : Since (x.w.alloc (.cells #[.int .i64 r.id, .int .i64 r.rd, .int .i64 r.s0, .int .i64 r.s1, .int .i64 r.e0, .int .i64 r.e1, .bool r.op, .slice r.la r.legs.length r.lc, .slice r.pa r.pauses.length r.pc, .int .i64 r.fw, .int .i64 r.fp, .int .i64 r.wh, .int .i64 r.pl] 27)), y.w.cell? ⟨x.w.heap.size, 1, none⟩ = some (.int .i64 r.rd) := fun y => Since.cell (by simp [go_sem]) (by first | (simp; done) | (simp; omega)) y
    have hb0_2 : ∀ y : Since (x.w.alloc (.cells #[.int .i64 r.id, .int .i64 r.rd, .int .i64 r.s0, .int .i64 r.s1, .int .i64 r.e0, .int .i64 r.e1, .bool r.op, .slice r.la r.legs.length r.lc, .slice r.pa r.pauses.length r.pc, .int .i64 r.fw, .int .i64 r.fp, .int .i64 r.wh, .int .i64 r.pl] 27)), y.w.cell? ⟨x.w.heap.size, 2, none⟩ = some (.int .i64 r.s0) := fun y => Since.cell (by simp [go_sem]) (by first | (simp; done) | (simp; omega)) y
    have hb0_3 : ∀ y : Since (x.w.alloc (.cells #[.int .i64 r.id, .int .i64 r.rd, .int .i64 r.s0, .int .i64 r.s1, .int .i64 r.e0, .int .i64 r.e1, .bool r.op, .slice r.la r.legs.length r.lc, .slice r.pa r.pauses.length r.pc, .int .i64 r.fw, .int .i64 r.fp, .int .i64 r.wh, .int .i64 r.pl] 27)), y.w.cell? ⟨x.w.heap.size, 3, none⟩ = some (.int .i64 r.s1) := fun y => Since.cell (by simp [go_sem]) (by first | (simp; done) | (simp; omega)) y
    have hb0_4 : ∀ y : Since (x.w.alloc (.cells #[.int .i64 r.id, .int .i64 r.rd, .int .i64 r.s0, .int .i64 r.s1, .int .i64 r.e0, .int .i64 r.e1, .bool r.op, .slice r.la r.legs.length r.lc, .slice r.pa r.pauses.length r.pc, .int .i64 r.fw, .int .i64 r.fp, .int .i64 r.wh, .int .i64 r.pl] 27)), y.w.cell? ⟨x.w.heap.size, 4, none⟩ = some (.int .i64 r.e0) := fun y => Since.cell (by simp [go_sem]) (by first | (simp; done) | (simp; omega)) y
    have hb0_5 : ∀ y : Since (x.w.alloc (.cells #[.int .i64 r.id, .int .i64 r.rd, .int .i64 r.s0, .int .i64 r.s1, .int .i64 r.e0, .int .i64 r.e1, .bool r.op, .slice r.la r.legs.length r.lc, .slice r.pa r.pauses.length r.pc, .int .i64 r.fw, .int .i64 r.fp, .int .i64 r.wh, .int .i64 r.pl] 27)), y.w.cell? ⟨x.w.heap.size, 5, none⟩ = some (.int .i64 r.e1) := fun y => Since.cell (by simp [go_sem]) (by first | (simp; done) | (simp; omega)) y
    have hb0_6 : ∀ y : Since (x.w.alloc (.cells #[.int .i64 r.id, .int .i64 r.rd, .int .i64 r.s0, .int .i64 r.s1, .int .i64 r.e0, .int .i64 r.e1, .bool r.op, .slice r.la r.legs.length r.lc, .slice r.pa r.pauses.length r.pc, .int .i64 r.fw, .int .i64 r.fp, .int .i64 r.wh, .int .i64 r.pl] 27)), y.w.cell? ⟨x.w.heap.size, 6, none⟩ = some (.bool r.op) := fun y => Since.cell (by simp [go_sem]) (by first | (simp; done) | (simp; omega)) y
    have hb0_7 : ∀ y : Since (x.w.alloc (.cells #[.int .i64 r.id, .int .i64 r.rd, .int .i64 r.s0, .int .i64 r.s1, .int .i64 r.e0, .int .i64 r.e1, .bool r.op, .slice r.la r.legs.length r.lc, .slice r.pa r.pauses.length r.pc, .int .i64 r.fw, .int .i64 r.fp, .int .i64 r.wh, .int .i64 r.pl] 27)), y.w.cell? ⟨x.w.heap.size, 7, none⟩ = some (.slice r.la r.legs.length r.lc) := fun y => Since.cell (by simp [go_sem]) (by first | (simp; done) | (simp; omega)) y
    have hb0_8 : ∀ y : Since (x.w.alloc (.cells #[.int .i64 r.id, .int .i64 r.rd, .int .i64 r.s0, .int .i64 r.s1, .int .i64 r.e0, .int .i64 r.e1, .bool r.op, .slice r.la r.legs.length r.lc, .slice r.pa r.pauses.length r.pc, .int .i64 r.fw, .int .i64 r.fp, .int .i64 r.wh, .int .i64 r.pl] 27)), y.w.cell? ⟨x.w.heap.size, 8, none⟩ = some (.slice r.pa r.pauses.length r.pc) := fun y => Since.cell (by simp [go_sem]) (by first | (simp; done) | (simp; omega)) y
    have hb0_9 : ∀ y : Since (x.w.alloc (.cells #[.int .i64 r.id, .int .i64 r.rd, .int .i64 r.s0, .int .i64 r.s1, .int .i64 r.e0, .int .i64 r.e1, .bool r.op, .slice r.la r.legs.length r.lc, .slice r.pa r.pauses.length r.pc, .int .i64 r.fw, .int .i64 r.fp, .int .i64 r.wh, .int .i64 r.pl] 27)), y.w.cell? ⟨x.w.heap.size, 9, none⟩ = some (.int .i64 r.fw) := fun y => Since.cell (by simp [go_sem]) (by first | (simp; done) | (simp; omega)) y
    have hb0_10 : ∀ y : Since (x.w.alloc (.cells #[.int .i64 r.id, .int .i64 r.rd, .int .i64 r.s0, .int .i64 r.s1, .int .i64 r.e0, .int .i64 r.e1, .bool r.op, .slice r.la r.legs.length r.lc, .slice r.pa r.pauses.length r.pc, .int .i64 r.fw, .int .i64 r.fp, .int .i64 r.wh, .int .i64 r.pl] 27)), y.w.cell? ⟨x.w.heap.size, 10, none⟩ = some (.int .i64 r.fp) := fun y => Since.cell (by simp [go_sem]) (by first | (simp; done) | (simp; omega)) y
    have hb0_11 : ∀ y : Since (x.w.alloc (.cells #[.int .i64 r.id, .int .i64 r.rd, .int .i64 r.s0, .int .i64 r.s1, .int .i64 r.e0, .int .i64 r.e1, .bool r.op, .slice r.la r.legs.length r.lc, .slice r.pa r.pauses.length r.pc, .int .i64 r.fw, .int .i64 r.fp, .int .i64 r.wh, .int .i64 r.pl] 27)), y.w.cell? ⟨x.w.heap.size, 11, none⟩ = some (.int .i64 r.wh) := fun y => Since.cell (by simp [go_sem]) (by first | (simp; done) | (simp; omega)) y
    have hb0_12 : ∀ y : Since (x.w.alloc (.cells #[.int .i64 r.id, .int .i64 r.rd, .int .i64 r.s0, .int .i64 r.s1, .int .i64 r.e0, .int .i64 r.e1, .bool r.op, .slice r.la r.legs.length r.lc, .slice r.pa r.pauses.length r.pc, .int .i64 r.fw, .int .i64 r.fp, .int .i64 r.wh, .int .i64 r.pl] 27)), y.w.cell? ⟨x.w.heap.size, 12, none⟩ = some (.int .i64 r.pl) := fun y => Since.cell (by simp [go_sem]) (by first | (simp; done) | (simp; omega)) y
    have hf0 : ∀ (y : Since (x.w.alloc (.cells #[.int .i64 r.id, .int .i64 r.rd, .int .i64 r.s0, .int .i64 r.s1, .int .i64 r.e0, .int .i64 r.e1, .bool r.op, .slice r.la r.legs.length r.lc, .slice r.pa r.pauses.length r.pc, .int .i64 r.fw, .int .i64 r.fp, .int .i64 r.wh, .int .i64 r.pl] 27))) (o : Nat), y.w.frozen? ⟨x.w.heap.size, o, none⟩ = false := fun y o => Since.free (by simp [go_sem]) (by first | (simp; done) | (simp; omega)) y
    have hWup : ∃ z : Since w, (x.w.alloc (.cells #[.int .i64 r.id, .int .i64 r.rd, .int .i64 r.s0, .int .i64 r.s1, .int .i64 r.e0, .int .i64 r.e1, .bool r.op, .slice r.la r.legs.length r.lc, .slice r.pa r.pauses.length r.pc, .int .i64 r.fw, .int .i64 r.fp, .int .i64 r.wh, .int .i64 r.pl] 27)) = z.w := x.alloc _
    obtain ⟨y0, hy0⟩ := Since.refl (x.w.alloc (.cells #[.int .i64 r.id, .int .i64 r.rd, .int .i64 r.s0, .int .i64 r.s1, .int .i64 r.e0, .int .i64 r.e1, .bool r.op, .slice r.la r.legs.length r.lc, .slice r.pa r.pauses.length r.pc, .int .i64 r.fw, .int .i64 r.fp, .int .i64 r.wh, .int .i64 r.pl] 27))
    have Hbx := Lib.hid (And.intro x.b.size (show x.w.heap.size + 1 = (x.w.alloc (.cells #[.int .i64 r.id, .int .i64 r.rd, .int .i64 r.s0, .int .i64 r.s1, .int .i64 r.e0, .int .i64 r.e1, .bool r.op, .slice r.la r.legs.length r.lc, .slice r.pa r.pauses.length r.pc, .int .i64 r.fw, .int .i64 r.fp, .int .i64 r.wh, .int .i64 r.pl] 27)).heap.size from by simp))
    generalize hW : (x.w.alloc (.cells #[.int .i64 r.id, .int .i64 r.rd, .int .i64 r.s0, .int .i64 r.s1, .int .i64 r.e0, .int .i64 r.e1, .bool r.op, .slice r.la r.legs.length r.lc, .slice r.pa r.pauses.length r.pc, .int .i64 r.fw, .int .i64 r.fp, .int .i64 r.wh, .int .i64 r.pl] 27)) = W at *
    clear hW
    generalize x.w.heap.size = bx at *
    have Hup := Lib.hid (Since.up hWup)
    rw [hy0]
    clear hy0
    replace H := Lib.hid (H.out.to hWup)
    have HU := Lib.hid (show IsSince w W from hWup)
    clear hWup hf0 Hbx Hup
    go_upto_region 3 with (go_at_call 10; ((with_reducible refine (Hf.out W y0 H.out).mono ?_); rintro _ _ ⟨rfl, y1, rfl⟩))
    clear Hf
    have hgd := win_guard
    go_upto_region 4 with (go_at_call 12; ((with_reducible refine (sure_s (W := W) _ (IsSince.of y1) r H.out).mono ?_); rintro _ _ ⟨rfl, y2, rfl, _⟩))
    have hs0 : (y2.w.alloc (.cells #[.int .i64 (sureW r).f, .int .i64 (sureW r).t] 31)).cell? ⟨y2.w.heap.size, 0, none⟩ = some (.int .i64 (sureW r).f) := by simp [go_sem]
    have hs1 : (y2.w.alloc (.cells #[.int .i64 (sureW r).f, .int .i64 (sureW r).t] 31)).cell? ⟨y2.w.heap.size, 1, none⟩ = some (.int .i64 (sureW r).t) := by simp [go_sem]
    have hsf : ∀ o, (y2.w.alloc (.cells #[.int .i64 (sureW r).f, .int .i64 (sureW r).t] 31)).frozen? ⟨y2.w.heap.size, o, none⟩ = false := fun o => by simp [go_sem]
    have hlt0 : y2.w.heap.size < (y2.w.alloc (.cells #[.int .i64 (sureW r).f, .int .i64 (sureW r).t] 31)).heap.size := by simp
    have hst0 : ∃ zz : Since y2.w, (y2.w.alloc (.cells #[.int .i64 (sureW r).f, .int .i64 (sureW r).t] 31)) = zz.w := IsSince.alloc (IsSince.self _) _
    have hsz0 := y2.b.size
    obtain ⟨y3, e2⟩ := IsSince.alloc (IsSince.of y2) (.cells #[.int .i64 (sureW r).f, .int .i64 (sureW r).t] 31)
    rw [e2] at hs0 hs1 hsf hlt0 hst0 ⊢
    skip
    clear e2 hst0
    generalize y2.w.heap.size = ghs at *
    have Hhs0 : ∀ q : Since y3.w, q.w.cell? ⟨ghs, 0, none⟩ = some (.int .i64 (sureW r).f) := fun q => Since.cell hs0 (by omega) q
    have Hhs1 : ∀ q : Since y3.w, q.w.cell? ⟨ghs, 1, none⟩ = some (.int .i64 (sureW r).t) := fun q => Since.cell hs1 (by omega) q
    have Hhsf : ∀ (q : Since y3.w) (o : Nat), q.w.frozen? ⟨ghs, o, none⟩ = false := fun q o => Since.free (hsf o) (by omega) q
    have Hhsg := Lib.hid (And.intro hsz0 hlt0)
    clear hlt0 hsz0
    clear hs0 hs1 hsf Hhsf
    replace H := Lib.hid (H.out.to ⟨y3, rfl⟩)
    replace HU := Lib.hid (HU.out.trans (IsSince.of y3))
    replace hb0_0 := Since.cellTo ⟨y3, rfl⟩ hb0_0
    replace hb0_1 := Since.cellTo ⟨y3, rfl⟩ hb0_1
    replace hb0_2 := Since.cellTo ⟨y3, rfl⟩ hb0_2
    replace hb0_3 := Since.cellTo ⟨y3, rfl⟩ hb0_3
    replace hb0_4 := Since.cellTo ⟨y3, rfl⟩ hb0_4
    replace hb0_5 := Since.cellTo ⟨y3, rfl⟩ hb0_5
    replace hb0_6 := Since.cellTo ⟨y3, rfl⟩ hb0_6
    replace hb0_7 := Since.cellTo ⟨y3, rfl⟩ hb0_7
    replace hb0_8 := Since.cellTo ⟨y3, rfl⟩ hb0_8
    replace hb0_9 := Since.cellTo ⟨y3, rfl⟩ hb0_9
    replace hb0_10 := Since.cellTo ⟨y3, rfl⟩ hb0_10
    replace hb0_11 := Since.cellTo ⟨y3, rfl⟩ hb0_11
    replace hb0_12 := Since.cellTo ⟨y3, rfl⟩ hb0_12
    obtain ⟨q3, hq0⟩ := Since.refl y3.w
    rw [hq0]
    clear hq0
    go_upto_region 5 with (go_at_call 14; ((with_reducible refine (possible_s (W := y3.w) _ (IsSince.of q3) r H.out).mono ?_); rintro _ _ ⟨rfl, y4, rfl, _⟩))
    have hu0 : (y4.w.alloc (.cells #[.int .i64 (possW r).f, .int .i64 (possW r).t] 31)).cell? ⟨y4.w.heap.size, 0, none⟩ = some (.int .i64 (possW r).f) := by simp [go_sem]
    have hu1 : (y4.w.alloc (.cells #[.int .i64 (possW r).f, .int .i64 (possW r).t] 31)).cell? ⟨y4.w.heap.size, 1, none⟩ = some (.int .i64 (possW r).t) := by simp [go_sem]
    have huf : ∀ o, (y4.w.alloc (.cells #[.int .i64 (possW r).f, .int .i64 (possW r).t] 31)).frozen? ⟨y4.w.heap.size, o, none⟩ = false := fun o => by simp [go_sem]
    have hlt0 : y4.w.heap.size < (y4.w.alloc (.cells #[.int .i64 (possW r).f, .int .i64 (possW r).t] 31)).heap.size := by simp
    have hst0 : ∃ zz : Since y4.w, (y4.w.alloc (.cells #[.int .i64 (possW r).f, .int .i64 (possW r).t] 31)) = zz.w := IsSince.alloc (IsSince.self _) _
    have hsz0 := y4.b.size
    obtain ⟨y5, e2⟩ := IsSince.alloc (IsSince.of y4) (.cells #[.int .i64 (possW r).f, .int .i64 (possW r).t] 31)
    rw [e2] at hu0 hu1 huf hlt0 hst0 ⊢
    skip
    clear e2 hst0
    generalize y4.w.heap.size = ghu at *
    have Hhu0 : ∀ q : Since y5.w, q.w.cell? ⟨ghu, 0, none⟩ = some (.int .i64 (possW r).f) := fun q => Since.cell hu0 (by omega) q
    have Hhu1 : ∀ q : Since y5.w, q.w.cell? ⟨ghu, 1, none⟩ = some (.int .i64 (possW r).t) := fun q => Since.cell hu1 (by omega) q
    have Hhuf : ∀ (q : Since y5.w) (o : Nat), q.w.frozen? ⟨ghu, o, none⟩ = false := fun q o => Since.free (huf o) (by omega) q
    have Hhug := Lib.hid (And.intro hsz0 hlt0)
    clear hlt0 hsz0
    clear hu0 hu1 huf Hhuf
    replace H := Lib.hid (H.out.to ⟨y5, rfl⟩)
    replace HU := Lib.hid (HU.out.trans (IsSince.of y5))
    replace hb0_0 := Since.cellTo ⟨y5, rfl⟩ hb0_0
    replace hb0_1 := Since.cellTo ⟨y5, rfl⟩ hb0_1
    replace hb0_2 := Since.cellTo ⟨y5, rfl⟩ hb0_2
    replace hb0_3 := Since.cellTo ⟨y5, rfl⟩ hb0_3
    replace hb0_4 := Since.cellTo ⟨y5, rfl⟩ hb0_4
    replace hb0_5 := Since.cellTo ⟨y5, rfl⟩ hb0_5
    replace hb0_6 := Since.cellTo ⟨y5, rfl⟩ hb0_6
    replace hb0_7 := Since.cellTo ⟨y5, rfl⟩ hb0_7
    replace hb0_8 := Since.cellTo ⟨y5, rfl⟩ hb0_8
    replace hb0_9 := Since.cellTo ⟨y5, rfl⟩ hb0_9
    replace hb0_10 := Since.cellTo ⟨y5, rfl⟩ hb0_10
    replace hb0_11 := Since.cellTo ⟨y5, rfl⟩ hb0_11
    replace hb0_12 := Since.cellTo ⟨y5, rfl⟩ hb0_12
    replace Hhs0 := Since.cellTo ⟨y5, rfl⟩ Hhs0
    replace Hhs1 := Since.cellTo ⟨y5, rfl⟩ Hhs1
    obtain ⟨q5, hq0⟩ := Since.refl y5.w
    rw [hq0]
    clear hq0
    go_upto_region 6 with (go_at_call 16; ((with_reducible refine (pausing_s (W := y5.w) _ (IsSince.of q5) r H.out).mono ?_); rintro _ _ ⟨ap, cp, u, y6, rfl, rfl, hz, hl, _, hQ⟩; have HP := Lib.hid hl; have HPo := Lib.hid hQ; clear hl hQ; clear hz))
    go_upto_region 7 with (go_at_call 18; ((with_reducible refine (riding_s (W := y5.w) _ (IsSince.of y6) r H.out).mono ?_); rintro _ _ ⟨ar, cr, s, y7, rfl, rfl, hz, hl, _, hQ⟩; replace HP := Lib.hid (HP.out.to hz); have HR := Lib.hid hl; have HRo := Lib.hid hQ; clear hl hQ; clear hz))
    have hul := HPo.out.n
    have hsl := HRo.out.n
    go_upto_region 8 with (go_at_call 21; ((with_reducible refine (seconds_s (W := y5.w) _ (IsSince.of y7) r H.out).mono ?_); rintro _ _ ⟨rfl, y8, rfl, hz⟩; replace HP := Lib.hid (HP.out.to hz); replace HR := Lib.hid (HR.out.to hz); clear hz))
    go_upto_region 9 with (go_at_call 23; ((with_reducible refine (doubt_s (W := y5.w) _ (IsSince.of y8) r H.out).mono ?_); rintro _ _ ⟨rfl, y9, rfl, hz⟩; replace HP := Lib.hid (HP.out.to hz); replace HR := Lib.hid (HR.out.to hz); clear hz))
    go_upto_region 11 with (go_at_call 25; ((with_reducible refine (rcheck23_s (W := y5.w) _ (IsSince.of y9) r H.out).mono ?_); rintro _ _ ⟨rfl, y10, rfl, hz⟩; replace HP := Lib.hid (HP.out.to hz); replace HR := Lib.hid (HR.out.to hz); clear hz))
    by_cases he : ivE r = 0
    case neg =>
      have hez : (ivE r != 0) = true := by simpa using he
      have hs : sureW r = ⟨0, 0⟩ := if_neg he
      have hp : possW r = ⟨0, 0⟩ := if_neg he
      have hq1 : ∀ w, (Op.equalIn 10000 31 (.agg #[.int .i64 (sureW r).f, .int .i64 (sureW r).t]) (.agg #[.int .i64 0, .int .i64 0])).run Try.prog w = .ok true w := fun w => by rw [win_equal, hs]; simp
      have hq2 : ∀ w, (Op.equalIn 10000 31 (.agg #[.int .i64 (possW r).f, .int .i64 (possW r).t]) (.agg #[.int .i64 0, .int .i64 0])).run Try.prog w = .ok true w := fun w => by rw [win_equal, hp]; simp
      have hz1 : (secR r == 0) = true := by unfold secR; rw [if_neg he]; rfl
      have hz2 : (secP r == 0) = true := by unfold secP; rw [if_neg he]; rfl
      have hz3 : (doubtV r == 0) = true := by unfold doubtV; rw [if_neg he]; rfl
      obtain rfl : u = [] := HPo.out.no he
      obtain rfl : s = [] := HRo.out.no he
      clear he hs hp
      go_wp2_with (go_at_call 11; ((with_reducible refine (awake_calls _ y10).mono ?_); rintro _ _ ⟨rfl, yz, rfl⟩))
      go_ret
      exact ⟨rfl, HU.out.trans (IsSince.of yz)⟩
    case pos =>
      have hez : (ivE r != 0) = false := by simpa using he
      have hr := rideOk_of he
      have HSu := Lib.hid (HPo.out.ok he)
      have HSs := Lib.hid (HRo.out.ok he)
      have Hg := Lib.hid (And.intro (norm_good HSu.out.n) (norm_good HSs.out.n))
      have HgS := Lib.hid (show badW [sureW r] = false from badW_one (sureW_good he))
      have HgP := Lib.hid (show badW [possW r] = false from badW_one (possW_vld he))
      have HG1 := Lib.hid (show (badW u || badW s) = false by rw [Hg.out.1, Hg.out.2]; rfl)
      have HG2 := Lib.hid (show (badW u || badW [sureW r]) = false by rw [Hg.out.1, HgS.out]; rfl)
      have HG3 := Lib.hid (show (badW s || badW [sureW r]) = false by rw [Hg.out.2, HgS.out]; rfl)
      have HG4 := Lib.hid (show (badW [sureW r] || badW [possW r]) = false by rw [HgS.out, HgP.out]; rfl)
      have Hno := Lib.hid (show ∀ t, hasW u t = true → hasW s t = false from fun t h => by rw [HSu.out.h] at h; rw [HSs.out.h]; exact pau_rid hr h)
      have H1 := Lib.hid (show ∀ t, hasW u t = true → hasW [sureW r] t = true from fun t h => by rw [HSu.out.h] at h; rw [hasW_one]; exact pau_sure h)
      have H2 := Lib.hid (show ∀ t, hasW s t = true → hasW [sureW r] t = true from fun t h => by rw [HSs.out.h] at h; rw [hasW_one]; exact rid_sure h)
      have H3 := Lib.hid (show ∀ t, hasW [sureW r] t = true → hasW [possW r] t = true from fun t h => by rw [hasW_one] at h ⊢; exact sure_poss he h)
      have hz1 : (secP r == lenS (pauS r)) = true := by unfold secP; rw [if_pos he]; simp
      have hz2 : (secR r == lenS (ridS r)) = true := by unfold secR; rw [if_pos he]; simp
      have hd : doubtV r = (possW r).t - (possW r).f - ((sureW r).t - (sureW r).f) := by unfold doubtV possW sureW; rw [if_pos he, if_pos he, if_pos he]
      have hw : (sureW r).f = r.s1 ∧ (sureW r).t = max r.s1 r.e0 ∧ (possW r).f = r.s0 ∧ (possW r).t = r.e1 := by unfold possW sureW; rw [if_pos he, if_pos he]; exact ⟨rfl, rfl, rfl, rfl⟩
      have hrs := hr.s
      have hre := hr.e
      have hse := hr.se
      have k1 : 0 ≤ (sureW r).f ∧ (sureW r).f ≤ 4294944000 ∧ 0 ≤ (sureW r).t ∧ (sureW r).t ≤ 4294944000 := by omega
      have k2 : 0 ≤ (possW r).f ∧ (possW r).f ≤ 4294944000 ∧ 0 ≤ (possW r).t ∧ (possW r).t ≤ 4294944000 := by omega
      have hz3 : decide (0 ≤ doubtV r) = true := decide_eq_true (by omega)
      have hz4 : (doubtV r == (possW r).t - (possW r).f - ((sureW r).t - (sureW r).f)) = true := by rw [hd]; simp
      have hz5 : 0 ≤ doubtV r := by omega
      obtain ⟨k11, k12, k13, k14⟩ := k1
      obtain ⟨k21, k22, k23, k24⟩ := k2
      clear hw hrs hre hse hd hr he HPo HRo
      go_upto_region 14 with (go_at_call 27; ((with_reducible refine (rcommon_no (W := y5.w) _ (IsSince.of y10) ap u cp ar s cr HP.out HR.out (by omega) (by omega) HG1.out Hno.out).mono ?_); rintro _ _ ⟨ab, cb, y11, rfl, rfl, hz, _, _⟩; replace HP := Lib.hid (HP.out.to hz); replace HR := Lib.hid (HR.out.to hz); clear hz))
      go_upto_region 15 with (go_at_call 29; ((with_reducible refine (rlength_s (W := y5.w) _ (IsSince.of y11) ap u cp (pauS r) HSu.out HP.out (by omega)).mono ?_); rintro _ _ ⟨rfl, y12, rfl, hz⟩; replace HP := Lib.hid (HP.out.to hz); replace HR := Lib.hid (HR.out.to hz); clear hz))
      go_upto_region 16 with (go_at_call 29; ((with_reducible refine (rlength_s (W := y5.w) _ (IsSince.of y12) ar s cr (ridS r) HSs.out HR.out (by omega)).mono ?_); rintro _ _ ⟨rfl, y13, rfl, hz⟩; replace HP := Lib.hid (HP.out.to hz); replace HR := Lib.hid (HR.out.to hz); clear hz))
      go_wp2_with (first | (go_at_call 30; ((with_reducible refine (normal_s (W := y5.w) _ (IsSince.of y13) ap u cp HP.out (by omega) HSu.out.n).mono ?_); rintro _ _ ⟨rfl, y14, rfl, hz⟩; replace HP := Lib.hid (HP.out.to hz); replace HR := Lib.hid (HR.out.to hz); clear hz)) | (go_at_call 30; ((with_reducible refine (normal_s (W := y5.w) _ (IsSince.of y14) ar s cr HR.out (by omega) HSs.out.n).mono ?_); rintro _ _ ⟨rfl, y15, rfl, hz⟩; replace HP := Lib.hid (HP.out.to hz); replace HR := Lib.hid (HR.out.to hz); clear hz)))
      refine (within_s (W := y5.w) _ (IsSince.alloc (IsSince.of y15) _) ap u _ cp (some ⟨y15.w.heap.size, 0, none⟩) [sureW r] 1 1 (HP.out.to (IsSince.alloc (IsSince.self _) _)) (els_mk Win.len y15.w [sureW r] 31) rfl rfl (by omega) (by decide) HG2.out H1.out).mono ?_
      rintro _ _ ⟨rfl, y16, rfl, hz⟩
      replace HR := Lib.hid ((HR.out.to (IsSince.alloc (IsSince.self _) _)).to hz)
      clear hz
      go_wp2_with fail
      refine (within_s (W := y5.w) _ (IsSince.alloc (IsSince.of y16) _) ar s _ cr (some ⟨y16.w.heap.size, 0, none⟩) [sureW r] 1 1 (HR.out.to (IsSince.alloc (IsSince.self _) _)) (els_mk Win.len y16.w [sureW r] 31) rfl rfl (by omega) (by decide) HG3.out H2.out).mono ?_
      rintro _ _ ⟨rfl, y17, rfl, _⟩
      have hx0 : (y17.w.alloc (.cells #[.int .i64 (sureW r).f, .int .i64 (sureW r).t] 31)).cell? ⟨ghu, 0, none⟩ = some (.int .i64 (possW r).f) := by obtain ⟨z, hz⟩ := y17.alloc (.cells #[.int .i64 (sureW r).f, .int .i64 (sureW r).t] 31); rw [hz]; exact Hhu0 z
      have hx1 : (y17.w.alloc (.cells #[.int .i64 (sureW r).f, .int .i64 (sureW r).t] 31)).cell? ⟨ghu, 1, none⟩ = some (.int .i64 (possW r).t) := by obtain ⟨z, hz⟩ := y17.alloc (.cells #[.int .i64 (sureW r).f, .int .i64 (sureW r).t] 31); rw [hz]; exact Hhu1 z
      go_wp2_with fail
      have hsz : (y17.w.alloc (.cells #[.int .i64 (sureW r).f, .int .i64 (sureW r).t] 31)).heap.size = y17.w.heap.size + 1 := by simp
      have hl2 := els_mk Win.len (y17.w.alloc (.cells #[.int .i64 (sureW r).f, .int .i64 (sureW r).t] 31)) [possW r] 31
      rw [hsz] at hl2
      have HL2 := Lib.hid hl2
      clear hl2 hsz
      refine (within_s (W := y5.w) _ (IsSince.alloc (IsSince.alloc (IsSince.of y17) _) _) (some ⟨y17.w.heap.size, 0, none⟩) [sureW r] 1 1 (some ⟨y17.w.heap.size + 1, 0, none⟩) [possW r] 1 1 ((els_mk Win.len y17.w [sureW r] 31).to (IsSince.alloc (IsSince.self _) _)) HL2.out rfl rfl (by decide) (by decide) HG4.out H3.out).mono ?_
      rintro _ _ ⟨rfl, y18, rfl, _⟩
      go_wp2_with (go_at_call 11; ((with_reducible refine (awake_calls _ y18).mono ?_); rintro _ _ ⟨rfl, yz, rfl⟩))
      go_ret
      exact ⟨rfl, HU.out.trans (IsSince.of yz)⟩
end Go.Proofs.Ytefodfpnedcodaa
