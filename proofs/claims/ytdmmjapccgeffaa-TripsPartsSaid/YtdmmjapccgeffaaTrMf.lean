/- The reference of rides: equal rides, equal lists of rides, where they are equal. -/
import Derived.Test.YtdmmjapccgeffaaTrMe
import Derived.IntWalk
set_option linter.all false
namespace Go.Proofs.Ytdmmjapccgeffaa
open Go.RowKit

theorem span_eqN (n : Nat) (a b : Int) (w : World) : (Op.equalIn (n + 2) 48 (.agg #[.int .i64 a, .int .i64 b]) (.agg #[.int .i64 a, .int .i64 b])).run Try.prog w = .ok true w := by
  have hS : Try.prog.underlying 48 = some (.struct (Try.prog.fieldsOf 48)) := by kernel_rfl
  have hp : Try.prog.stoodInHeld 48 = false := by kernel_rfl
  have u3 := Try.underlying3
  have a3 := Try.isAgg3
  have z3 := Try.sizeOf3
  rw [run_equalIn_struct w (n + 1) 48 _ _ hS hp]
  simp only [Program.fieldsOf, Try.underlying48]
  go_simp
theorem leg_self (x : Leg) (w : World) : (Op.equalIn 10000 63 (.agg #[.int .i64 x.b, .int .i64 x.f0, .int .i64 x.f1, .int .i64 x.t0, .int .i64 x.t1]) (.agg #[.int .i64 x.b, .int .i64 x.f0, .int .i64 x.f1, .int .i64 x.t0, .int .i64 x.t1])).run Try.prog w = .ok true w := by
  have hS : Try.prog.underlying 63 = some (.struct (Try.prog.fieldsOf 63)) := by kernel_rfl
  have hp : Try.prog.stoodInHeld 63 = false := by kernel_rfl
  have u3 := Try.underlying3
  have a3 := Try.isAgg3
  have z3 := Try.sizeOf3
  have u4 := Try.underlying48
  have a4 := Try.isAgg48
  have z4 := Try.sizeOf48
  have e1 := span_eqN 9997 x.f0 x.f1
  have e2 := span_eqN 9997 x.t0 x.t1
  rw [show (10000 : Nat) = 9999 + 1 from rfl, run_equalIn_struct w 9999 63 _ _ hS hp]
  simp only [Program.fieldsOf, Try.underlying63]
  go_simp
theorem pse_self (x : Pse) (w : World) : (Op.equalIn 10000 66 (.agg #[.int .i64 x.f0, .int .i64 x.f1, .int .i64 x.t0, .int .i64 x.t1]) (.agg #[.int .i64 x.f0, .int .i64 x.f1, .int .i64 x.t0, .int .i64 x.t1])).run Try.prog w = .ok true w := by
  have hS : Try.prog.underlying 66 = some (.struct (Try.prog.fieldsOf 66)) := by kernel_rfl
  have hp : Try.prog.stoodInHeld 66 = false := by kernel_rfl
  have u4 := Try.underlying48
  have a4 := Try.isAgg48
  have z4 := Try.sizeOf48
  have e1 := span_eqN 9997 x.f0 x.f1
  have e2 := span_eqN 9997 x.t0 x.t1
  rw [show (10000 : Nat) = 9999 + 1 from rfl, run_equalIn_struct w 9999 66 _ _ hS hp]
  simp only [Program.fieldsOf, Try.underlying66]
  go_simp
theorem leg_guard (op : BinOp) (a b : Operand) (xs ys : Array Value) (w : World) : (eqGuard op 63 a b (.agg xs) (.agg ys)).run Try.prog w = .ok () w := run_eqGuard_agg w op 63 a b xs ys (by kernel_rfl)
theorem pse_guard (op : BinOp) (a b : Operand) (xs ys : Array Value) (w : World) : (eqGuard op 66 a b (.agg xs) (.agg ys)).run Try.prog w = .ok () w := run_eqGuard_agg w op 66 a b xs ys (by kernel_rfl)
theorem bare_with {r s : Ride} (h : s.bare = r.bare) : s = r.with s.la s.lc s.pa s.pc := by
  cases s
  cases r
  simp only [Ride.bare, Ride.mk.injEq] at h
  simp only [Ride.with, Ride.mk.injEq]
  simp_all
/-- true, in a later world -/
abbrev Yes (w : World) (o : Ending) (w' : World) : Prop := o = .returned (.bool true) ∧ ∃ y : Since w, w' = y.w
set_option maxRecDepth 100000 in
set_option maxHeartbeats 8000000 in
theorem sameRide_calls (w : World) (x : Since w) (r : Ride) (la : Option Addr) (lc : Nat) (pa : Option Addr) (pc : Nat) (h : r.At w) (hl : Els Leg.cs 5 w la r.legs) (hp : Els Pse.cs 4 w pa r.pauses) :
    Calls Try.prog 26 #[.agg #[.int .i64 r.id, .int .i64 r.rd, .int .i64 r.s0, .int .i64 r.s1, .int .i64 r.e0, .int .i64 r.e1, .bool r.op, .slice r.la r.legs.length r.lc, .slice r.pa r.pauses.length r.pc, .int .i64 r.fw, .int .i64 r.fp, .int .i64 r.wh, .int .i64 r.pl], .agg #[.int .i64 r.id, .int .i64 r.rd, .int .i64 r.s0, .int .i64 r.s1, .int .i64 r.e0, .int .i64 r.e1, .bool r.op, .slice la r.legs.length lc, .slice pa r.pauses.length pc, .int .i64 r.fw, .int .i64 r.fp, .int .i64 r.wh, .int .i64 r.pl]] x.w (Yes w) := by
  have HL := Lib.hid h.l
  have HP := Lib.hid h.p
  have HL2 := Lib.hid hl
  have HP2 := Lib.hid hp
  have hlm := h.lm
  have hpm := h.pm
  clear h hl hp
  generalize r.la = la1 at *
  generalize r.pa = pa1 at *
  go_enter Try.func26, Try.ntmps26
  go_upto_region 1 with fail
  have hb0_0 : ∀ y : Since ((x.w.alloc (.cells #[.int .i64 r.id, .int .i64 r.rd, .int .i64 r.s0, .int .i64 r.s1, .int .i64 r.e0, .int .i64 r.e1, .bool r.op, .slice la1 r.legs.length r.lc, .slice pa1 r.pauses.length r.pc, .int .i64 r.fw, .int .i64 r.fp, .int .i64 r.wh, .int .i64 r.pl] 52)).alloc (.cells #[.int .i64 r.id, .int .i64 r.rd, .int .i64 r.s0, .int .i64 r.s1, .int .i64 r.e0, .int .i64 r.e1, .bool r.op, .slice la r.legs.length lc, .slice pa r.pauses.length pc, .int .i64 r.fw, .int .i64 r.fp, .int .i64 r.wh, .int .i64 r.pl] 52)), y.w.cell? ⟨x.w.heap.size, 0, none⟩ = some (.int .i64 r.id) := fun y => Since.cell (by simp [go_sem]) (by first | (simp; done) | (simp; omega)) y
  have hb0_1 : ∀ y : Since ((x.w.alloc (.cells #[.int .i64 r.id, .int .i64 r.rd, .int .i64 r.s0, .int .i64 r.s1, .int .i64 r.e0, .int .i64 r.e1, .bool r.op, .slice la1 r.legs.length r.lc, .slice pa1 r.pauses.length r.pc, .int .i64 r.fw, .int .i64 r.fp, .int .i64 r.wh, .int .i64 r.pl] 52)).alloc (.cells #[.int .i64 r.id, .int .i64 r.rd, .int .i64 r.s0, .int .i64 r.s1, .int .i64 r.e0, .int .i64 r.e1, .bool r.op, .slice la r.legs.length lc, .slice pa r.pauses.length pc, .int .i64 r.fw, .int .i64 r.fp, .int .i64 r.wh, .int .i64 r.pl] 52)), y.w.cell? ⟨x.w.heap.size, 1, none⟩ = some (.int .i64 r.rd) := fun y => Since.cell (by simp [go_sem]) (by first | (simp; done) | (simp; omega)) y
  have hb0_2 : ∀ y : Since ((x.w.alloc (.cells #[.int .i64 r.id, .int .i64 r.rd, .int .i64 r.s0, .int .i64 r.s1, .int .i64 r.e0, .int .i64 r.e1, .bool r.op, .slice la1 r.legs.length r.lc, .slice pa1 r.pauses.length r.pc, .int .i64 r.fw, .int .i64 r.fp, .int .i64 r.wh, .int .i64 r.pl] 52)).alloc (.cells #[.int .i64 r.id, .int .i64 r.rd, .int .i64 r.s0, .int .i64 r.s1, .int .i64 r.e0, .int .i64 r.e1, .bool r.op, .slice la r.legs.length lc, .slice pa r.pauses.length pc, .int .i64 r.fw, .int .i64 r.fp, .int .i64 r.wh, .int .i64 r.pl] 52)), y.w.cell? ⟨x.w.heap.size, 2, none⟩ = some (.int .i64 r.s0) := fun y => Since.cell (by simp [go_sem]) (by first | (simp; done) | (simp; omega)) y
  have hb0_3 : ∀ y : Since ((x.w.alloc (.cells #[.int .i64 r.id, .int .i64 r.rd, .int .i64 r.s0, .int .i64 r.s1, .int .i64 r.e0, .int .i64 r.e1, .bool r.op, .slice la1 r.legs.length r.lc, .slice pa1 r.pauses.length r.pc, .int .i64 r.fw, .int .i64 r.fp, .int .i64 r.wh, .int .i64 r.pl] 52)).alloc (.cells #[.int .i64 r.id, .int .i64 r.rd, .int .i64 r.s0, .int .i64 r.s1, .int .i64 r.e0, .int .i64 r.e1, .bool r.op, .slice la r.legs.length lc, .slice pa r.pauses.length pc, .int .i64 r.fw, .int .i64 r.fp, .int .i64 r.wh, .int .i64 r.pl] 52)), y.w.cell? ⟨x.w.heap.size, 3, none⟩ = some (.int .i64 r.s1) := fun y => Since.cell (by simp [go_sem]) (by first | (simp; done) | (simp; omega)) y
  have hb0_4 : ∀ y : Since ((x.w.alloc (.cells #[.int .i64 r.id, .int .i64 r.rd, .int .i64 r.s0, .int .i64 r.s1, .int .i64 r.e0, .int .i64 r.e1, .bool r.op, .slice la1 r.legs.length r.lc, .slice pa1 r.pauses.length r.pc, .int .i64 r.fw, .int .i64 r.fp, .int .i64 r.wh, .int .i64 r.pl] 52)).alloc (.cells #[.int .i64 r.id, .int .i64 r.rd, .int .i64 r.s0, .int .i64 r.s1, .int .i64 r.e0, .int .i64 r.e1, .bool r.op, .slice la r.legs.length lc, .slice pa r.pauses.length pc, .int .i64 r.fw, .int .i64 r.fp, .int .i64 r.wh, .int .i64 r.pl] 52)), y.w.cell? ⟨x.w.heap.size, 4, none⟩ = some (.int .i64 r.e0) := fun y => Since.cell (by simp [go_sem]) (by first | (simp; done) | (simp; omega)) y
  have hb0_5 : ∀ y : Since ((x.w.alloc (.cells #[.int .i64 r.id, .int .i64 r.rd, .int .i64 r.s0, .int .i64 r.s1, .int .i64 r.e0, .int .i64 r.e1, .bool r.op, .slice la1 r.legs.length r.lc, .slice pa1 r.pauses.length r.pc, .int .i64 r.fw, .int .i64 r.fp, .int .i64 r.wh, .int .i64 r.pl] 52)).alloc (.cells #[.int .i64 r.id, .int .i64 r.rd, .int .i64 r.s0, .int .i64 r.s1, .int .i64 r.e0, .int .i64 r.e1, .bool r.op, .slice la r.legs.length lc, .slice pa r.pauses.length pc, .int .i64 r.fw, .int .i64 r.fp, .int .i64 r.wh, .int .i64 r.pl] 52)), y.w.cell? ⟨x.w.heap.size, 5, none⟩ = some (.int .i64 r.e1) := fun y => Since.cell (by simp [go_sem]) (by first | (simp; done) | (simp; omega)) y
  have hb0_6 : ∀ y : Since ((x.w.alloc (.cells #[.int .i64 r.id, .int .i64 r.rd, .int .i64 r.s0, .int .i64 r.s1, .int .i64 r.e0, .int .i64 r.e1, .bool r.op, .slice la1 r.legs.length r.lc, .slice pa1 r.pauses.length r.pc, .int .i64 r.fw, .int .i64 r.fp, .int .i64 r.wh, .int .i64 r.pl] 52)).alloc (.cells #[.int .i64 r.id, .int .i64 r.rd, .int .i64 r.s0, .int .i64 r.s1, .int .i64 r.e0, .int .i64 r.e1, .bool r.op, .slice la r.legs.length lc, .slice pa r.pauses.length pc, .int .i64 r.fw, .int .i64 r.fp, .int .i64 r.wh, .int .i64 r.pl] 52)), y.w.cell? ⟨x.w.heap.size, 6, none⟩ = some (.bool r.op) := fun y => Since.cell (by simp [go_sem]) (by first | (simp; done) | (simp; omega)) y
  have hb0_7 : ∀ y : Since ((x.w.alloc (.cells #[.int .i64 r.id, .int .i64 r.rd, .int .i64 r.s0, .int .i64 r.s1, .int .i64 r.e0, .int .i64 r.e1, .bool r.op, .slice la1 r.legs.length r.lc, .slice pa1 r.pauses.length r.pc, .int .i64 r.fw, .int .i64 r.fp, .int .i64 r.wh, .int .i64 r.pl] 52)).alloc (.cells #[.int .i64 r.id, .int .i64 r.rd, .int .i64 r.s0, .int .i64 r.s1, .int .i64 r.e0, .int .i64 r.e1, .bool r.op, .slice la r.legs.length lc, .slice pa r.pauses.length pc, .int .i64 r.fw, .int .i64 r.fp, .int .i64 r.wh, .int .i64 r.pl] 52)), y.w.cell? ⟨x.w.heap.size, 7, none⟩ = some (.slice la1 r.legs.length r.lc) := fun y => Since.cell (by simp [go_sem]) (by first | (simp; done) | (simp; omega)) y
  have hb0_8 : ∀ y : Since ((x.w.alloc (.cells #[.int .i64 r.id, .int .i64 r.rd, .int .i64 r.s0, .int .i64 r.s1, .int .i64 r.e0, .int .i64 r.e1, .bool r.op, .slice la1 r.legs.length r.lc, .slice pa1 r.pauses.length r.pc, .int .i64 r.fw, .int .i64 r.fp, .int .i64 r.wh, .int .i64 r.pl] 52)).alloc (.cells #[.int .i64 r.id, .int .i64 r.rd, .int .i64 r.s0, .int .i64 r.s1, .int .i64 r.e0, .int .i64 r.e1, .bool r.op, .slice la r.legs.length lc, .slice pa r.pauses.length pc, .int .i64 r.fw, .int .i64 r.fp, .int .i64 r.wh, .int .i64 r.pl] 52)), y.w.cell? ⟨x.w.heap.size, 8, none⟩ = some (.slice pa1 r.pauses.length r.pc) := fun y => Since.cell (by simp [go_sem]) (by first | (simp; done) | (simp; omega)) y
  have hb0_9 : ∀ y : Since ((x.w.alloc (.cells #[.int .i64 r.id, .int .i64 r.rd, .int .i64 r.s0, .int .i64 r.s1, .int .i64 r.e0, .int .i64 r.e1, .bool r.op, .slice la1 r.legs.length r.lc, .slice pa1 r.pauses.length r.pc, .int .i64 r.fw, .int .i64 r.fp, .int .i64 r.wh, .int .i64 r.pl] 52)).alloc (.cells #[.int .i64 r.id, .int .i64 r.rd, .int .i64 r.s0, .int .i64 r.s1, .int .i64 r.e0, .int .i64 r.e1, .bool r.op, .slice la r.legs.length lc, .slice pa r.pauses.length pc, .int .i64 r.fw, .int .i64 r.fp, .int .i64 r.wh, .int .i64 r.pl] 52)), y.w.cell? ⟨x.w.heap.size, 9, none⟩ = some (.int .i64 r.fw) := fun y => Since.cell (by simp [go_sem]) (by first | (simp; done) | (simp; omega)) y
  have hb0_10 : ∀ y : Since ((x.w.alloc (.cells #[.int .i64 r.id, .int .i64 r.rd, .int .i64 r.s0, .int .i64 r.s1, .int .i64 r.e0, .int .i64 r.e1, .bool r.op, .slice la1 r.legs.length r.lc, .slice pa1 r.pauses.length r.pc, .int .i64 r.fw, .int .i64 r.fp, .int .i64 r.wh, .int .i64 r.pl] 52)).alloc (.cells #[.int .i64 r.id, .int .i64 r.rd, .int .i64 r.s0, .int .i64 r.s1, .int .i64 r.e0, .int .i64 r.e1, .bool r.op, .slice la r.legs.length lc, .slice pa r.pauses.length pc, .int .i64 r.fw, .int .i64 r.fp, .int .i64 r.wh, .int .i64 r.pl] 52)), y.w.cell? ⟨x.w.heap.size, 10, none⟩ = some (.int .i64 r.fp) := fun y => Since.cell (by simp [go_sem]) (by first | (simp; done) | (simp; omega)) y
  have hb0_11 : ∀ y : Since ((x.w.alloc (.cells #[.int .i64 r.id, .int .i64 r.rd, .int .i64 r.s0, .int .i64 r.s1, .int .i64 r.e0, .int .i64 r.e1, .bool r.op, .slice la1 r.legs.length r.lc, .slice pa1 r.pauses.length r.pc, .int .i64 r.fw, .int .i64 r.fp, .int .i64 r.wh, .int .i64 r.pl] 52)).alloc (.cells #[.int .i64 r.id, .int .i64 r.rd, .int .i64 r.s0, .int .i64 r.s1, .int .i64 r.e0, .int .i64 r.e1, .bool r.op, .slice la r.legs.length lc, .slice pa r.pauses.length pc, .int .i64 r.fw, .int .i64 r.fp, .int .i64 r.wh, .int .i64 r.pl] 52)), y.w.cell? ⟨x.w.heap.size, 11, none⟩ = some (.int .i64 r.wh) := fun y => Since.cell (by simp [go_sem]) (by first | (simp; done) | (simp; omega)) y
  have hb0_12 : ∀ y : Since ((x.w.alloc (.cells #[.int .i64 r.id, .int .i64 r.rd, .int .i64 r.s0, .int .i64 r.s1, .int .i64 r.e0, .int .i64 r.e1, .bool r.op, .slice la1 r.legs.length r.lc, .slice pa1 r.pauses.length r.pc, .int .i64 r.fw, .int .i64 r.fp, .int .i64 r.wh, .int .i64 r.pl] 52)).alloc (.cells #[.int .i64 r.id, .int .i64 r.rd, .int .i64 r.s0, .int .i64 r.s1, .int .i64 r.e0, .int .i64 r.e1, .bool r.op, .slice la r.legs.length lc, .slice pa r.pauses.length pc, .int .i64 r.fw, .int .i64 r.fp, .int .i64 r.wh, .int .i64 r.pl] 52)), y.w.cell? ⟨x.w.heap.size, 12, none⟩ = some (.int .i64 r.pl) := fun y => Since.cell (by simp [go_sem]) (by first | (simp; done) | (simp; omega)) y
  have hf0 : ∀ (y : Since ((x.w.alloc (.cells #[.int .i64 r.id, .int .i64 r.rd, .int .i64 r.s0, .int .i64 r.s1, .int .i64 r.e0, .int .i64 r.e1, .bool r.op, .slice la1 r.legs.length r.lc, .slice pa1 r.pauses.length r.pc, .int .i64 r.fw, .int .i64 r.fp, .int .i64 r.wh, .int .i64 r.pl] 52)).alloc (.cells #[.int .i64 r.id, .int .i64 r.rd, .int .i64 r.s0, .int .i64 r.s1, .int .i64 r.e0, .int .i64 r.e1, .bool r.op, .slice la r.legs.length lc, .slice pa r.pauses.length pc, .int .i64 r.fw, .int .i64 r.fp, .int .i64 r.wh, .int .i64 r.pl] 52))) (o : Nat), y.w.frozen? ⟨x.w.heap.size, o, none⟩ = false := fun y o => Since.free (by simp [go_sem]) (by first | (simp; done) | (simp; omega)) y
  have hb1_0 : ∀ y : Since ((x.w.alloc (.cells #[.int .i64 r.id, .int .i64 r.rd, .int .i64 r.s0, .int .i64 r.s1, .int .i64 r.e0, .int .i64 r.e1, .bool r.op, .slice la1 r.legs.length r.lc, .slice pa1 r.pauses.length r.pc, .int .i64 r.fw, .int .i64 r.fp, .int .i64 r.wh, .int .i64 r.pl] 52)).alloc (.cells #[.int .i64 r.id, .int .i64 r.rd, .int .i64 r.s0, .int .i64 r.s1, .int .i64 r.e0, .int .i64 r.e1, .bool r.op, .slice la r.legs.length lc, .slice pa r.pauses.length pc, .int .i64 r.fw, .int .i64 r.fp, .int .i64 r.wh, .int .i64 r.pl] 52)), y.w.cell? ⟨x.w.heap.size + 1, 0, none⟩ = some (.int .i64 r.id) := fun y => Since.cell (by simp [go_sem]) (by first | (simp; done) | (simp; omega)) y
  have hb1_1 : ∀ y : Since ((x.w.alloc (.cells #[.int .i64 r.id, .int .i64 r.rd, .int .i64 r.s0, .int .i64 r.s1, .int .i64 r.e0, .int .i64 r.e1, .bool r.op, .slice la1 r.legs.length r.lc, .slice pa1 r.pauses.length r.pc, .int .i64 r.fw, .int .i64 r.fp, .int .i64 r.wh, .int .i64 r.pl] 52)).alloc (.cells #[.int .i64 r.id, .int .i64 r.rd, .int .i64 r.s0, .int .i64 r.s1, .int .i64 r.e0, .int .i64 r.e1, .bool r.op, .slice la r.legs.length lc, .slice pa r.pauses.length pc, .int .i64 r.fw, .int .i64 r.fp, .int .i64 r.wh, .int .i64 r.pl] 52)), y.w.cell? ⟨x.w.heap.size + 1, 1, none⟩ = some (.int .i64 r.rd) := fun y => Since.cell (by simp [go_sem]) (by first | (simp; done) | (simp; omega)) y
  have hb1_2 : ∀ y : Since ((x.w.alloc (.cells #[.int .i64 r.id, .int .i64 r.rd, .int .i64 r.s0, .int .i64 r.s1, .int .i64 r.e0, .int .i64 r.e1, .bool r.op, .slice la1 r.legs.length r.lc, .slice pa1 r.pauses.length r.pc, .int .i64 r.fw, .int .i64 r.fp, .int .i64 r.wh, .int .i64 r.pl] 52)).alloc (.cells #[.int .i64 r.id, .int .i64 r.rd, .int .i64 r.s0, .int .i64 r.s1, .int .i64 r.e0, .int .i64 r.e1, .bool r.op, .slice la r.legs.length lc, .slice pa r.pauses.length pc, .int .i64 r.fw, .int .i64 r.fp, .int .i64 r.wh, .int .i64 r.pl] 52)), y.w.cell? ⟨x.w.heap.size + 1, 2, none⟩ = some (.int .i64 r.s0) := fun y => Since.cell (by simp [go_sem]) (by first | (simp; done) | (simp; omega)) y
  have hb1_3 : ∀ y : Since ((x.w.alloc (.cells #[.int .i64 r.id, .int .i64 r.rd, .int .i64 r.s0, .int .i64 r.s1, .int .i64 r.e0, .int .i64 r.e1, .bool r.op, .slice la1 r.legs.length r.lc, .slice pa1 r.pauses.length r.pc, .int .i64 r.fw, .int .i64 r.fp, .int .i64 r.wh, .int .i64 r.pl] 52)).alloc (.cells #[.int .i64 r.id, .int .i64 r.rd, .int .i64 r.s0, .int .i64 r.s1, .int .i64 r.e0, .int .i64 r.e1, .bool r.op, .slice la r.legs.length lc, .slice pa r.pauses.length pc, .int .i64 r.fw, .int .i64 r.fp, .int .i64 r.wh, .int .i64 r.pl] 52)), y.w.cell? ⟨x.w.heap.size + 1, 3, none⟩ = some (.int .i64 r.s1) := fun y => Since.cell (by simp [go_sem]) (by first | (simp; done) | (simp; omega)) y
  have hb1_4 : ∀ y : Since ((x.w.alloc (.cells #[.int .i64 r.id, .int .i64 r.rd, .int .i64 r.s0, .int .i64 r.s1, .int .i64 r.e0, .int .i64 r.e1, .bool r.op, .slice la1 r.legs.length r.lc, .slice pa1 r.pauses.length r.pc, .int .i64 r.fw, .int .i64 r.fp, .int .i64 r.wh, .int .i64 r.pl] 52)).alloc (.cells #[.int .i64 r.id, .int .i64 r.rd, .int .i64 r.s0, .int .i64 r.s1, .int .i64 r.e0, .int .i64 r.e1, .bool r.op, .slice la r.legs.length lc, .slice pa r.pauses.length pc, .int .i64 r.fw, .int .i64 r.fp, .int .i64 r.wh, .int .i64 r.pl] 52)), y.w.cell? ⟨x.w.heap.size + 1, 4, none⟩ = some (.int .i64 r.e0) := fun y => Since.cell (by simp [go_sem]) (by first | (simp; done) | (simp; omega)) y
  have hb1_5 : ∀ y : Since ((x.w.alloc (.cells #[.int .i64 r.id, .int .i64 r.rd, .int .i64 r.s0, .int .i64 r.s1, .int .i64 r.e0, .int .i64 r.e1, .bool r.op, .slice la1 r.legs.length r.lc, .slice pa1 r.pauses.length r.pc, .int .i64 r.fw, .int .i64 r.fp, .int .i64 r.wh, .int .i64 r.pl] 52)).alloc (.cells #[.int .i64 r.id, .int .i64 r.rd, .int .i64 r.s0, .int .i64 r.s1, .int .i64 r.e0, .int .i64 r.e1, .bool r.op, .slice la r.legs.length lc, .slice pa r.pauses.length pc, .int .i64 r.fw, .int .i64 r.fp, .int .i64 r.wh, .int .i64 r.pl] 52)), y.w.cell? ⟨x.w.heap.size + 1, 5, none⟩ = some (.int .i64 r.e1) := fun y => Since.cell (by simp [go_sem]) (by first | (simp; done) | (simp; omega)) y
  have hb1_6 : ∀ y : Since ((x.w.alloc (.cells #[.int .i64 r.id, .int .i64 r.rd, .int .i64 r.s0, .int .i64 r.s1, .int .i64 r.e0, .int .i64 r.e1, .bool r.op, .slice la1 r.legs.length r.lc, .slice pa1 r.pauses.length r.pc, .int .i64 r.fw, .int .i64 r.fp, .int .i64 r.wh, .int .i64 r.pl] 52)).alloc (.cells #[.int .i64 r.id, .int .i64 r.rd, .int .i64 r.s0, .int .i64 r.s1, .int .i64 r.e0, .int .i64 r.e1, .bool r.op, .slice la r.legs.length lc, .slice pa r.pauses.length pc, .int .i64 r.fw, .int .i64 r.fp, .int .i64 r.wh, .int .i64 r.pl] 52)), y.w.cell? ⟨x.w.heap.size + 1, 6, none⟩ = some (.bool r.op) := fun y => Since.cell (by simp [go_sem]) (by first | (simp; done) | (simp; omega)) y
  have hb1_7 : ∀ y : Since ((x.w.alloc (.cells #[.int .i64 r.id, .int .i64 r.rd, .int .i64 r.s0, .int .i64 r.s1, .int .i64 r.e0, .int .i64 r.e1, .bool r.op, .slice la1 r.legs.length r.lc, .slice pa1 r.pauses.length r.pc, .int .i64 r.fw, .int .i64 r.fp, .int .i64 r.wh, .int .i64 r.pl] 52)).alloc (.cells #[.int .i64 r.id, .int .i64 r.rd, .int .i64 r.s0, .int .i64 r.s1, .int .i64 r.e0, .int .i64 r.e1, .bool r.op, .slice la r.legs.length lc, .slice pa r.pauses.length pc, .int .i64 r.fw, .int .i64 r.fp, .int .i64 r.wh, .int .i64 r.pl] 52)), y.w.cell? ⟨x.w.heap.size + 1, 7, none⟩ = some (.slice la r.legs.length lc) := fun y => Since.cell (by simp [go_sem]) (by first | (simp; done) | (simp; omega)) y
  have hb1_8 : ∀ y : Since ((x.w.alloc (.cells #[.int .i64 r.id, .int .i64 r.rd, .int .i64 r.s0, .int .i64 r.s1, .int .i64 r.e0, .int .i64 r.e1, .bool r.op, .slice la1 r.legs.length r.lc, .slice pa1 r.pauses.length r.pc, .int .i64 r.fw, .int .i64 r.fp, .int .i64 r.wh, .int .i64 r.pl] 52)).alloc (.cells #[.int .i64 r.id, .int .i64 r.rd, .int .i64 r.s0, .int .i64 r.s1, .int .i64 r.e0, .int .i64 r.e1, .bool r.op, .slice la r.legs.length lc, .slice pa r.pauses.length pc, .int .i64 r.fw, .int .i64 r.fp, .int .i64 r.wh, .int .i64 r.pl] 52)), y.w.cell? ⟨x.w.heap.size + 1, 8, none⟩ = some (.slice pa r.pauses.length pc) := fun y => Since.cell (by simp [go_sem]) (by first | (simp; done) | (simp; omega)) y
  have hb1_9 : ∀ y : Since ((x.w.alloc (.cells #[.int .i64 r.id, .int .i64 r.rd, .int .i64 r.s0, .int .i64 r.s1, .int .i64 r.e0, .int .i64 r.e1, .bool r.op, .slice la1 r.legs.length r.lc, .slice pa1 r.pauses.length r.pc, .int .i64 r.fw, .int .i64 r.fp, .int .i64 r.wh, .int .i64 r.pl] 52)).alloc (.cells #[.int .i64 r.id, .int .i64 r.rd, .int .i64 r.s0, .int .i64 r.s1, .int .i64 r.e0, .int .i64 r.e1, .bool r.op, .slice la r.legs.length lc, .slice pa r.pauses.length pc, .int .i64 r.fw, .int .i64 r.fp, .int .i64 r.wh, .int .i64 r.pl] 52)), y.w.cell? ⟨x.w.heap.size + 1, 9, none⟩ = some (.int .i64 r.fw) := fun y => Since.cell (by simp [go_sem]) (by first | (simp; done) | (simp; omega)) y
  have hb1_10 : ∀ y : Since ((x.w.alloc (.cells #[.int .i64 r.id, .int .i64 r.rd, .int .i64 r.s0, .int .i64 r.s1, .int .i64 r.e0, .int .i64 r.e1, .bool r.op, .slice la1 r.legs.length r.lc, .slice pa1 r.pauses.length r.pc, .int .i64 r.fw, .int .i64 r.fp, .int .i64 r.wh, .int .i64 r.pl] 52)).alloc (.cells #[.int .i64 r.id, .int .i64 r.rd, .int .i64 r.s0, .int .i64 r.s1, .int .i64 r.e0, .int .i64 r.e1, .bool r.op, .slice la r.legs.length lc, .slice pa r.pauses.length pc, .int .i64 r.fw, .int .i64 r.fp, .int .i64 r.wh, .int .i64 r.pl] 52)), y.w.cell? ⟨x.w.heap.size + 1, 10, none⟩ = some (.int .i64 r.fp) := fun y => Since.cell (by simp [go_sem]) (by first | (simp; done) | (simp; omega)) y
  have hb1_11 : ∀ y : Since ((x.w.alloc (.cells #[.int .i64 r.id, .int .i64 r.rd, .int .i64 r.s0, .int .i64 r.s1, .int .i64 r.e0, .int .i64 r.e1, .bool r.op, .slice la1 r.legs.length r.lc, .slice pa1 r.pauses.length r.pc, .int .i64 r.fw, .int .i64 r.fp, .int .i64 r.wh, .int .i64 r.pl] 52)).alloc (.cells #[.int .i64 r.id, .int .i64 r.rd, .int .i64 r.s0, .int .i64 r.s1, .int .i64 r.e0, .int .i64 r.e1, .bool r.op, .slice la r.legs.length lc, .slice pa r.pauses.length pc, .int .i64 r.fw, .int .i64 r.fp, .int .i64 r.wh, .int .i64 r.pl] 52)), y.w.cell? ⟨x.w.heap.size + 1, 11, none⟩ = some (.int .i64 r.wh) := fun y => Since.cell (by simp [go_sem]) (by first | (simp; done) | (simp; omega)) y
  have hb1_12 : ∀ y : Since ((x.w.alloc (.cells #[.int .i64 r.id, .int .i64 r.rd, .int .i64 r.s0, .int .i64 r.s1, .int .i64 r.e0, .int .i64 r.e1, .bool r.op, .slice la1 r.legs.length r.lc, .slice pa1 r.pauses.length r.pc, .int .i64 r.fw, .int .i64 r.fp, .int .i64 r.wh, .int .i64 r.pl] 52)).alloc (.cells #[.int .i64 r.id, .int .i64 r.rd, .int .i64 r.s0, .int .i64 r.s1, .int .i64 r.e0, .int .i64 r.e1, .bool r.op, .slice la r.legs.length lc, .slice pa r.pauses.length pc, .int .i64 r.fw, .int .i64 r.fp, .int .i64 r.wh, .int .i64 r.pl] 52)), y.w.cell? ⟨x.w.heap.size + 1, 12, none⟩ = some (.int .i64 r.pl) := fun y => Since.cell (by simp [go_sem]) (by first | (simp; done) | (simp; omega)) y
  have hf1 : ∀ (y : Since ((x.w.alloc (.cells #[.int .i64 r.id, .int .i64 r.rd, .int .i64 r.s0, .int .i64 r.s1, .int .i64 r.e0, .int .i64 r.e1, .bool r.op, .slice la1 r.legs.length r.lc, .slice pa1 r.pauses.length r.pc, .int .i64 r.fw, .int .i64 r.fp, .int .i64 r.wh, .int .i64 r.pl] 52)).alloc (.cells #[.int .i64 r.id, .int .i64 r.rd, .int .i64 r.s0, .int .i64 r.s1, .int .i64 r.e0, .int .i64 r.e1, .bool r.op, .slice la r.legs.length lc, .slice pa r.pauses.length pc, .int .i64 r.fw, .int .i64 r.fp, .int .i64 r.wh, .int .i64 r.pl] 52))) (o : Nat), y.w.frozen? ⟨x.w.heap.size + 1, o, none⟩ = false := fun y o => Since.free (by simp [go_sem]) (by first | (simp; done) | (simp; omega)) y
  have hWup : ∃ z : Since w, ((x.w.alloc (.cells #[.int .i64 r.id, .int .i64 r.rd, .int .i64 r.s0, .int .i64 r.s1, .int .i64 r.e0, .int .i64 r.e1, .bool r.op, .slice la1 r.legs.length r.lc, .slice pa1 r.pauses.length r.pc, .int .i64 r.fw, .int .i64 r.fp, .int .i64 r.wh, .int .i64 r.pl] 52)).alloc (.cells #[.int .i64 r.id, .int .i64 r.rd, .int .i64 r.s0, .int .i64 r.s1, .int .i64 r.e0, .int .i64 r.e1, .bool r.op, .slice la r.legs.length lc, .slice pa r.pauses.length pc, .int .i64 r.fw, .int .i64 r.fp, .int .i64 r.wh, .int .i64 r.pl] 52)) = z.w := Since.allocs x [.cells #[.int .i64 r.id, .int .i64 r.rd, .int .i64 r.s0, .int .i64 r.s1, .int .i64 r.e0, .int .i64 r.e1, .bool r.op, .slice la1 r.legs.length r.lc, .slice pa1 r.pauses.length r.pc, .int .i64 r.fw, .int .i64 r.fp, .int .i64 r.wh, .int .i64 r.pl] 52, .cells #[.int .i64 r.id, .int .i64 r.rd, .int .i64 r.s0, .int .i64 r.s1, .int .i64 r.e0, .int .i64 r.e1, .bool r.op, .slice la r.legs.length lc, .slice pa r.pauses.length pc, .int .i64 r.fw, .int .i64 r.fp, .int .i64 r.wh, .int .i64 r.pl] 52]
  obtain ⟨y0, hy0⟩ := Since.refl ((x.w.alloc (.cells #[.int .i64 r.id, .int .i64 r.rd, .int .i64 r.s0, .int .i64 r.s1, .int .i64 r.e0, .int .i64 r.e1, .bool r.op, .slice la1 r.legs.length r.lc, .slice pa1 r.pauses.length r.pc, .int .i64 r.fw, .int .i64 r.fp, .int .i64 r.wh, .int .i64 r.pl] 52)).alloc (.cells #[.int .i64 r.id, .int .i64 r.rd, .int .i64 r.s0, .int .i64 r.s1, .int .i64 r.e0, .int .i64 r.e1, .bool r.op, .slice la r.legs.length lc, .slice pa r.pauses.length pc, .int .i64 r.fw, .int .i64 r.fp, .int .i64 r.wh, .int .i64 r.pl] 52))
  have Hbx := Lib.hid (And.intro x.b.size (show x.w.heap.size + 2 = ((x.w.alloc (.cells #[.int .i64 r.id, .int .i64 r.rd, .int .i64 r.s0, .int .i64 r.s1, .int .i64 r.e0, .int .i64 r.e1, .bool r.op, .slice la1 r.legs.length r.lc, .slice pa1 r.pauses.length r.pc, .int .i64 r.fw, .int .i64 r.fp, .int .i64 r.wh, .int .i64 r.pl] 52)).alloc (.cells #[.int .i64 r.id, .int .i64 r.rd, .int .i64 r.s0, .int .i64 r.s1, .int .i64 r.e0, .int .i64 r.e1, .bool r.op, .slice la r.legs.length lc, .slice pa r.pauses.length pc, .int .i64 r.fw, .int .i64 r.fp, .int .i64 r.wh, .int .i64 r.pl] 52)).heap.size from by simp))
  generalize hW : ((x.w.alloc (.cells #[.int .i64 r.id, .int .i64 r.rd, .int .i64 r.s0, .int .i64 r.s1, .int .i64 r.e0, .int .i64 r.e1, .bool r.op, .slice la1 r.legs.length r.lc, .slice pa1 r.pauses.length r.pc, .int .i64 r.fw, .int .i64 r.fp, .int .i64 r.wh, .int .i64 r.pl] 52)).alloc (.cells #[.int .i64 r.id, .int .i64 r.rd, .int .i64 r.s0, .int .i64 r.s1, .int .i64 r.e0, .int .i64 r.e1, .bool r.op, .slice la r.legs.length lc, .slice pa r.pauses.length pc, .int .i64 r.fw, .int .i64 r.fp, .int .i64 r.wh, .int .i64 r.pl] 52)) = W at *
  clear hW
  generalize x.w.heap.size = bx at *
  have Hup := Lib.hid (Since.up hWup)
  rw [hy0]
  clear hy0
  replace HL := Lib.hid (HL.out.to hWup)
  replace HP := Lib.hid (HP.out.to hWup)
  replace HL2 := Lib.hid (HL2.out.to hWup)
  replace HP2 := Lib.hid (HP2.out.to hWup)
  clear hWup hf0 hf1 Hbx
  have q1 := span_equal r.s0 r.s1 r.s0 r.s1
  have q2 := span_equal r.e0 r.e1 r.e0 r.e1
  have hgd := span_guard
  have hgl := leg_guard
  have hgp := pse_guard
  simp only [decide_true, Bool.and_self] at q1 q2
  go_wp2_with fail
  go_loopw [5] (fun i wr => ∃ (k : Nat) (y : Since W), k ≤ r.legs.length ∧ i = .int .i64 (k : Int) ∧ wr = y.w) (fun i _ => r.legs.length - (intOf i).toNat)
  case atStart => exact ⟨0, y0, by omega, rfl, rfl⟩
  case round =>
    obtain ⟨k, y, hk, rfl, rfl⟩ := hrel
    by_cases hlt : k < r.legs.length
    · have hk0 : (0 : Int) ≤ (k : Int) := by omega
      have hkl : (k : Int) < (r.legs.length : Int) := by omega
      obtain ⟨e, he⟩ : ∃ e, r.legs[k]? = some e := ⟨_, List.getElem?_eq_getElem hlt⟩
      obtain ⟨b1, off1, hx1, h1'⟩ := Els.leg HL.out he
      obtain ⟨b2, off2, hx2, h2'⟩ := Els.leg HL2.out he
      have ra0 := h1'.c0
      have ra1 := h1'.c1
      have ra2 := h1'.c2
      have ra3 := h1'.c3
      have ra4 := h1'.c4
      have rb0 := h2'.c0
      have rb1 := h2'.c1
      have rb2 := h2'.c2
      have rb3 := h2'.c3
      have rb4 := h2'.c4
      have hq := leg_self e
      subst hx1 hx2
      clear h1' h2' he
      go_wp2_with fail
      refine wp_region_since (by kernel_rfl) (by kernel_rfl) ?_
      repeat (go_big_quiet_step (fail))
      refine wpQuiet_nil ?_
      rintro _ ⟨z, rfl⟩
      go_wp2_with fail
      go_roundw
      case rel => exact ⟨k + 1, z, by omega, by go_num, rfl⟩
      case measure => simp [intOf] <;> omega
    · obtain rfl : k = r.legs.length := by omega
      go_wp2_with fail
      go_loopw [6] (fun i wr => ∃ (k : Nat) (y : Since W), k ≤ r.pauses.length ∧ i = .int .i64 (k : Int) ∧ wr = y.w) (fun i _ => r.pauses.length - (intOf i).toNat)
      case atStart => exact ⟨0, y, by omega, rfl, rfl⟩
      case round =>
        obtain ⟨k, y, hk, rfl, rfl⟩ := hrel
        by_cases hlt : k < r.pauses.length
        · have hk0 : (0 : Int) ≤ (k : Int) := by omega
          have hkl : (k : Int) < (r.pauses.length : Int) := by omega
          obtain ⟨e, he⟩ : ∃ e, r.pauses[k]? = some e := ⟨_, List.getElem?_eq_getElem hlt⟩
          obtain ⟨b1, off1, hx1, h1'⟩ := Els.pse HP.out he
          obtain ⟨b2, off2, hx2, h2'⟩ := Els.pse HP2.out he
          have ra0 := h1'.c0
          have ra1 := h1'.c1
          have ra2 := h1'.c2
          have ra3 := h1'.c3
          have rb0 := h2'.c0
          have rb1 := h2'.c1
          have rb2 := h2'.c2
          have rb3 := h2'.c3
          have hq := pse_self e
          subst hx1 hx2
          clear h1' h2' he
          go_wp2_with fail
          refine wp_region_since (by kernel_rfl) (by kernel_rfl) ?_
          repeat (go_big_quiet_step (fail))
          refine wpQuiet_nil ?_
          rintro _ ⟨z, rfl⟩
          go_wp2_with fail
          go_roundw
          case rel => exact ⟨k + 1, z, by omega, by go_num, rfl⟩
          case measure => simp [intOf] <;> omega
        · obtain rfl : k = r.pauses.length := by omega
          go_wp2_with fail
          go_ret
          exact ⟨rfl, Hup.out _⟩
/-- equal lists of rides -/
theorem rows_at {L M : List Ride} (h : M.map Ride.bare = L.map Ride.bare) : M.length = L.length ∧ ∀ (k : Nat) (e g : Ride), L[k]? = some e → M[k]? = some g → g = e.with g.la g.lc g.pa g.pc := by
  refine ⟨by have := congrArg List.length h; rwa [List.length_map, List.length_map] at this, fun k e g he hg => bare_with ?_⟩
  have h2 := congrArg (fun l : List Ride => l[k]?) h
  simp only [List.getElem?_map, he, hg, Option.map_some, Option.some.injEq] at h2
  exact h2
set_option maxRecDepth 100000 in
set_option maxHeartbeats 8000000 in
theorem sameR_calls (w : World) (x : Since w) (a : Option Addr) (L : List Ride) (c : Nat) (b : Option Addr) (M : List Ride) (d : Nat) (h1 : RideRow w a L) (h2 : RideRow w b M) (hM : M.map Ride.bare = L.map Ride.bare) (hl : L.length ≤ 9223372036854775807) :
    Calls Try.prog 15 #[.slice a L.length c, .slice b M.length d] x.w (Yes w) := by
  have HL := Lib.hid h1
  have HM := Lib.hid h2
  have Hat := Lib.hid (rows_at hM)
  clear h1 h2 hM
  rw [Hat.out.1]
  go_enter Try.func15, Try.ntmps15
  go_wp2_with fail
  go_loopw [5] (fun i wr => ∃ (k : Nat) (y : Since w), k ≤ L.length ∧ i = .int .i64 (k : Int) ∧ wr = y.w) (fun i _ => L.length - (intOf i).toNat)
  case atStart => exact ⟨0, x, by omega, rfl, rfl⟩
  case round =>
    obtain ⟨k, y, hk, rfl, rfl⟩ := hrel
    by_cases hlt : k < L.length
    · have hk0 : (0 : Int) ≤ (k : Int) := by omega
      have hkl : (k : Int) < (L.length : Int) := by omega
      obtain ⟨e, he⟩ : ∃ e, L[k]? = some e := ⟨_, List.getElem?_eq_getElem hlt⟩
      obtain ⟨g, hg⟩ : ∃ g, M[k]? = some g := ⟨_, List.getElem?_eq_getElem (by rw [Hat.out.1]; exact hlt)⟩
      obtain ⟨b1, off1, hx1, h1'⟩ := Els.ride HL.out.c he
      obtain ⟨b2, off2, hx2, h2'⟩ := Els.ride HM.out.c hg
      have hge := Hat.out.2 k e g he hg
      have hea := HL.out.r e (List.mem_of_getElem? he)
      have hga := HM.out.r g (List.mem_of_getElem? hg)
      generalize g.la = la at *
      generalize g.lc = lc at *
      generalize g.pa = pa at *
      generalize g.pc = pc at *
      subst hge
      have Hcall := Lib.hid (fun y : Since w => sameRide_calls w y e la lc pa pc hea hga.l hga.p)
      have ra0 := h1'.c0
      have ra1 := h1'.c1
      have ra2 := h1'.c2
      have ra3 := h1'.c3
      have ra4 := h1'.c4
      have ra5 := h1'.c5
      have ra6 := h1'.c6
      have ra7 := h1'.c7
      have ra8 := h1'.c8
      have ra9 := h1'.c9
      have ra10 := h1'.c10
      have ra11 := h1'.c11
      have ra12 := h1'.c12
      have rb0 := h2'.c0
      have rb1 := h2'.c1
      have rb2 := h2'.c2
      have rb3 := h2'.c3
      have rb4 := h2'.c4
      have rb5 := h2'.c5
      have rb6 := h2'.c6
      have rb7 := h2'.c7
      have rb8 := h2'.c8
      have rb9 := h2'.c9
      have rb10 := h2'.c10
      have rb11 := h2'.c11
      have rb12 := h2'.c12
      simp only [Ride.with] at rb0 rb1 rb2 rb3 rb4 rb5 rb6 rb7 rb8 rb9 rb10 rb11 rb12
      subst hx1 hx2
      clear h1' h2' he hg hea hga
      go_wp2_with fail
      refine wp_region_since (by kernel_rfl) (by kernel_rfl) ?_
      repeat (go_big_quiet_step ((go_at_call 26; exact Hcall.out _)))
      refine wpQuiet_nil ?_
      rintro _ ⟨z, rfl⟩
      go_wp2_with fail
      go_roundw
      case rel => exact ⟨k + 1, z, by omega, by go_num, rfl⟩
      case measure => simp [intOf] <;> omega
    · obtain rfl : k = L.length := by omega
      go_wp2_with fail
      go_ret
      exact ⟨rfl, _, rfl⟩
end Go.Proofs.Ytdmmjapccgeffaa
/- Trips between zones, the program: zones. -/
namespace Go.Proofs.Ytdmmjapccgeffaa
open Go.RowKit

def badz1 (z : Int) : Bool := decide (z < 0) || decide (8 ≤ z)
theorem badZ_of {zs : List Int} {k : Nat} {z : Int} (hz : zs[k]? = some z) (h : badz1 z = true) : badZ zs = true := by
  unfold badZ; rw [List.any_eq_true]; exact ⟨z, List.mem_of_getElem? hz, h⟩
theorem badZ_no {zs : List Int} (h : ∀ j, j < zs.length → ∀ z, zs[j]? = some z → badz1 z = false) : badZ zs = false := by
  unfold badZ
  rw [List.any_eq_false]
  intro z hz
  obtain ⟨j, hj⟩ := List.mem_iff_getElem?.1 hz
  have := h j (List.getElem?_eq_some_iff.1 hj).1 z hj
  unfold badz1 at this
  rw [this]; simp
theorem zone_bad {zs : List Int} (h : zlenB zs = false ∨ badZ zs = true) (wh pl : Int) : zoneE zs wh pl = 3 ∧ zoneV zs wh pl = 0 := by
  have he : zoneE zs wh pl = 3 := if_pos h
  exact ⟨he, by unfold zoneV; rw [if_neg (by rw [he]; decide)]⟩
section
variable {zs : List Int} (h1 : zlenB zs = true) (h2 : badZ zs = false)
include h1 h2
theorem zone_st {pl : Int} (h : 0 ≤ pl ∧ pl < 64) : zoneE zs 2 pl = 0 ∧ zoneV zs 2 pl = at0 zs pl.toNat := by
  have he : zoneE zs 2 pl = 0 := by unfold zoneE; rw [if_neg (by rw [h1, h2]; simp), if_pos rfl, if_pos h]
  exact ⟨he, by unfold zoneV; rw [if_pos he, if_pos rfl]⟩
theorem zone_st_no {pl : Int} (h : ¬ (0 ≤ pl ∧ pl < 64)) : zoneE zs 2 pl = 7 ∧ zoneV zs 2 pl = 0 := by
  have he : zoneE zs 2 pl = 7 := by unfold zoneE; rw [if_neg (by rw [h1, h2]; simp), if_pos rfl, if_neg h]
  exact ⟨he, by unfold zoneV; rw [if_neg (by rw [he]; decide)]⟩
theorem zone_dk {pl : Int} (h : 0 ≤ pl ∧ pl / 32 < (zs.length : Int) - 64) : zoneE zs 1 pl = 0 ∧ zoneV zs 1 pl = at0 zs (64 + pl / 32).toNat := by
  have he : zoneE zs 1 pl = 0 := by unfold zoneE; rw [if_neg (by rw [h1, h2]; simp), if_neg (by decide), if_pos rfl, if_pos h]
  exact ⟨he, by unfold zoneV; rw [if_pos he, if_neg (by decide)]⟩
theorem zone_dk_no {pl : Int} (h : ¬ (0 ≤ pl ∧ pl / 32 < (zs.length : Int) - 64)) : zoneE zs 1 pl = 7 ∧ zoneV zs 1 pl = 0 := by
  have he : zoneE zs 1 pl = 7 := by unfold zoneE; rw [if_neg (by rw [h1, h2]; simp), if_neg (by decide), if_pos rfl, if_neg h]
  exact ⟨he, by unfold zoneV; rw [if_neg (by rw [he]; decide)]⟩
theorem zone_kind {wh pl : Int} (ha : wh ≠ 1) (hb : wh ≠ 2) : zoneE zs wh pl = 14 ∧ zoneV zs wh pl = 0 := by
  have he : zoneE zs wh pl = 14 := by unfold zoneE; rw [if_neg (by rw [h1, h2]; simp), if_neg hb, if_neg ha]
  exact ⟨he, by unfold zoneV; rw [if_neg (by rw [he]; decide)]⟩
end
theorem badz1_calls (z : Int) (w : World) : Calls Try.prog 37 #[.int .i64 z] w fun o w' => o = .returned (.bool (badz1 z)) ∧ w = w' := by
  rcases (by omega : z < 0 ∨ (¬ z < 0 ∧ 8 ≤ z) ∨ (¬ z < 0 ∧ z < 8)) with h | ⟨h, h'⟩ | ⟨h, h'⟩
  · have Hr := Lib.hid (show badz1 z = true by unfold badz1; rw [decide_eq_true h]; rfl)
    go_enter Try.func37, Try.ntmps37
    go_wp2_with fail
    go_ret
    exact ⟨ret_bool (by first | (rw [Hr.out]; done) | (rw [Hr.out]; rfl) | (rw [Hr.out]; simp; done) | (rw [Hr.out]; simp; omega)), rfl⟩
  · have Hr := Lib.hid (show badz1 z = true by unfold badz1; rw [decide_eq_true h']; simp)
    go_enter Try.func37, Try.ntmps37
    go_wp2_with fail
    go_ret
    exact ⟨ret_bool (by first | (rw [Hr.out]; done) | (rw [Hr.out]; rfl) | (rw [Hr.out]; simp; done) | (rw [Hr.out]; simp; omega)), rfl⟩
  · have Hr := Lib.hid (show badz1 z = false by unfold badz1; rw [decide_eq_false h, decide_eq_false (by omega)]; rfl)
    go_enter Try.func37, Try.ntmps37
    go_wp2_with fail
    go_ret
    exact ⟨ret_bool (by first | (rw [Hr.out]; done) | (rw [Hr.out]; rfl) | (rw [Hr.out]; simp; done) | (rw [Hr.out]; simp; omega)), rfl⟩
def IdxZ (zs : List Int) (w : World) (o : Ending) (w' : World) : Prop := ∃ n : Int, o = .returned (.int .i64 n) ∧ w = w' ∧ (0 ≤ n ↔ badZ zs = true)
set_option maxHeartbeats 4000000 in
theorem idxZ_calls (w : World) (a : Option Addr) (zs : List Int) (c : Nat) (h : IntRow w a zs) (hl : zs.length ≤ 9223372036854775807) :
    Calls Try.prog 47 #[.slice a zs.length c, .func (.func 37) #[] #[]] w (IdxZ zs w) := by
  have H := Lib.hid h
  have Hpost := Lib.hid (fun (n : Int) (hn : 0 ≤ n ↔ badZ zs = true) => show IdxZ zs w (.returned (.int .i64 n)) w from ⟨n, rfl, rfl, hn⟩)
  generalize IdxZ zs w = PO at *
  clear h
  go_enter Try.func47, Try.ntmps47
  go_wp2_with fail
  go_loop [8] (fun i => ∃ k : Nat, k ≤ zs.length ∧ i = .int .i64 k ∧ ∀ j, j < k → ∀ z, zs[j]? = some z → badz1 z = false) (fun i => zs.length - (intOf i).toNat)
  case atStart => exact ⟨0, by omega, rfl, fun j hj => by omega⟩
  case round =>
    obtain ⟨k, hk, rfl, hok⟩ := hrel
    have Hok := Lib.hid hok; clear hok
    by_cases hlt : k < zs.length
    · obtain ⟨b, off, rfl, hb, hc⟩ := H.out k hlt
      change w.cell? ⟨b, off + k, none⟩ = some (.int .i64 (at0 zs k)) at hc
      have hk0 : (0 : Int) ≤ (k : Int) := by omega
      have hkl : (k : Int) < (zs.length : Int) := by omega
      have Hx := Lib.hid (show zs[k]? = some (at0 zs k) by unfold at0; rw [List.getD_eq_getElem?_getD, List.getElem?_eq_getElem hlt]; rfl)
      generalize at0 zs k = z at *
      have Hc := Lib.hid (fun w => badz1_calls z w)
      clear hb
      cases hz : badz1 z
      · rw [hz] at Hc
        have Hn := Lib.hid (upto_next (P := fun z => badz1 z = false) Hok.out Hx.out hz)
        clear hz
        go_wp2_with (go_at_call 37; ((with_reducible refine (Hc.out _).mono ?_); rintro _ _ ⟨rfl, rfl⟩))
        go_round
        case rel => exact ⟨k + 1, by omega, by go_num, Hn.out⟩
        case measure => simp [intOf] <;> omega
      · rw [hz] at Hc
        have Hr := Lib.hid (Hpost.out k ⟨fun _ => badZ_of Hx.out hz, fun _ => by omega⟩)
        clear hz
        go_wp2_with (go_at_call 37; ((with_reducible refine (Hc.out _).mono ?_); rintro _ _ ⟨rfl, rfl⟩))
        exact Hr.out
    · obtain rfl : k = zs.length := by omega
      have Hr := Lib.hid (Hpost.out (-1) ⟨fun h => by omega, fun h => by rw [badZ_no Hok.out] at h; cases h⟩)
      go_wp2_with fail
      exact Hr.out
theorem anyZ_calls (w : World) (a : Option Addr) (zs : List Int) (c : Nat) (h : IntRow w a zs) (hl : zs.length ≤ 9223372036854775807) :
    Calls Try.prog 36 #[.slice a zs.length c, .func (.func 37) #[] #[]] w fun o w' => o = .returned (.bool (badZ zs)) ∧ w = w' := by
  have Hc := Lib.hid (idxZ_calls w a zs c h hl)
  clear h
  go_enter Try.func36, Try.ntmps36
  go_wp2_with fail
  refine Hc.out.mono ?_
  rintro _ _ ⟨n, rfl, rfl, hn⟩
  have Hn := Lib.hid hn
  clear hn
  by_cases h0 : 0 ≤ n
  · have Hr := Lib.hid (Hn.out.1 h0)
    go_wp2_with fail
    go_ret
    exact ⟨ret_bool (by first | (rw [Hr.out]; done) | (rw [Hr.out]; rfl) | (rw [Hr.out]; simp; done) | (rw [Hr.out]; simp; omega)), rfl⟩
  · have Hr := Lib.hid (show badZ zs = false by cases hb : badZ zs; rfl; exact (h0 (Hn.out.2 hb)).elim)
    go_wp2_with fail
    go_ret
    exact ⟨ret_bool (by first | (rw [Hr.out]; done) | (rw [Hr.out]; rfl) | (rw [Hr.out]; simp; done) | (rw [Hr.out]; simp; omega)), rfl⟩
def ZRes (zs : List Int) (wh pl : Int) (w : World) (o : Ending) (w' : World) : Prop := o = .returned (.tuple #[.int .i64 (zoneV zs wh pl), .int .i64 (zoneE zs wh pl)]) ∧ w = w'
theorem zRes {zs : List Int} {wh pl v e : Int} (h : zoneE zs wh pl = e ∧ zoneV zs wh pl = v) (w : World) : ZRes zs wh pl w (.returned (.tuple #[.int .i64 v, .int .i64 e])) w := by
  obtain ⟨rfl, rfl⟩ := h; exact ⟨rfl, rfl⟩
set_option maxRecDepth 100000 in
set_option maxHeartbeats 4000000 in
theorem zone_calls (w : World) (a : Option Addr) (zs : List Int) (c : Nat) (wh pl : Int) (h : IntRow w a zs) (hl : zs.length ≤ 9223372036854775807) (hpl : pl ≤ 9223372036854775807) :
    Calls Try.prog 16 #[.slice a zs.length c, .int .i64 wh, .int .i64 pl] w (ZRes zs wh pl w) := by
  have H := Lib.hid h
  have Hc := Lib.hid (anyZ_calls w a zs c h hl)
  have Hp := Lib.hid (fun (v e : Int) (h : zoneE zs wh pl = e ∧ zoneV zs wh pl = v) => zRes h w)
  generalize ZRes zs wh pl w = PO at *
  clear h
  by_cases hz : 64 ≤ zs.length ∧ zs.length ≤ 96
  case neg =>
    have HB := Lib.hid (Hp.out _ _ (zone_bad (Or.inl (show zlenB zs = false by unfold zlenB; rw [← Bool.decide_and]; exact decide_eq_false hz)) wh pl))
    rcases (by omega : zs.length < 64 ∨ (64 ≤ zs.length ∧ 96 < zs.length)) with h | ⟨h, h'⟩
    all_goals
      clear hz
      go_enter Try.func16, Try.ntmps16
      go_wp2_with fail
      exact HB.out
  obtain ⟨z1, z2⟩ := hz
  have hzl : zlenB zs = true := by unfold zlenB; rw [decide_eq_true z1, decide_eq_true z2]; rfl
  cases hb : badZ zs
  case true =>
    have HB := Lib.hid (Hp.out _ _ (zone_bad (Or.inr hb) wh pl))
    rw [hb] at Hc
    clear hb hzl
    go_enter Try.func16, Try.ntmps16
    go_wp2_with (go_at_call 36; ((with_reducible refine Hc.out.mono ?_); rintro _ _ ⟨rfl, rfl⟩))
    exact HB.out
  case false =>
    rw [hb] at Hc
    have Hzl := Lib.hid hzl
    have Hb := Lib.hid hb
    clear hzl hb
    by_cases h2 : wh = 2
    · subst h2
      by_cases hp : 0 ≤ pl ∧ pl < 64
      · obtain ⟨p, rfl⟩ : ∃ p : Nat, pl = p := ⟨pl.toNat, by omega⟩
        obtain ⟨b, off, rfl, hbl, hcell⟩ := H.out p (by omega)
        change w.cell? ⟨b, off + p, none⟩ = some (.int .i64 (at0 zs p)) at hcell
        have HB := Lib.hid (Hp.out _ _ (zone_st Hzl.out Hb.out hp))
        rw [Int.toNat_natCast] at HB
        obtain ⟨p1, p2⟩ := hp
        have p3 : (p : Int) < (zs.length : Int) := by omega
        clear hbl
        generalize at0 zs p = v at *
        go_enter Try.func16, Try.ntmps16
        go_wp2_with (go_at_call 36; ((with_reducible refine Hc.out.mono ?_); rintro _ _ ⟨rfl, rfl⟩))
        exact HB.out
      · have HB := Lib.hid (Hp.out _ _ (zone_st_no Hzl.out Hb.out hp))
        rcases (by omega : pl < 0 ∨ (0 ≤ pl ∧ 64 ≤ pl)) with h | ⟨h, h'⟩
        all_goals
          clear hp
          go_enter Try.func16, Try.ntmps16
          go_wp2_with (go_at_call 36; ((with_reducible refine Hc.out.mono ?_); rintro _ _ ⟨rfl, rfl⟩))
          exact HB.out
    · by_cases h1 : wh = 1
      · subst h1
        by_cases hp : 0 ≤ pl ∧ pl / 32 < (zs.length : Int) - 64
        · obtain ⟨p, rfl⟩ : ∃ p : Nat, pl = p := ⟨pl.toNat, by omega⟩
          obtain ⟨b, off, rfl, hbl, hcell⟩ := H.out (64 + p / 32) (by omega)
          change w.cell? ⟨b, off + (64 + p / 32), none⟩ = some (.int .i64 (at0 zs (64 + p / 32))) at hcell
          have HB := Lib.hid (Hp.out _ _ (zone_dk Hzl.out Hb.out hp))
          rw [show (64 + (p : Int) / 32).toNat = 64 + p / 32 by omega] at HB
          obtain ⟨p1, p2⟩ := hp
          have p3 : (0 : Int) ≤ 64 + (p : Int) / 32 := by omega
          have p4 : 64 + (p : Int) / 32 < (zs.length : Int) := by omega
          have p5 : (64 + (p : Int) / 32).toNat = 64 + p / 32 := by omega
          clear hbl h2
          generalize at0 zs (64 + p / 32) = v at *
          go_enter Try.func16, Try.ntmps16
          go_wp2_with (go_at_call 36; ((with_reducible refine Hc.out.mono ?_); rintro _ _ ⟨rfl, rfl⟩))
          exact HB.out
        · have HB := Lib.hid (Hp.out _ _ (zone_dk_no Hzl.out Hb.out hp))
          rcases (by omega : pl < 0 ∨ (0 ≤ pl ∧ ¬ pl / 32 < (zs.length : Int) - 64)) with h | ⟨h, h'⟩
          all_goals
            clear hp h2
            go_enter Try.func16, Try.ntmps16
            go_wp2_with (go_at_call 36; ((with_reducible refine Hc.out.mono ?_); rintro _ _ ⟨rfl, rfl⟩))
            exact HB.out
      · have HB := Lib.hid (Hp.out _ _ (zone_kind Hzl.out Hb.out h1 h2))
        have e1 : (wh == 1) = false := by simpa using h1
        have e2 : (wh == 2) = false := by simpa using h2
        clear h1 h2
        go_enter Try.func16, Try.ntmps16
        go_wp2_with (go_at_call 36; ((with_reducible refine Hc.out.mono ?_); rintro _ _ ⟨rfl, rfl⟩))
        exact HB.out
end Go.Proofs.Ytdmmjapccgeffaa
/- Trips between zones, the program: the ends of a ride; tables, their error, how far they are apart. -/
namespace Go.Proofs.Ytdmmjapccgeffaa
open Go.RowKit

def endA (zs : List Int) (r : Ride) : Int := if zoneE zs r.fw r.fp = 0 then fromZ zs r else 0
def endB (zs : List Int) (r : Ride) : Int := if zoneE zs r.fw r.fp = 0 then toZ zs r else 0
def EndRes (zs : List Int) (r : Ride) (w : World) (o : Ending) (w' : World) : Prop := o = .returned (.tuple #[.int .i64 (endA zs r), .int .i64 (endB zs r), .int .i64 (endE zs r)]) ∧ ∃ y : Since w, w' = y.w
theorem endRes {zs : List Int} {r : Ride} {w : World} {a b e : Int} (h : endA zs r = a ∧ endB zs r = b ∧ endE zs r = e) (y : Since w) : EndRes zs r w (.returned (.tuple #[.int .i64 a, .int .i64 b, .int .i64 e])) y.w := by
  obtain ⟨rfl, rfl, rfl⟩ := h; exact ⟨rfl, y, rfl⟩
set_option maxRecDepth 100000 in
set_option maxHeartbeats 4000000 in
theorem ends_calls (w : World) (x : Since w) (a : Option Addr) (zs : List Int) (c : Nat) (sz : Int) (r : Ride) (h : IntRow w a zs) (hl : zs.length ≤ 9223372036854775807) (hf : r.fp ≤ 9223372036854775807) (hp : r.pl ≤ 9223372036854775807) :
    Calls Try.prog 39 #[.slice a zs.length c, .int .i64 sz, .agg #[.int .i64 r.id, .int .i64 r.rd, .int .i64 r.s0, .int .i64 r.s1, .int .i64 r.e0, .int .i64 r.e1, .bool r.op, .slice r.la r.legs.length r.lc, .slice r.pa r.pauses.length r.pc, .int .i64 r.fw, .int .i64 r.fp, .int .i64 r.wh, .int .i64 r.pl]] x.w (EndRes zs r w) := by
  have H := Lib.hid h
  have Hp := Lib.hid (fun (a b e : Int) (h : endA zs r = a ∧ endB zs r = b ∧ endE zs r = e) (y : Since w) => endRes h y)
  generalize EndRes zs r w = PO at *
  clear h
  go_enter Try.func39, Try.ntmps39
  go_upto_region 1 with fail
  have hb0_0 : ∀ y : Since (x.w.alloc (.cells #[.int .i64 r.id, .int .i64 r.rd, .int .i64 r.s0, .int .i64 r.s1, .int .i64 r.e0, .int .i64 r.e1, .bool r.op, .slice r.la r.legs.length r.lc, .slice r.pa r.pauses.length r.pc, .int .i64 r.fw, .int .i64 r.fp, .int .i64 r.wh, .int .i64 r.pl] 52)), y.w.cell? ⟨x.w.heap.size, 0, none⟩ = some (.int .i64 r.id) := fun y => Since.cell (by simp [go_sem]) (by first | (simp; done) | (simp; omega)) y
  have hb0_1 : ∀ y : Since (x.w.alloc (.cells #[.int .i64 r.id, .int .i64 r.rd, .int .i64 r.s0, .int .i64 r.s1, .int .i64 r.e0, .int .i64 r.e1, .bool r.op, .slice r.la r.legs.length r.lc, .slice r.pa r.pauses.length r.pc, .int .i64 r.fw, .int .i64 r.fp, .int .i64 r.wh, .int .i64 r.pl] 52)), y.w.cell? ⟨x.w.heap.size, 1, none⟩ = some (.int .i64 r.rd) := fun y => Since.cell (by simp [go_sem]) (by first | (simp; done) | (simp; omega)) y
  have hb0_2 : ∀ y : Since (x.w.alloc (.cells #[.int .i64 r.id, .int .i64 r.rd, .int .i64 r.s0, .int .i64 r.s1, .int .i64 r.e0, .int .i64 r.e1, .bool r.op, .slice r.la r.legs.length r.lc, .slice r.pa r.pauses.length r.pc, .int .i64 r.fw, .int .i64 r.fp, .int .i64 r.wh, .int .i64 r.pl] 52)), y.w.cell? ⟨x.w.heap.size, 2, none⟩ = some (.int .i64 r.s0) := fun y => Since.cell (by simp [go_sem]) (by first | (simp; done) | (simp; omega)) y
  have hb0_3 : ∀ y : Since (x.w.alloc (.cells #[.int .i64 r.id, .int .i64 r.rd, .int .i64 r.s0, .int .i64 r.s1, .int .i64 r.e0, .int .i64 r.e1, .bool r.op, .slice r.la r.legs.length r.lc, .slice r.pa r.pauses.length r.pc, .int .i64 r.fw, .int .i64 r.fp, .int .i64 r.wh, .int .i64 r.pl] 52)), y.w.cell? ⟨x.w.heap.size, 3, none⟩ = some (.int .i64 r.s1) := fun y => Since.cell (by simp [go_sem]) (by first | (simp; done) | (simp; omega)) y
  have hb0_4 : ∀ y : Since (x.w.alloc (.cells #[.int .i64 r.id, .int .i64 r.rd, .int .i64 r.s0, .int .i64 r.s1, .int .i64 r.e0, .int .i64 r.e1, .bool r.op, .slice r.la r.legs.length r.lc, .slice r.pa r.pauses.length r.pc, .int .i64 r.fw, .int .i64 r.fp, .int .i64 r.wh, .int .i64 r.pl] 52)), y.w.cell? ⟨x.w.heap.size, 4, none⟩ = some (.int .i64 r.e0) := fun y => Since.cell (by simp [go_sem]) (by first | (simp; done) | (simp; omega)) y
  have hb0_5 : ∀ y : Since (x.w.alloc (.cells #[.int .i64 r.id, .int .i64 r.rd, .int .i64 r.s0, .int .i64 r.s1, .int .i64 r.e0, .int .i64 r.e1, .bool r.op, .slice r.la r.legs.length r.lc, .slice r.pa r.pauses.length r.pc, .int .i64 r.fw, .int .i64 r.fp, .int .i64 r.wh, .int .i64 r.pl] 52)), y.w.cell? ⟨x.w.heap.size, 5, none⟩ = some (.int .i64 r.e1) := fun y => Since.cell (by simp [go_sem]) (by first | (simp; done) | (simp; omega)) y
  have hb0_6 : ∀ y : Since (x.w.alloc (.cells #[.int .i64 r.id, .int .i64 r.rd, .int .i64 r.s0, .int .i64 r.s1, .int .i64 r.e0, .int .i64 r.e1, .bool r.op, .slice r.la r.legs.length r.lc, .slice r.pa r.pauses.length r.pc, .int .i64 r.fw, .int .i64 r.fp, .int .i64 r.wh, .int .i64 r.pl] 52)), y.w.cell? ⟨x.w.heap.size, 6, none⟩ = some (.bool r.op) := fun y => Since.cell (by simp [go_sem]) (by first | (simp; done) | (simp; omega)) y
  have hb0_7 : ∀ y : Since (x.w.alloc (.cells #[.int .i64 r.id, .int .i64 r.rd, .int .i64 r.s0, .int .i64 r.s1, .int .i64 r.e0, .int .i64 r.e1, .bool r.op, .slice r.la r.legs.length r.lc, .slice r.pa r.pauses.length r.pc, .int .i64 r.fw, .int .i64 r.fp, .int .i64 r.wh, .int .i64 r.pl] 52)), y.w.cell? ⟨x.w.heap.size, 7, none⟩ = some (.slice r.la r.legs.length r.lc) := fun y => Since.cell (by simp [go_sem]) (by first | (simp; done) | (simp; omega)) y
  have hb0_8 : ∀ y : Since (x.w.alloc (.cells #[.int .i64 r.id, .int .i64 r.rd, .int .i64 r.s0, .int .i64 r.s1, .int .i64 r.e0, .int .i64 r.e1, .bool r.op, .slice r.la r.legs.length r.lc, .slice r.pa r.pauses.length r.pc, .int .i64 r.fw, .int .i64 r.fp, .int .i64 r.wh, .int .i64 r.pl] 52)), y.w.cell? ⟨x.w.heap.size, 8, none⟩ = some (.slice r.pa r.pauses.length r.pc) := fun y => Since.cell (by simp [go_sem]) (by first | (simp; done) | (simp; omega)) y
  have hb0_9 : ∀ y : Since (x.w.alloc (.cells #[.int .i64 r.id, .int .i64 r.rd, .int .i64 r.s0, .int .i64 r.s1, .int .i64 r.e0, .int .i64 r.e1, .bool r.op, .slice r.la r.legs.length r.lc, .slice r.pa r.pauses.length r.pc, .int .i64 r.fw, .int .i64 r.fp, .int .i64 r.wh, .int .i64 r.pl] 52)), y.w.cell? ⟨x.w.heap.size, 9, none⟩ = some (.int .i64 r.fw) := fun y => Since.cell (by simp [go_sem]) (by first | (simp; done) | (simp; omega)) y
  have hb0_10 : ∀ y : Since (x.w.alloc (.cells #[.int .i64 r.id, .int .i64 r.rd, .int .i64 r.s0, .int .i64 r.s1, .int .i64 r.e0, .int .i64 r.e1, .bool r.op, .slice r.la r.legs.length r.lc, .slice r.pa r.pauses.length r.pc, .int .i64 r.fw, .int .i64 r.fp, .int .i64 r.wh, .int .i64 r.pl] 52)), y.w.cell? ⟨x.w.heap.size, 10, none⟩ = some (.int .i64 r.fp) := fun y => Since.cell (by simp [go_sem]) (by first | (simp; done) | (simp; omega)) y
  have hb0_11 : ∀ y : Since (x.w.alloc (.cells #[.int .i64 r.id, .int .i64 r.rd, .int .i64 r.s0, .int .i64 r.s1, .int .i64 r.e0, .int .i64 r.e1, .bool r.op, .slice r.la r.legs.length r.lc, .slice r.pa r.pauses.length r.pc, .int .i64 r.fw, .int .i64 r.fp, .int .i64 r.wh, .int .i64 r.pl] 52)), y.w.cell? ⟨x.w.heap.size, 11, none⟩ = some (.int .i64 r.wh) := fun y => Since.cell (by simp [go_sem]) (by first | (simp; done) | (simp; omega)) y
  have hb0_12 : ∀ y : Since (x.w.alloc (.cells #[.int .i64 r.id, .int .i64 r.rd, .int .i64 r.s0, .int .i64 r.s1, .int .i64 r.e0, .int .i64 r.e1, .bool r.op, .slice r.la r.legs.length r.lc, .slice r.pa r.pauses.length r.pc, .int .i64 r.fw, .int .i64 r.fp, .int .i64 r.wh, .int .i64 r.pl] 52)), y.w.cell? ⟨x.w.heap.size, 12, none⟩ = some (.int .i64 r.pl) := fun y => Since.cell (by simp [go_sem]) (by first | (simp; done) | (simp; omega)) y
  have hf0 : ∀ (y : Since (x.w.alloc (.cells #[.int .i64 r.id, .int .i64 r.rd, .int .i64 r.s0, .int .i64 r.s1, .int .i64 r.e0, .int .i64 r.e1, .bool r.op, .slice r.la r.legs.length r.lc, .slice r.pa r.pauses.length r.pc, .int .i64 r.fw, .int .i64 r.fp, .int .i64 r.wh, .int .i64 r.pl] 52))) (o : Nat), y.w.frozen? ⟨x.w.heap.size, o, none⟩ = false := fun y o => Since.free (by simp [go_sem]) (by first | (simp; done) | (simp; omega)) y
  have hWup : ∃ z : Since w, (x.w.alloc (.cells #[.int .i64 r.id, .int .i64 r.rd, .int .i64 r.s0, .int .i64 r.s1, .int .i64 r.e0, .int .i64 r.e1, .bool r.op, .slice r.la r.legs.length r.lc, .slice r.pa r.pauses.length r.pc, .int .i64 r.fw, .int .i64 r.fp, .int .i64 r.wh, .int .i64 r.pl] 52)) = z.w := x.alloc _
  obtain ⟨y0, hy0⟩ := Since.refl (x.w.alloc (.cells #[.int .i64 r.id, .int .i64 r.rd, .int .i64 r.s0, .int .i64 r.s1, .int .i64 r.e0, .int .i64 r.e1, .bool r.op, .slice r.la r.legs.length r.lc, .slice r.pa r.pauses.length r.pc, .int .i64 r.fw, .int .i64 r.fp, .int .i64 r.wh, .int .i64 r.pl] 52))
  have Hbx := Lib.hid (And.intro x.b.size (show x.w.heap.size + 1 = (x.w.alloc (.cells #[.int .i64 r.id, .int .i64 r.rd, .int .i64 r.s0, .int .i64 r.s1, .int .i64 r.e0, .int .i64 r.e1, .bool r.op, .slice r.la r.legs.length r.lc, .slice r.pa r.pauses.length r.pc, .int .i64 r.fw, .int .i64 r.fp, .int .i64 r.wh, .int .i64 r.pl] 52)).heap.size from by simp))
  generalize hW : (x.w.alloc (.cells #[.int .i64 r.id, .int .i64 r.rd, .int .i64 r.s0, .int .i64 r.s1, .int .i64 r.e0, .int .i64 r.e1, .bool r.op, .slice r.la r.legs.length r.lc, .slice r.pa r.pauses.length r.pc, .int .i64 r.fw, .int .i64 r.fp, .int .i64 r.wh, .int .i64 r.pl] 52)) = W at *
  clear hW
  generalize x.w.heap.size = bx at *
  have Hup := Lib.hid (Since.up hWup)
  rw [hy0]
  clear hy0
  replace H := Lib.hid (H.out.to hWup)
  clear hWup hf0
  have Z1 := Lib.hid (zone_calls y0.w a zs c r.fw r.fp (Since.row H.out y0) hl hf)
  have Z2 := Lib.hid (zone_calls y0.w a zs c r.wh r.pl (Since.row H.out y0) hl hp)
  by_cases he : zoneE zs r.fw r.fp = 0
  · have Hend := Lib.hid (fun y => Hp.out (zoneV zs r.fw r.fp) (zoneV zs r.wh r.pl) (zoneE zs r.wh r.pl) ⟨if_pos he, if_pos he, if_neg (by rw [he]; simp)⟩ y)
    unfold ZRes at Z1 Z2
    rw [he] at Z1
    clear he Hp
    generalize zoneV zs r.fw r.fp = v1 at *
    generalize zoneV zs r.wh r.pl = v2 at *
    generalize zoneE zs r.wh r.pl = e2 at *
    go_wp2_with fail
    refine Z1.out.mono ?_
    rintro _ _ ⟨rfl, rfl⟩
    go_wp2_with fail
    refine Z2.out.mono ?_
    rintro _ _ ⟨rfl, rfl⟩
    go_wp2_with fail
    obtain ⟨y, hy⟩ := Hup.out y0
    rw [hy]
    exact bodyPost_ret (v := .tuple #[.int .i64 v1, .int .i64 v2, .int .i64 e2]) (by simp [results, Try.results39, go_sem]) rfl (Hend.out y)
  · have hne : (zoneE zs r.fw r.fp != 0) = true := by simpa using he
    have Hend := Lib.hid (fun y => Hp.out 0 0 (zoneE zs r.fw r.fp) ⟨if_neg he, if_neg he, if_pos he⟩ y)
    unfold ZRes at Z1
    clear he Hp Z2
    generalize zoneV zs r.fw r.fp = v1 at *
    generalize zoneE zs r.fw r.fp = e1 at *
    go_wp2_with fail
    refine Z1.out.mono ?_
    rintro _ _ ⟨rfl, rfl⟩
    go_wp2_with fail
    obtain ⟨y, hy⟩ := Hup.out y0
    rw [hy]
    exact bodyPost_ret (v := .tuple #[.int .i64 0, .int .i64 0, .int .i64 e1]) (by simp [results, Try.results39, go_sem]) rfl (Hend.out y)
def badc1 (n : Int) : Bool := decide (n < -1000000) || decide (1000000 < n)
theorem chk_range {t : Tab} (h : t.r < 1 ∨ 8 < t.r ∨ t.c < 1 ∨ 8 < t.c) : chkE t = 1 := if_pos h
theorem chk_len {t : Tab} (h : ¬ (t.r < 1 ∨ 8 < t.r ∨ t.c < 1 ∨ 8 < t.c)) (h2 : (t.l.length : Int) ≠ t.r * t.c) : chkE t = 3 := by unfold chkE; rw [if_neg h, if_pos h2]
theorem chk_cell {t : Tab} (h : ¬ (t.r < 1 ∨ 8 < t.r ∨ t.c < 1 ∨ 8 < t.c)) (h2 : ¬ (t.l.length : Int) ≠ t.r * t.c) {k : Nat} {z : Int} (hz : t.l[k]? = some z) (hb : badc1 z = true) : chkE t = 1 := by
  unfold chkE; rw [if_neg h, if_neg h2]; exact if_pos (List.any_eq_true.2 ⟨z, List.mem_of_getElem? hz, hb⟩)
theorem chk_ok {t : Tab} (h : ¬ (t.r < 1 ∨ 8 < t.r ∨ t.c < 1 ∨ 8 < t.c)) (h2 : ¬ (t.l.length : Int) ≠ t.r * t.c) (hn : ∀ j, j < t.l.length → ∀ z, t.l[j]? = some z → badc1 z = false) : chkE t = 0 := by
  unfold chkE
  rw [if_neg h, if_neg h2, if_neg]
  intro hh
  obtain ⟨z, hz, hb⟩ := List.any_eq_true.1 hh
  obtain ⟨j, hj⟩ := List.mem_iff_getElem?.1 hz
  have := hn j (List.getElem?_eq_some_iff.1 hj).1 z hj
  unfold badc1 at this
  rw [this] at hb; cases hb
theorem tab_mul {a b : Int} (h : ¬ (a < 1 ∨ 8 < a ∨ b < 1 ∨ 8 < b)) : 1 ≤ a * b ∧ a * b ≤ 64 := by
  have h1 : 1 * 1 ≤ a * b := Int.mul_le_mul (by omega) (by omega) (by omega) (by omega)
  have h2 : a * b ≤ 8 * 8 := Int.mul_le_mul (by omega) (by omega) (by omega) (by omega)
  exact ⟨h1, h2⟩
set_option maxRecDepth 100000 in
set_option maxHeartbeats 4000000 in
theorem tcheck_calls (w : World) (x : Since w) (t : Tab) (a : Option Addr) (c : Nat) (h : IntRow w a t.l) (hl : t.l.length ≤ 9223372036854775807) :
    Calls Try.prog 24 #[.agg #[.int .i64 t.r, .int .i64 t.c, .slice a t.l.length c]] x.w fun o w' => o = .returned (.int .i64 (chkE t)) ∧ ∃ y : Since w, w' = y.w := by
  have H := Lib.hid h
  clear h
  generalize ha : a = a0 at *
  subst ha
  by_cases hr : t.r < 1 ∨ 8 < t.r ∨ t.c < 1 ∨ 8 < t.c
  · have Hr := Lib.hid (chk_range hr)
    rcases (by omega : t.r < 1 ∨ (¬ t.r < 1 ∧ 8 < t.r) ∨ (¬ t.r < 1 ∧ ¬ 8 < t.r ∧ t.c < 1) ∨ (¬ t.r < 1 ∧ ¬ 8 < t.r ∧ ¬ t.c < 1 ∧ 8 < t.c)) with h1 | ⟨h1, h2⟩ | ⟨h1, h2, h3⟩ | ⟨h1, h2, h3, h4⟩
    all_goals
      clear hr
      go_enter Try.func24, Try.ntmps24
      go_upto_region 1 with fail
      have hb0_0 : ∀ y : Since (x.w.alloc (.cells #[.int .i64 t.r, .int .i64 t.c, .slice a t.l.length c] 39)), y.w.cell? ⟨x.w.heap.size, 0, none⟩ = some (.int .i64 t.r) := fun y => Since.cell (by simp [go_sem]) (by first | (simp; done) | (simp; omega)) y
      have hb0_1 : ∀ y : Since (x.w.alloc (.cells #[.int .i64 t.r, .int .i64 t.c, .slice a t.l.length c] 39)), y.w.cell? ⟨x.w.heap.size, 1, none⟩ = some (.int .i64 t.c) := fun y => Since.cell (by simp [go_sem]) (by first | (simp; done) | (simp; omega)) y
      have hb0_2 : ∀ y : Since (x.w.alloc (.cells #[.int .i64 t.r, .int .i64 t.c, .slice a t.l.length c] 39)), y.w.cell? ⟨x.w.heap.size, 2, none⟩ = some (.slice a t.l.length c) := fun y => Since.cell (by simp [go_sem]) (by first | (simp; done) | (simp; omega)) y
      have hf0 : ∀ (y : Since (x.w.alloc (.cells #[.int .i64 t.r, .int .i64 t.c, .slice a t.l.length c] 39))) (o : Nat), y.w.frozen? ⟨x.w.heap.size, o, none⟩ = false := fun y o => Since.free (by simp [go_sem]) (by first | (simp; done) | (simp; omega)) y
      have hWup : ∃ z : Since w, (x.w.alloc (.cells #[.int .i64 t.r, .int .i64 t.c, .slice a t.l.length c] 39)) = z.w := x.alloc _
      obtain ⟨y0, hy0⟩ := Since.refl (x.w.alloc (.cells #[.int .i64 t.r, .int .i64 t.c, .slice a t.l.length c] 39))
      have Hbx := Lib.hid (And.intro x.b.size (show x.w.heap.size + 1 = (x.w.alloc (.cells #[.int .i64 t.r, .int .i64 t.c, .slice a t.l.length c] 39)).heap.size from by simp))
      generalize hW : (x.w.alloc (.cells #[.int .i64 t.r, .int .i64 t.c, .slice a t.l.length c] 39)) = W at *
      clear hW
      generalize x.w.heap.size = bx at *
      have Hup := Lib.hid (Since.up hWup)
      rw [hy0]
      clear hy0
      clear hWup
      go_wp2_with fail
      go_ret
      exact ⟨ret_int Hr.out.symm, Hup.out _⟩
  · have Hr := Lib.hid hr
    obtain ⟨m1, m2⟩ := tab_mul hr
    obtain ⟨r1, r2, r3, r4⟩ : ¬ t.r < 1 ∧ ¬ 8 < t.r ∧ ¬ t.c < 1 ∧ ¬ 8 < t.c := ⟨by omega, by omega, by omega, by omega⟩
    by_cases hn : (t.l.length : Int) ≠ t.r * t.c
    · have Hq := Lib.hid (chk_len Hr.out hn)
      have hb : ((t.l.length : Int) != t.r * t.c) = true := by simpa using hn
      clear hn hr
      go_enter Try.func24, Try.ntmps24
      go_upto_region 1 with fail
      have hb0_0 : ∀ y : Since (x.w.alloc (.cells #[.int .i64 t.r, .int .i64 t.c, .slice a t.l.length c] 39)), y.w.cell? ⟨x.w.heap.size, 0, none⟩ = some (.int .i64 t.r) := fun y => Since.cell (by simp [go_sem]) (by first | (simp; done) | (simp; omega)) y
      have hb0_1 : ∀ y : Since (x.w.alloc (.cells #[.int .i64 t.r, .int .i64 t.c, .slice a t.l.length c] 39)), y.w.cell? ⟨x.w.heap.size, 1, none⟩ = some (.int .i64 t.c) := fun y => Since.cell (by simp [go_sem]) (by first | (simp; done) | (simp; omega)) y
      have hb0_2 : ∀ y : Since (x.w.alloc (.cells #[.int .i64 t.r, .int .i64 t.c, .slice a t.l.length c] 39)), y.w.cell? ⟨x.w.heap.size, 2, none⟩ = some (.slice a t.l.length c) := fun y => Since.cell (by simp [go_sem]) (by first | (simp; done) | (simp; omega)) y
      have hf0 : ∀ (y : Since (x.w.alloc (.cells #[.int .i64 t.r, .int .i64 t.c, .slice a t.l.length c] 39))) (o : Nat), y.w.frozen? ⟨x.w.heap.size, o, none⟩ = false := fun y o => Since.free (by simp [go_sem]) (by first | (simp; done) | (simp; omega)) y
      have hWup : ∃ z : Since w, (x.w.alloc (.cells #[.int .i64 t.r, .int .i64 t.c, .slice a t.l.length c] 39)) = z.w := x.alloc _
      obtain ⟨y0, hy0⟩ := Since.refl (x.w.alloc (.cells #[.int .i64 t.r, .int .i64 t.c, .slice a t.l.length c] 39))
      have Hbx := Lib.hid (And.intro x.b.size (show x.w.heap.size + 1 = (x.w.alloc (.cells #[.int .i64 t.r, .int .i64 t.c, .slice a t.l.length c] 39)).heap.size from by simp))
      generalize hW : (x.w.alloc (.cells #[.int .i64 t.r, .int .i64 t.c, .slice a t.l.length c] 39)) = W at *
      clear hW
      generalize x.w.heap.size = bx at *
      have Hup := Lib.hid (Since.up hWup)
      rw [hy0]
      clear hy0
      clear hWup
      go_wp2_with fail
      go_ret
      exact ⟨ret_int Hq.out.symm, Hup.out _⟩
    · have Hn := Lib.hid hn
      have hb : ((t.l.length : Int) != t.r * t.c) = false := by simpa using hn
      have hl64 : t.l.length ≤ 64 := by omega
      clear hn hr
      go_enter Try.func24, Try.ntmps24
      go_upto_region 1 with fail
      have hb0_0 : ∀ y : Since (x.w.alloc (.cells #[.int .i64 t.r, .int .i64 t.c, .slice a t.l.length c] 39)), y.w.cell? ⟨x.w.heap.size, 0, none⟩ = some (.int .i64 t.r) := fun y => Since.cell (by simp [go_sem]) (by first | (simp; done) | (simp; omega)) y
      have hb0_1 : ∀ y : Since (x.w.alloc (.cells #[.int .i64 t.r, .int .i64 t.c, .slice a t.l.length c] 39)), y.w.cell? ⟨x.w.heap.size, 1, none⟩ = some (.int .i64 t.c) := fun y => Since.cell (by simp [go_sem]) (by first | (simp; done) | (simp; omega)) y
      have hb0_2 : ∀ y : Since (x.w.alloc (.cells #[.int .i64 t.r, .int .i64 t.c, .slice a t.l.length c] 39)), y.w.cell? ⟨x.w.heap.size, 2, none⟩ = some (.slice a t.l.length c) := fun y => Since.cell (by simp [go_sem]) (by first | (simp; done) | (simp; omega)) y
      have hf0 : ∀ (y : Since (x.w.alloc (.cells #[.int .i64 t.r, .int .i64 t.c, .slice a t.l.length c] 39))) (o : Nat), y.w.frozen? ⟨x.w.heap.size, o, none⟩ = false := fun y o => Since.free (by simp [go_sem]) (by first | (simp; done) | (simp; omega)) y
      have hWup : ∃ z : Since w, (x.w.alloc (.cells #[.int .i64 t.r, .int .i64 t.c, .slice a t.l.length c] 39)) = z.w := x.alloc _
      obtain ⟨y0, hy0⟩ := Since.refl (x.w.alloc (.cells #[.int .i64 t.r, .int .i64 t.c, .slice a t.l.length c] 39))
      have Hbx := Lib.hid (And.intro x.b.size (show x.w.heap.size + 1 = (x.w.alloc (.cells #[.int .i64 t.r, .int .i64 t.c, .slice a t.l.length c] 39)).heap.size from by simp))
      generalize hW : (x.w.alloc (.cells #[.int .i64 t.r, .int .i64 t.c, .slice a t.l.length c] 39)) = W at *
      clear hW
      generalize x.w.heap.size = bx at *
      have Hup := Lib.hid (Since.up hWup)
      rw [hy0]
      clear hy0
      replace H := Lib.hid (H.out.to hWup)
      clear hWup
      go_wp2_with fail
      go_loop [35] (fun i => ∃ k : Nat, k ≤ t.l.length ∧ i = .int .i64 k ∧ ∀ j, j < k → ∀ z, t.l[j]? = some z → badc1 z = false) (fun i => t.l.length - (intOf i).toNat)
      case atStart => exact ⟨0, by omega, rfl, fun j hj => by omega⟩
      case round =>
        obtain ⟨k, hk, rfl, hok⟩ := hrel
        have Hok := Lib.hid hok; clear hok
        by_cases hlt : k < t.l.length
        · obtain ⟨b, off, rfl, hbl, hc⟩ := Since.row H.out y0 k hlt
          change y0.w.cell? ⟨b, off + k, none⟩ = some (.int .i64 (at0 t.l k)) at hc
          have hk0 : (0 : Int) ≤ (k : Int) := by omega
          have hkl : (k : Int) < (t.l.length : Int) := by omega
          have Hx := Lib.hid (show t.l[k]? = some (at0 t.l k) by unfold at0; rw [List.getD_eq_getElem?_getD, List.getElem?_eq_getElem hlt]; rfl)
          generalize at0 t.l k = z at *
          clear hbl
          rcases (by omega : z < -1000000 ∨ (¬ z < -1000000 ∧ 1000000 < z) ∨ (¬ z < -1000000 ∧ ¬ 1000000 < z)) with h1 | ⟨h1, h2⟩ | ⟨h1, h2⟩
          · have Hq := Lib.hid (chk_cell Hr.out Hn.out Hx.out (by unfold badc1; rw [decide_eq_true h1]; rfl))
            go_wp2_with fail
            go_ret
            exact ⟨ret_int Hq.out.symm, Hup.out _⟩
          · have Hq := Lib.hid (chk_cell Hr.out Hn.out Hx.out (by unfold badc1; rw [decide_eq_true h2]; simp))
            go_wp2_with fail
            go_ret
            exact ⟨ret_int Hq.out.symm, Hup.out _⟩
          · have Hnx := Lib.hid (upto_next (P := fun z => badc1 z = false) Hok.out Hx.out (by unfold badc1; rw [decide_eq_false h1, decide_eq_false h2]; rfl))
            go_wp2_with fail
            go_round
            case rel => exact ⟨k + 1, by omega, by go_num, Hnx.out⟩
            case measure => simp [intOf] <;> omega
        · obtain rfl : k = t.l.length := by omega
          have Hq := Lib.hid (chk_ok Hr.out Hn.out Hok.out)
          go_wp2_with fail
          go_ret
          exact ⟨ret_int Hq.out.symm, Hup.out _⟩
end Go.Proofs.Ytdmmjapccgeffaa
/- Trips between zones, the program: how far two tables are apart. -/
namespace Go.Proofs.Ytdmmjapccgeffaa
open Go.RowKit

/-- what an accepted table is -/
structure TabOk (t : Tab) : Prop where
  r : 1 ≤ t.r ∧ t.r ≤ 8
  c : 1 ≤ t.c ∧ t.c ≤ 8
  n : (t.l.length : Int) = t.r * t.c
  v : ∀ k, k < t.l.length → -1000000 ≤ at0 t.l k ∧ at0 t.l k ≤ 1000000
theorem tabOk_of {t : Tab} (h : chkE t = 0) : TabOk t := by
  by_cases h1 : t.r < 1 ∨ 8 < t.r ∨ t.c < 1 ∨ 8 < t.c
  · rw [chk_range h1] at h; cases h
  by_cases h2 : (t.l.length : Int) ≠ t.r * t.c
  · rw [chk_len h1 h2] at h; cases h
  refine ⟨⟨by omega, by omega⟩, ⟨by omega, by omega⟩, by simpa using h2, fun k hk => ?_⟩
  cases hb : badc1 (at0 t.l k)
  · unfold badc1 at hb
    simp at hb
    omega
  · rw [chk_cell h1 h2 (k := k) (z := at0 t.l k) (by unfold at0; rw [List.getD_eq_getElem?_getD, List.getElem?_eq_getElem hk]; rfl) hb] at h
    cases h
theorem TabOk.len {t : Tab} (h : TabOk t) : t.l.length ≤ 64 := by
  have := (tab_mul (a := t.r) (b := t.c) (by have := h.r; have := h.c; omega)).2
  have := h.n
  omega
theorem apS_range {s t : Tab} (hs : TabOk s) (ht : TabOk t) : ∀ k, k ≤ s.l.length → k ≤ t.l.length → 0 ≤ apS s.l t.l k ∧ apS s.l t.l k ≤ 2000000 * k
  | 0, _, _ => by simp [apS]
  | k + 1, h1, h2 => by
    have ih := apS_range hs ht k (by omega) (by omega)
    have a := hs.v k (by omega)
    have b := ht.v k (by omega)
    simp only [apS]
    push_cast
    omega
def TwoI (w : World) (a b : Int) (o : Ending) (w' : World) : Prop := o = .returned (.tuple #[.int .i64 a, .int .i64 b]) ∧ ∃ y : Since w, w' = y.w
theorem twoI {w : World} {a b c d : Int} (h : a = c ∧ b = d) (y : Since w) : TwoI w a b (.returned (.tuple #[.int .i64 c, .int .i64 d])) y.w := by
  obtain ⟨rfl, rfl⟩ := h; exact ⟨rfl, y, rfl⟩
set_option maxRecDepth 100000 in
set_option maxHeartbeats 8000000 in
theorem apart_calls (w : World) (x : Since w) (s t : Tab) (a1 : Option Addr) (c1 : Nat) (a2 : Option Addr) (c2 : Nat) (h1 : IntRow w a1 s.l) (h2 : IntRow w a2 t.l) (hl1 : s.l.length ≤ 9223372036854775807) (hl2 : t.l.length ≤ 9223372036854775807) :
    Calls Try.prog 22 #[.agg #[.int .i64 s.r, .int .i64 s.c, .slice a1 s.l.length c1], .agg #[.int .i64 t.r, .int .i64 t.c, .slice a2 t.l.length c2]] x.w (TwoI w (apV s t) (apE s t)) := by
  have HS := Lib.hid h1
  have HT := Lib.hid h2
  have Hp := Lib.hid (fun (c d : Int) (h : apV s t = c ∧ apE s t = d) (y : Since w) => twoI h y)
  generalize TwoI w (apV s t) (apE s t) = PO at *
  clear h1 h2
  go_enter Try.func22, Try.ntmps22
  go_upto_region 1 with fail
  have hb0_0 : ∀ y : Since ((x.w.alloc (.cells #[.int .i64 s.r, .int .i64 s.c, .slice a1 s.l.length c1] 39)).alloc (.cells #[.int .i64 t.r, .int .i64 t.c, .slice a2 t.l.length c2] 39)), y.w.cell? ⟨x.w.heap.size, 0, none⟩ = some (.int .i64 s.r) := fun y => Since.cell (by simp [go_sem]) (by first | (simp; done) | (simp; omega)) y
  have hb0_1 : ∀ y : Since ((x.w.alloc (.cells #[.int .i64 s.r, .int .i64 s.c, .slice a1 s.l.length c1] 39)).alloc (.cells #[.int .i64 t.r, .int .i64 t.c, .slice a2 t.l.length c2] 39)), y.w.cell? ⟨x.w.heap.size, 1, none⟩ = some (.int .i64 s.c) := fun y => Since.cell (by simp [go_sem]) (by first | (simp; done) | (simp; omega)) y
  have hb0_2 : ∀ y : Since ((x.w.alloc (.cells #[.int .i64 s.r, .int .i64 s.c, .slice a1 s.l.length c1] 39)).alloc (.cells #[.int .i64 t.r, .int .i64 t.c, .slice a2 t.l.length c2] 39)), y.w.cell? ⟨x.w.heap.size, 2, none⟩ = some (.slice a1 s.l.length c1) := fun y => Since.cell (by simp [go_sem]) (by first | (simp; done) | (simp; omega)) y
  have hf0 : ∀ (y : Since ((x.w.alloc (.cells #[.int .i64 s.r, .int .i64 s.c, .slice a1 s.l.length c1] 39)).alloc (.cells #[.int .i64 t.r, .int .i64 t.c, .slice a2 t.l.length c2] 39))) (o : Nat), y.w.frozen? ⟨x.w.heap.size, o, none⟩ = false := fun y o => Since.free (by simp [go_sem]) (by first | (simp; done) | (simp; omega)) y
  have hb1_0 : ∀ y : Since ((x.w.alloc (.cells #[.int .i64 s.r, .int .i64 s.c, .slice a1 s.l.length c1] 39)).alloc (.cells #[.int .i64 t.r, .int .i64 t.c, .slice a2 t.l.length c2] 39)), y.w.cell? ⟨x.w.heap.size + 1, 0, none⟩ = some (.int .i64 t.r) := fun y => Since.cell (by simp [go_sem]) (by first | (simp; done) | (simp; omega)) y
  have hb1_1 : ∀ y : Since ((x.w.alloc (.cells #[.int .i64 s.r, .int .i64 s.c, .slice a1 s.l.length c1] 39)).alloc (.cells #[.int .i64 t.r, .int .i64 t.c, .slice a2 t.l.length c2] 39)), y.w.cell? ⟨x.w.heap.size + 1, 1, none⟩ = some (.int .i64 t.c) := fun y => Since.cell (by simp [go_sem]) (by first | (simp; done) | (simp; omega)) y
  have hb1_2 : ∀ y : Since ((x.w.alloc (.cells #[.int .i64 s.r, .int .i64 s.c, .slice a1 s.l.length c1] 39)).alloc (.cells #[.int .i64 t.r, .int .i64 t.c, .slice a2 t.l.length c2] 39)), y.w.cell? ⟨x.w.heap.size + 1, 2, none⟩ = some (.slice a2 t.l.length c2) := fun y => Since.cell (by simp [go_sem]) (by first | (simp; done) | (simp; omega)) y
  have hf1 : ∀ (y : Since ((x.w.alloc (.cells #[.int .i64 s.r, .int .i64 s.c, .slice a1 s.l.length c1] 39)).alloc (.cells #[.int .i64 t.r, .int .i64 t.c, .slice a2 t.l.length c2] 39))) (o : Nat), y.w.frozen? ⟨x.w.heap.size + 1, o, none⟩ = false := fun y o => Since.free (by simp [go_sem]) (by first | (simp; done) | (simp; omega)) y
  have hWup : ∃ z : Since w, ((x.w.alloc (.cells #[.int .i64 s.r, .int .i64 s.c, .slice a1 s.l.length c1] 39)).alloc (.cells #[.int .i64 t.r, .int .i64 t.c, .slice a2 t.l.length c2] 39)) = z.w := Since.allocs x [.cells #[.int .i64 s.r, .int .i64 s.c, .slice a1 s.l.length c1] 39, .cells #[.int .i64 t.r, .int .i64 t.c, .slice a2 t.l.length c2] 39]
  obtain ⟨y0, hy0⟩ := Since.refl ((x.w.alloc (.cells #[.int .i64 s.r, .int .i64 s.c, .slice a1 s.l.length c1] 39)).alloc (.cells #[.int .i64 t.r, .int .i64 t.c, .slice a2 t.l.length c2] 39))
  have Hbx := Lib.hid (And.intro x.b.size (show x.w.heap.size + 2 = ((x.w.alloc (.cells #[.int .i64 s.r, .int .i64 s.c, .slice a1 s.l.length c1] 39)).alloc (.cells #[.int .i64 t.r, .int .i64 t.c, .slice a2 t.l.length c2] 39)).heap.size from by simp))
  generalize hW : ((x.w.alloc (.cells #[.int .i64 s.r, .int .i64 s.c, .slice a1 s.l.length c1] 39)).alloc (.cells #[.int .i64 t.r, .int .i64 t.c, .slice a2 t.l.length c2] 39)) = W at *
  clear hW
  generalize x.w.heap.size = bx at *
  have Hup := Lib.hid (Since.up hWup)
  rw [hy0]
  clear hy0
  replace HS := Lib.hid (HS.out.to hWup)
  replace HT := Lib.hid (HT.out.to hWup)
  clear hWup hf0 hf1
  have C1 := Lib.hid (fun y : Since W => tcheck_calls W y s a1 c1 HS.out hl1)
  have C2 := Lib.hid (fun y : Since W => tcheck_calls W y t a2 c2 HT.out hl2)
  by_cases e1 : chkE s = 0
  case neg =>
    have hne : (chkE s != 0) = true := by simpa using e1
    have hE : apE s t = chkE s := if_pos e1
    have hV : apV s t = 0 := if_neg (by rw [hE]; exact e1)
    have HB := Lib.hid (Hp.out 0 (chkE s) ⟨hV, hE⟩)
    clear e1 hE hV Hp C2
    generalize chkE s = e at *
    go_wp2_with (go_at_call 24; ((with_reducible refine (C1.out _).mono ?_); rintro _ _ ⟨rfl, y1, rfl⟩))
    obtain ⟨z, hz⟩ := Hup.out y1
    rw [hz]
    exact HB.out z
  have Hs := Lib.hid (tabOk_of e1)
  have He1 := Lib.hid e1
  rw [e1] at C1
  clear e1
  by_cases e2 : chkE t = 0
  case neg =>
    have hne : (chkE t != 0) = true := by simpa using e2
    have hE : apE s t = chkE t := by unfold apE; rw [if_neg (by rw [He1.out]; simp), if_pos e2]
    have hV : apV s t = 0 := if_neg (by rw [hE]; exact e2)
    have HB := Lib.hid (Hp.out 0 (chkE t) ⟨hV, hE⟩)
    clear e2 hE hV Hp
    generalize chkE t = e at *
    go_wp2_with fail
    refine (C1.out _).mono ?_
    rintro _ _ ⟨rfl, y1, rfl⟩
    go_wp2_with fail
    refine (C2.out _).mono ?_
    rintro _ _ ⟨rfl, y2, rfl⟩
    go_wp2_with fail
    obtain ⟨z, hz⟩ := Hup.out y2
    rw [hz]
    exact HB.out z
  have Ht := Lib.hid (tabOk_of e2)
  have He2 := Lib.hid e2
  rw [e2] at C2
  clear e2
  go_wp2_with fail
  refine (C1.out _).mono ?_
  rintro _ _ ⟨rfl, y1, rfl⟩
  go_wp2_with fail
  refine (C2.out _).mono ?_
  rintro _ _ ⟨rfl, y2, rfl⟩
  clear C1 C2
  by_cases hd : s.r ≠ t.r ∨ s.c ≠ t.c
  · have hE : apE s t = 3 := by unfold apE; rw [if_neg (by rw [He1.out]; simp), if_neg (by rw [He2.out]; simp), if_pos hd]
    have hV : apV s t = 0 := if_neg (by rw [hE]; simp)
    have HB := Lib.hid (Hp.out 0 3 ⟨hV, hE⟩)
    have hc : (s.r != t.r) = true ∨ ((s.r != t.r) = false ∧ (s.c != t.c) = true) := by
      by_cases h : s.r = t.r
      · right; exact ⟨by simpa using h, by rcases hd with h2 | h2; exact (h2 h).elim; simpa using h2⟩
      · left; simpa using h
    clear hd hE hV Hp
    rcases hc with h | ⟨h, h'⟩
    all_goals
      go_wp2_with fail
      obtain ⟨z, hz⟩ := Hup.out y2
      rw [hz]
      exact HB.out z
  · have hE : apE s t = 0 := by unfold apE; rw [if_neg (by rw [He1.out]; simp), if_neg (by rw [He2.out]; simp), if_neg hd]
    have hV : apV s t = apS s.l t.l s.l.length := if_pos hE
    have HB := Lib.hid (Hp.out (apS s.l t.l s.l.length) 0 ⟨hV, hE⟩)
    have q1 : (s.r != t.r) = false := by simp; omega
    have q2 : (s.c != t.c) = false := by simp; omega
    have hll : s.l.length = t.l.length := by
      have a := Hs.out.n
      have b := Ht.out.n
      have e1 : s.r = t.r := by omega
      have e2 : s.c = t.c := by omega
      rw [e1, e2] at a
      omega
    have Hll := Lib.hid hll
    have hs64 := Hs.out.len
    clear hd hE hV Hp hll
    obtain ⟨n, hn⟩ : ∃ n, n = s.l.length := ⟨_, rfl⟩
    rw [← hn] at hb0_2 hs64 HB
    have Hn := Lib.hid hn
    clear hn
    go_wp2_with fail
    go_loopw [8, 35] (fun ss si wr => ∃ (k : Nat) (y : Since W), k ≤ n ∧ si = .int .i64 (k : Int) ∧ ss = .int .i64 (apS s.l t.l k) ∧ wr = y.w) (fun _ si _ => n - (intOf si).toNat)
    case atStart => exact ⟨0, y2, by omega, rfl, rfl, rfl⟩
    case round =>
      obtain ⟨k, y, hk, rfl, rfl, rfl⟩ := hrel
      by_cases hlt : k < n
      · obtain ⟨b1, off1, rfl, hbl1, hc1⟩ := HS.out k (by have := Hn.out; omega)
        obtain ⟨b2, off2, rfl, hbl2, hc2⟩ := HT.out k (by have := Hn.out; have := Hll.out; omega)
        have kc1 : ∀ q : Since W, q.w.cell? ⟨b1, off1 + k, none⟩ = some (.int .i64 (at0 s.l k)) := fun q => Since.cell hc1 hbl1 q
        have kc2 : ∀ q : Since W, q.w.cell? ⟨b2, off2 + k, none⟩ = some (.int .i64 (at0 t.l k)) := fun q => Since.cell hc2 hbl2 q
        obtain ⟨u1, u2⟩ := Hs.out.v k (by have := Hn.out; omega)
        obtain ⟨v1, v2⟩ := Ht.out.v k (by have := Hn.out; have := Hll.out; omega)
        have hS := apS_range Hs.out Ht.out k (by have := Hn.out; omega) (by have := Hn.out; have := Hll.out; omega)
        have Hnx := Lib.hid (show apS s.l t.l (k + 1) = apS s.l t.l k + max (at0 s.l k - at0 t.l k) (at0 t.l k - at0 s.l k) from rfl)
        have hk0 : (0 : Int) ≤ (k : Int) := by omega
        have hkl : (k : Int) < (n : Int) := by omega
        have hkt : (k : Int) < (t.l.length : Int) := by have := Hn.out; have := Hll.out; omega
        generalize at0 s.l k = p at *
        generalize at0 t.l k = r at *
        obtain ⟨S, hS2⟩ : ∃ S, S = apS s.l t.l k := ⟨_, rfl⟩
        rw [← hS2] at Hnx hS ⊢
        obtain ⟨s1, s2⟩ := hS
        have w1 : IntKind.i64.wrap (p - r) = p - r := IntWalk.i64_in _ (by omega)
        have w2 : IntKind.i64.wrap (r - p) = r - p := IntWalk.i64_in _ (by omega)
        have w3 : IntKind.i64.wrap (S + max (p - r) (r - p)) = S + max (p - r) (r - p) := IntWalk.i64_in _ (by omega)
        clear hc1 hc2 hbl1 hbl2 hS2
        go_wp2_with fail
        refine wp_region_since (by kernel_rfl) (by kernel_rfl) ?_
        repeat (go_big_quiet_step (fail))
        refine wpQuiet_nil ?_
        rintro _ ⟨z, rfl⟩
        clear w1 w2 w3
        go_wp2_with fail
        go_roundw
        case rel => exact ⟨k + 1, z, by omega, by go_num, by rw [Hnx.out], rfl⟩
        case measure => simp [intOf] <;> omega
      · obtain rfl : k = n := by omega
        go_wp2_with fail
        obtain ⟨z, hz⟩ := Hup.out y
        rw [hz]
        exact HB.out z
end Go.Proofs.Ytdmmjapccgeffaa
/- Trips between zones, the reference: Zone and Check, after the program's (TrW5, TrW6). -/
namespace Go.Proofs.Ytdmmjapccgeffaa
open Go.RowKit

set_option maxRecDepth 100000 in
set_option maxHeartbeats 4000000 in
theorem rtcheck_calls (w : World) (x : Since w) (t : Tab) (a : Option Addr) (c : Nat) (h : IntRow w a t.l) (hl : t.l.length ≤ 9223372036854775807) :
    Calls Try.prog 25 #[.agg #[.int .i64 t.r, .int .i64 t.c, .slice a t.l.length c]] x.w fun o w' => o = .returned (.int .i64 (chkE t)) ∧ ∃ y : Since w, w' = y.w := by
  have H := Lib.hid h
  clear h
  generalize ha : a = a0 at *
  subst ha
  by_cases hr : t.r < 1 ∨ 8 < t.r ∨ t.c < 1 ∨ 8 < t.c
  · have Hr := Lib.hid (chk_range hr)
    rcases (by omega : t.r < 1 ∨ (¬ t.r < 1 ∧ 8 < t.r) ∨ (¬ t.r < 1 ∧ ¬ 8 < t.r ∧ t.c < 1) ∨ (¬ t.r < 1 ∧ ¬ 8 < t.r ∧ ¬ t.c < 1 ∧ 8 < t.c)) with h1 | ⟨h1, h2⟩ | ⟨h1, h2, h3⟩ | ⟨h1, h2, h3, h4⟩
    all_goals
      clear hr
      go_enter Try.func25, Try.ntmps25
      go_upto_region 1 with fail
      have hb0_0 : ∀ y : Since (x.w.alloc (.cells #[.int .i64 t.r, .int .i64 t.c, .slice a t.l.length c] 39)), y.w.cell? ⟨x.w.heap.size, 0, none⟩ = some (.int .i64 t.r) := fun y => Since.cell (by simp [go_sem]) (by first | (simp; done) | (simp; omega)) y
      have hb0_1 : ∀ y : Since (x.w.alloc (.cells #[.int .i64 t.r, .int .i64 t.c, .slice a t.l.length c] 39)), y.w.cell? ⟨x.w.heap.size, 1, none⟩ = some (.int .i64 t.c) := fun y => Since.cell (by simp [go_sem]) (by first | (simp; done) | (simp; omega)) y
      have hb0_2 : ∀ y : Since (x.w.alloc (.cells #[.int .i64 t.r, .int .i64 t.c, .slice a t.l.length c] 39)), y.w.cell? ⟨x.w.heap.size, 2, none⟩ = some (.slice a t.l.length c) := fun y => Since.cell (by simp [go_sem]) (by first | (simp; done) | (simp; omega)) y
      have hf0 : ∀ (y : Since (x.w.alloc (.cells #[.int .i64 t.r, .int .i64 t.c, .slice a t.l.length c] 39))) (o : Nat), y.w.frozen? ⟨x.w.heap.size, o, none⟩ = false := fun y o => Since.free (by simp [go_sem]) (by first | (simp; done) | (simp; omega)) y
      have hWup : ∃ z : Since w, (x.w.alloc (.cells #[.int .i64 t.r, .int .i64 t.c, .slice a t.l.length c] 39)) = z.w := x.alloc _
      obtain ⟨y0, hy0⟩ := Since.refl (x.w.alloc (.cells #[.int .i64 t.r, .int .i64 t.c, .slice a t.l.length c] 39))
      have Hbx := Lib.hid (And.intro x.b.size (show x.w.heap.size + 1 = (x.w.alloc (.cells #[.int .i64 t.r, .int .i64 t.c, .slice a t.l.length c] 39)).heap.size from by simp))
      generalize hW : (x.w.alloc (.cells #[.int .i64 t.r, .int .i64 t.c, .slice a t.l.length c] 39)) = W at *
      clear hW
      generalize x.w.heap.size = bx at *
      have Hup := Lib.hid (Since.up hWup)
      rw [hy0]
      clear hy0
      clear hWup
      go_wp2_with fail
      go_ret
      exact ⟨ret_int Hr.out.symm, Hup.out _⟩
  · have Hr := Lib.hid hr
    obtain ⟨m1, m2⟩ := tab_mul hr
    obtain ⟨r1, r2, r3, r4⟩ : ¬ t.r < 1 ∧ ¬ 8 < t.r ∧ ¬ t.c < 1 ∧ ¬ 8 < t.c := ⟨by omega, by omega, by omega, by omega⟩
    by_cases hn : (t.l.length : Int) ≠ t.r * t.c
    · have Hq := Lib.hid (chk_len Hr.out hn)
      have hb : ((t.l.length : Int) != t.r * t.c) = true := by simpa using hn
      clear hn hr
      go_enter Try.func25, Try.ntmps25
      go_upto_region 1 with fail
      have hb0_0 : ∀ y : Since (x.w.alloc (.cells #[.int .i64 t.r, .int .i64 t.c, .slice a t.l.length c] 39)), y.w.cell? ⟨x.w.heap.size, 0, none⟩ = some (.int .i64 t.r) := fun y => Since.cell (by simp [go_sem]) (by first | (simp; done) | (simp; omega)) y
      have hb0_1 : ∀ y : Since (x.w.alloc (.cells #[.int .i64 t.r, .int .i64 t.c, .slice a t.l.length c] 39)), y.w.cell? ⟨x.w.heap.size, 1, none⟩ = some (.int .i64 t.c) := fun y => Since.cell (by simp [go_sem]) (by first | (simp; done) | (simp; omega)) y
      have hb0_2 : ∀ y : Since (x.w.alloc (.cells #[.int .i64 t.r, .int .i64 t.c, .slice a t.l.length c] 39)), y.w.cell? ⟨x.w.heap.size, 2, none⟩ = some (.slice a t.l.length c) := fun y => Since.cell (by simp [go_sem]) (by first | (simp; done) | (simp; omega)) y
      have hf0 : ∀ (y : Since (x.w.alloc (.cells #[.int .i64 t.r, .int .i64 t.c, .slice a t.l.length c] 39))) (o : Nat), y.w.frozen? ⟨x.w.heap.size, o, none⟩ = false := fun y o => Since.free (by simp [go_sem]) (by first | (simp; done) | (simp; omega)) y
      have hWup : ∃ z : Since w, (x.w.alloc (.cells #[.int .i64 t.r, .int .i64 t.c, .slice a t.l.length c] 39)) = z.w := x.alloc _
      obtain ⟨y0, hy0⟩ := Since.refl (x.w.alloc (.cells #[.int .i64 t.r, .int .i64 t.c, .slice a t.l.length c] 39))
      have Hbx := Lib.hid (And.intro x.b.size (show x.w.heap.size + 1 = (x.w.alloc (.cells #[.int .i64 t.r, .int .i64 t.c, .slice a t.l.length c] 39)).heap.size from by simp))
      generalize hW : (x.w.alloc (.cells #[.int .i64 t.r, .int .i64 t.c, .slice a t.l.length c] 39)) = W at *
      clear hW
      generalize x.w.heap.size = bx at *
      have Hup := Lib.hid (Since.up hWup)
      rw [hy0]
      clear hy0
      clear hWup
      go_wp2_with fail
      go_ret
      exact ⟨ret_int Hq.out.symm, Hup.out _⟩
    · have Hn := Lib.hid hn
      have hb : ((t.l.length : Int) != t.r * t.c) = false := by simpa using hn
      have hl64 : t.l.length ≤ 64 := by omega
      clear hn hr
      go_enter Try.func25, Try.ntmps25
      go_upto_region 1 with fail
      have hb0_0 : ∀ y : Since (x.w.alloc (.cells #[.int .i64 t.r, .int .i64 t.c, .slice a t.l.length c] 39)), y.w.cell? ⟨x.w.heap.size, 0, none⟩ = some (.int .i64 t.r) := fun y => Since.cell (by simp [go_sem]) (by first | (simp; done) | (simp; omega)) y
      have hb0_1 : ∀ y : Since (x.w.alloc (.cells #[.int .i64 t.r, .int .i64 t.c, .slice a t.l.length c] 39)), y.w.cell? ⟨x.w.heap.size, 1, none⟩ = some (.int .i64 t.c) := fun y => Since.cell (by simp [go_sem]) (by first | (simp; done) | (simp; omega)) y
      have hb0_2 : ∀ y : Since (x.w.alloc (.cells #[.int .i64 t.r, .int .i64 t.c, .slice a t.l.length c] 39)), y.w.cell? ⟨x.w.heap.size, 2, none⟩ = some (.slice a t.l.length c) := fun y => Since.cell (by simp [go_sem]) (by first | (simp; done) | (simp; omega)) y
      have hf0 : ∀ (y : Since (x.w.alloc (.cells #[.int .i64 t.r, .int .i64 t.c, .slice a t.l.length c] 39))) (o : Nat), y.w.frozen? ⟨x.w.heap.size, o, none⟩ = false := fun y o => Since.free (by simp [go_sem]) (by first | (simp; done) | (simp; omega)) y
      have hWup : ∃ z : Since w, (x.w.alloc (.cells #[.int .i64 t.r, .int .i64 t.c, .slice a t.l.length c] 39)) = z.w := x.alloc _
      obtain ⟨y0, hy0⟩ := Since.refl (x.w.alloc (.cells #[.int .i64 t.r, .int .i64 t.c, .slice a t.l.length c] 39))
      have Hbx := Lib.hid (And.intro x.b.size (show x.w.heap.size + 1 = (x.w.alloc (.cells #[.int .i64 t.r, .int .i64 t.c, .slice a t.l.length c] 39)).heap.size from by simp))
      generalize hW : (x.w.alloc (.cells #[.int .i64 t.r, .int .i64 t.c, .slice a t.l.length c] 39)) = W at *
      clear hW
      generalize x.w.heap.size = bx at *
      have Hup := Lib.hid (Since.up hWup)
      rw [hy0]
      clear hy0
      replace H := Lib.hid (H.out.to hWup)
      clear hWup
      go_wp2_with fail
      go_loop [3] (fun i => ∃ k : Nat, k ≤ t.l.length ∧ i = .int .i64 k ∧ ∀ j, j < k → ∀ z, t.l[j]? = some z → badc1 z = false) (fun i => t.l.length - (intOf i).toNat)
      case atStart => exact ⟨0, by omega, rfl, fun j hj => by omega⟩
      case round =>
        obtain ⟨k, hk, rfl, hok⟩ := hrel
        have Hok := Lib.hid hok; clear hok
        by_cases hlt : k < t.l.length
        · obtain ⟨b, off, rfl, hbl, hc⟩ := Since.row H.out y0 k hlt
          change y0.w.cell? ⟨b, off + k, none⟩ = some (.int .i64 (at0 t.l k)) at hc
          have hk0 : (0 : Int) ≤ (k : Int) := by omega
          have hkl : (k : Int) < (t.l.length : Int) := by omega
          have Hx := Lib.hid (show t.l[k]? = some (at0 t.l k) by unfold at0; rw [List.getD_eq_getElem?_getD, List.getElem?_eq_getElem hlt]; rfl)
          generalize at0 t.l k = z at *
          clear hbl
          rcases (by omega : z < -1000000 ∨ (¬ z < -1000000 ∧ 1000000 < z) ∨ (¬ z < -1000000 ∧ ¬ 1000000 < z)) with h1 | ⟨h1, h2⟩ | ⟨h1, h2⟩
          · have Hq := Lib.hid (chk_cell Hr.out Hn.out Hx.out (by unfold badc1; rw [decide_eq_true h1]; rfl))
            go_wp2_with fail
            go_ret
            exact ⟨ret_int Hq.out.symm, Hup.out _⟩
          · have Hq := Lib.hid (chk_cell Hr.out Hn.out Hx.out (by unfold badc1; rw [decide_eq_true h2]; simp))
            go_wp2_with fail
            go_ret
            exact ⟨ret_int Hq.out.symm, Hup.out _⟩
          · have Hnx := Lib.hid (upto_next (P := fun z => badc1 z = false) Hok.out Hx.out (by unfold badc1; rw [decide_eq_false h1, decide_eq_false h2]; rfl))
            go_wp2_with fail
            go_round
            case rel => exact ⟨k + 1, by omega, by go_num, Hnx.out⟩
            case measure => simp [intOf] <;> omega
        · obtain rfl : k = t.l.length := by omega
          have Hq := Lib.hid (chk_ok Hr.out Hn.out Hok.out)
          go_wp2_with fail
          go_ret
          exact ⟨ret_int Hq.out.symm, Hup.out _⟩
def badAt (zs : List Int) (k : Nat) : Prop := ∃ z, zs[k]? = some z ∧ badz1 z = true
set_option maxRecDepth 100000 in
set_option maxHeartbeats 8000000 in
theorem rzone_calls (w : World) (a : Option Addr) (zs : List Int) (c : Nat) (wh pl : Int) (h : IntRow w a zs) (hl : zs.length ≤ 9223372036854775807) (hpl : pl ≤ 9223372036854775807) :
    Calls Try.prog 17 #[.slice a zs.length c, .int .i64 wh, .int .i64 pl] w (ZRes zs wh pl w) := by
  have H := Lib.hid h
  have Hp := Lib.hid (fun (v e : Int) (h : zoneE zs wh pl = e ∧ zoneV zs wh pl = v) => zRes h w)
  generalize ZRes zs wh pl w = PO at *
  clear h
  by_cases hz : 64 ≤ zs.length ∧ zs.length ≤ 96
  case neg =>
    have HB := Lib.hid (Hp.out _ _ (zone_bad (Or.inl (show zlenB zs = false by unfold zlenB; rw [← Bool.decide_and]; exact decide_eq_false hz)) wh pl))
    rcases (by omega : zs.length < 64 ∨ (64 ≤ zs.length ∧ 96 < zs.length)) with h | ⟨h, h'⟩
    all_goals
      clear hz
      go_enter Try.func17, Try.ntmps17
      go_wp2_with fail
      exact HB.out
  obtain ⟨z1, z2⟩ := hz
  have Hzl := Lib.hid (show zlenB zs = true by unfold zlenB; rw [decide_eq_true z1, decide_eq_true z2]; rfl)
  go_enter Try.func17, Try.ntmps17
  go_wp2_with fail
  go_loop [8] (fun i => ∃ k : Nat, k ≤ zs.length ∧ i = .int .i64 k ∧ ∀ j, j < k → ∀ z, zs[j]? = some z → badz1 z = false) (fun i => zs.length - (intOf i).toNat)
  case atStart => exact ⟨0, by omega, rfl, fun j hj => by omega⟩
  case round =>
    obtain ⟨k, hk, rfl, hok⟩ := hrel
    have Hok := Lib.hid hok; clear hok
    by_cases hlt : k < zs.length
    · obtain ⟨b, off, rfl, hbl, hc⟩ := H.out k hlt
      change w.cell? ⟨b, off + k, none⟩ = some (.int .i64 (at0 zs k)) at hc
      have hk0 : (0 : Int) ≤ (k : Int) := by omega
      have hkl : (k : Int) < (zs.length : Int) := by omega
      have Hx := Lib.hid (show zs[k]? = some (at0 zs k) by unfold at0; rw [List.getD_eq_getElem?_getD, List.getElem?_eq_getElem hlt]; rfl)
      generalize at0 zs k = z at *
      clear hbl
      rcases (by omega : z < 0 ∨ (¬ z < 0 ∧ 8 ≤ z) ∨ (¬ z < 0 ∧ ¬ 8 ≤ z)) with h1 | ⟨h1, h2⟩ | ⟨h1, h2⟩
      · have HB := Lib.hid (Hp.out _ _ (zone_bad (Or.inr (badZ_of Hx.out (by unfold badz1; rw [decide_eq_true h1]; rfl))) wh pl))
        go_wp2_with fail
        exact HB.out
      · have HB := Lib.hid (Hp.out _ _ (zone_bad (Or.inr (badZ_of Hx.out (by unfold badz1; rw [decide_eq_true h2]; simp))) wh pl))
        go_wp2_with fail
        exact HB.out
      · have Hnx := Lib.hid (upto_next (P := fun z => badz1 z = false) Hok.out Hx.out (by unfold badz1; rw [decide_eq_false h1, decide_eq_false h2]; rfl))
        go_wp2_with fail
        go_round
        case rel => exact ⟨k + 1, by omega, by go_num, Hnx.out⟩
        case measure => simp [intOf] <;> omega
    · obtain rfl : k = zs.length := by omega
      have Hb := Lib.hid (badZ_no Hok.out)
      clear Hok
      by_cases h2 : wh = 2
      · subst h2
        by_cases hp : 0 ≤ pl ∧ pl < 64
        · obtain ⟨p, rfl⟩ : ∃ p : Nat, pl = p := ⟨pl.toNat, by omega⟩
          obtain ⟨b, off, rfl, hbl, hcell⟩ := H.out p (by omega)
          change w.cell? ⟨b, off + p, none⟩ = some (.int .i64 (at0 zs p)) at hcell
          have HB := Lib.hid (Hp.out _ _ (zone_st Hzl.out Hb.out hp))
          rw [Int.toNat_natCast] at HB
          obtain ⟨p1, p2⟩ := hp
          have p3 : (p : Int) < (zs.length : Int) := by omega
          clear hbl
          generalize at0 zs p = v at *
          go_wp2_with fail
          exact HB.out
        · have HB := Lib.hid (Hp.out _ _ (zone_st_no Hzl.out Hb.out hp))
          rcases (by omega : pl < 0 ∨ (0 ≤ pl ∧ 64 ≤ pl)) with h | ⟨h, h'⟩
          all_goals
            clear hp
            go_wp2_with fail
            exact HB.out
      · by_cases h1 : wh = 1
        · subst h1
          by_cases hp : 0 ≤ pl ∧ pl / 32 < (zs.length : Int) - 64
          · obtain ⟨p, rfl⟩ : ∃ p : Nat, pl = p := ⟨pl.toNat, by omega⟩
            obtain ⟨b, off, rfl, hbl, hcell⟩ := H.out (64 + p / 32) (by omega)
            change w.cell? ⟨b, off + (64 + p / 32), none⟩ = some (.int .i64 (at0 zs (64 + p / 32))) at hcell
            have HB := Lib.hid (Hp.out _ _ (zone_dk Hzl.out Hb.out hp))
            rw [show (64 + (p : Int) / 32).toNat = 64 + p / 32 by omega] at HB
            obtain ⟨p1, p2⟩ := hp
            have p3 : (0 : Int) ≤ 64 + (p : Int) / 32 := by omega
            have p4 : 64 + (p : Int) / 32 < (zs.length : Int) := by omega
            have p5 : (64 + (p : Int) / 32).toNat = 64 + p / 32 := by omega
            clear hbl h2
            generalize at0 zs (64 + p / 32) = v at *
            go_wp2_with fail
            exact HB.out
          · have HB := Lib.hid (Hp.out _ _ (zone_dk_no Hzl.out Hb.out hp))
            rcases (by omega : pl < 0 ∨ (0 ≤ pl ∧ ¬ pl / 32 < (zs.length : Int) - 64)) with h | ⟨h, h'⟩
            all_goals
              clear hp h2
              go_wp2_with fail
              exact HB.out
        · have HB := Lib.hid (Hp.out _ _ (zone_kind Hzl.out Hb.out h1 h2))
          have e1 : (wh == 1) = false := by simpa using h1
          have e2 : (wh == 2) = false := by simpa using h2
          clear h1 h2
          go_wp2_with fail
          exact HB.out
end Go.Proofs.Ytdmmjapccgeffaa
/- Trips between zones, the reference: Apart and Same. -/
namespace Go.Proofs.Ytdmmjapccgeffaa
open Go.RowKit

set_option maxRecDepth 100000 in
set_option maxHeartbeats 8000000 in
theorem rapart_calls (w : World) (x : Since w) (s t : Tab) (a1 : Option Addr) (c1 : Nat) (a2 : Option Addr) (c2 : Nat) (h1 : IntRow w a1 s.l) (h2 : IntRow w a2 t.l) (hl1 : s.l.length ≤ 9223372036854775807) (hl2 : t.l.length ≤ 9223372036854775807) :
    Calls Try.prog 23 #[.agg #[.int .i64 s.r, .int .i64 s.c, .slice a1 s.l.length c1], .agg #[.int .i64 t.r, .int .i64 t.c, .slice a2 t.l.length c2]] x.w (TwoI w (apV s t) (apE s t)) := by
  have HS := Lib.hid h1
  have HT := Lib.hid h2
  have Hp := Lib.hid (fun (c d : Int) (h : apV s t = c ∧ apE s t = d) (y : Since w) => twoI h y)
  generalize TwoI w (apV s t) (apE s t) = PO at *
  clear h1 h2
  go_enter Try.func23, Try.ntmps23
  go_upto_region 1 with fail
  have hb0_0 : ∀ y : Since ((x.w.alloc (.cells #[.int .i64 s.r, .int .i64 s.c, .slice a1 s.l.length c1] 39)).alloc (.cells #[.int .i64 t.r, .int .i64 t.c, .slice a2 t.l.length c2] 39)), y.w.cell? ⟨x.w.heap.size, 0, none⟩ = some (.int .i64 s.r) := fun y => Since.cell (by simp [go_sem]) (by first | (simp; done) | (simp; omega)) y
  have hb0_1 : ∀ y : Since ((x.w.alloc (.cells #[.int .i64 s.r, .int .i64 s.c, .slice a1 s.l.length c1] 39)).alloc (.cells #[.int .i64 t.r, .int .i64 t.c, .slice a2 t.l.length c2] 39)), y.w.cell? ⟨x.w.heap.size, 1, none⟩ = some (.int .i64 s.c) := fun y => Since.cell (by simp [go_sem]) (by first | (simp; done) | (simp; omega)) y
  have hb0_2 : ∀ y : Since ((x.w.alloc (.cells #[.int .i64 s.r, .int .i64 s.c, .slice a1 s.l.length c1] 39)).alloc (.cells #[.int .i64 t.r, .int .i64 t.c, .slice a2 t.l.length c2] 39)), y.w.cell? ⟨x.w.heap.size, 2, none⟩ = some (.slice a1 s.l.length c1) := fun y => Since.cell (by simp [go_sem]) (by first | (simp; done) | (simp; omega)) y
  have hf0 : ∀ (y : Since ((x.w.alloc (.cells #[.int .i64 s.r, .int .i64 s.c, .slice a1 s.l.length c1] 39)).alloc (.cells #[.int .i64 t.r, .int .i64 t.c, .slice a2 t.l.length c2] 39))) (o : Nat), y.w.frozen? ⟨x.w.heap.size, o, none⟩ = false := fun y o => Since.free (by simp [go_sem]) (by first | (simp; done) | (simp; omega)) y
  have hb1_0 : ∀ y : Since ((x.w.alloc (.cells #[.int .i64 s.r, .int .i64 s.c, .slice a1 s.l.length c1] 39)).alloc (.cells #[.int .i64 t.r, .int .i64 t.c, .slice a2 t.l.length c2] 39)), y.w.cell? ⟨x.w.heap.size + 1, 0, none⟩ = some (.int .i64 t.r) := fun y => Since.cell (by simp [go_sem]) (by first | (simp; done) | (simp; omega)) y
  have hb1_1 : ∀ y : Since ((x.w.alloc (.cells #[.int .i64 s.r, .int .i64 s.c, .slice a1 s.l.length c1] 39)).alloc (.cells #[.int .i64 t.r, .int .i64 t.c, .slice a2 t.l.length c2] 39)), y.w.cell? ⟨x.w.heap.size + 1, 1, none⟩ = some (.int .i64 t.c) := fun y => Since.cell (by simp [go_sem]) (by first | (simp; done) | (simp; omega)) y
  have hb1_2 : ∀ y : Since ((x.w.alloc (.cells #[.int .i64 s.r, .int .i64 s.c, .slice a1 s.l.length c1] 39)).alloc (.cells #[.int .i64 t.r, .int .i64 t.c, .slice a2 t.l.length c2] 39)), y.w.cell? ⟨x.w.heap.size + 1, 2, none⟩ = some (.slice a2 t.l.length c2) := fun y => Since.cell (by simp [go_sem]) (by first | (simp; done) | (simp; omega)) y
  have hf1 : ∀ (y : Since ((x.w.alloc (.cells #[.int .i64 s.r, .int .i64 s.c, .slice a1 s.l.length c1] 39)).alloc (.cells #[.int .i64 t.r, .int .i64 t.c, .slice a2 t.l.length c2] 39))) (o : Nat), y.w.frozen? ⟨x.w.heap.size + 1, o, none⟩ = false := fun y o => Since.free (by simp [go_sem]) (by first | (simp; done) | (simp; omega)) y
  have hWup : ∃ z : Since w, ((x.w.alloc (.cells #[.int .i64 s.r, .int .i64 s.c, .slice a1 s.l.length c1] 39)).alloc (.cells #[.int .i64 t.r, .int .i64 t.c, .slice a2 t.l.length c2] 39)) = z.w := Since.allocs x [.cells #[.int .i64 s.r, .int .i64 s.c, .slice a1 s.l.length c1] 39, .cells #[.int .i64 t.r, .int .i64 t.c, .slice a2 t.l.length c2] 39]
  obtain ⟨y0, hy0⟩ := Since.refl ((x.w.alloc (.cells #[.int .i64 s.r, .int .i64 s.c, .slice a1 s.l.length c1] 39)).alloc (.cells #[.int .i64 t.r, .int .i64 t.c, .slice a2 t.l.length c2] 39))
  have Hbx := Lib.hid (And.intro x.b.size (show x.w.heap.size + 2 = ((x.w.alloc (.cells #[.int .i64 s.r, .int .i64 s.c, .slice a1 s.l.length c1] 39)).alloc (.cells #[.int .i64 t.r, .int .i64 t.c, .slice a2 t.l.length c2] 39)).heap.size from by simp))
  generalize hW : ((x.w.alloc (.cells #[.int .i64 s.r, .int .i64 s.c, .slice a1 s.l.length c1] 39)).alloc (.cells #[.int .i64 t.r, .int .i64 t.c, .slice a2 t.l.length c2] 39)) = W at *
  clear hW
  generalize x.w.heap.size = bx at *
  have Hup := Lib.hid (Since.up hWup)
  rw [hy0]
  clear hy0
  replace HS := Lib.hid (HS.out.to hWup)
  replace HT := Lib.hid (HT.out.to hWup)
  clear hWup hf0 hf1
  have C1 := Lib.hid (fun y : Since W => rtcheck_calls W y s a1 c1 HS.out hl1)
  have C2 := Lib.hid (fun y : Since W => rtcheck_calls W y t a2 c2 HT.out hl2)
  by_cases e1 : chkE s = 0
  case neg =>
    have hne : (chkE s != 0) = true := by simpa using e1
    have hE : apE s t = chkE s := if_pos e1
    have hV : apV s t = 0 := if_neg (by rw [hE]; exact e1)
    have HB := Lib.hid (Hp.out 0 (chkE s) ⟨hV, hE⟩)
    clear e1 hE hV Hp C2
    generalize chkE s = e at *
    go_wp2_with (go_at_call 25; ((with_reducible refine (C1.out _).mono ?_); rintro _ _ ⟨rfl, y1, rfl⟩))
    obtain ⟨z, hz⟩ := Hup.out y1
    rw [hz]
    exact HB.out z
  have Hs := Lib.hid (tabOk_of e1)
  have He1 := Lib.hid e1
  rw [e1] at C1
  clear e1
  by_cases e2 : chkE t = 0
  case neg =>
    have hne : (chkE t != 0) = true := by simpa using e2
    have hE : apE s t = chkE t := by unfold apE; rw [if_neg (by rw [He1.out]; simp), if_pos e2]
    have hV : apV s t = 0 := if_neg (by rw [hE]; exact e2)
    have HB := Lib.hid (Hp.out 0 (chkE t) ⟨hV, hE⟩)
    clear e2 hE hV Hp
    generalize chkE t = e at *
    go_wp2_with fail
    refine (C1.out _).mono ?_
    rintro _ _ ⟨rfl, y1, rfl⟩
    go_wp2_with fail
    refine (C2.out _).mono ?_
    rintro _ _ ⟨rfl, y2, rfl⟩
    go_wp2_with fail
    obtain ⟨z, hz⟩ := Hup.out y2
    rw [hz]
    exact HB.out z
  have Ht := Lib.hid (tabOk_of e2)
  have He2 := Lib.hid e2
  rw [e2] at C2
  clear e2
  go_wp2_with fail
  refine (C1.out _).mono ?_
  rintro _ _ ⟨rfl, y1, rfl⟩
  go_wp2_with fail
  refine (C2.out _).mono ?_
  rintro _ _ ⟨rfl, y2, rfl⟩
  clear C1 C2
  by_cases hd : s.r ≠ t.r ∨ s.c ≠ t.c
  · have hE : apE s t = 3 := by unfold apE; rw [if_neg (by rw [He1.out]; simp), if_neg (by rw [He2.out]; simp), if_pos hd]
    have hV : apV s t = 0 := if_neg (by rw [hE]; simp)
    have HB := Lib.hid (Hp.out 0 3 ⟨hV, hE⟩)
    have hc : (s.r != t.r) = true ∨ ((s.r != t.r) = false ∧ (s.c != t.c) = true) := by
      by_cases h : s.r = t.r
      · right; exact ⟨by simpa using h, by rcases hd with h2 | h2; exact (h2 h).elim; simpa using h2⟩
      · left; simpa using h
    clear hd hE hV Hp
    rcases hc with h | ⟨h, h'⟩
    all_goals
      go_wp2_with fail
      obtain ⟨z, hz⟩ := Hup.out y2
      rw [hz]
      exact HB.out z
  · have hE : apE s t = 0 := by unfold apE; rw [if_neg (by rw [He1.out]; simp), if_neg (by rw [He2.out]; simp), if_neg hd]
    have hV : apV s t = apS s.l t.l s.l.length := if_pos hE
    have HB := Lib.hid (Hp.out (apS s.l t.l s.l.length) 0 ⟨hV, hE⟩)
    have q1 : (s.r != t.r) = false := by simp; omega
    have q2 : (s.c != t.c) = false := by simp; omega
    have hll : s.l.length = t.l.length := by
      have a := Hs.out.n
      have b := Ht.out.n
      have e1 : s.r = t.r := by omega
      have e2 : s.c = t.c := by omega
      rw [e1, e2] at a
      omega
    have Hll := Lib.hid hll
    have hs64 := Hs.out.len
    clear hd hE hV Hp hll
    obtain ⟨n, hn⟩ : ∃ n, n = s.l.length := ⟨_, rfl⟩
    rw [← hn] at hb0_2 hs64 HB
    have Hn := Lib.hid hn
    clear hn
    go_wp2_with fail
    go_loopw [8, 9] (fun ss si wr => ∃ (k : Nat) (y : Since W), k ≤ n ∧ si = .int .i64 (k : Int) ∧ ss = .int .i64 (apS s.l t.l k) ∧ wr = y.w) (fun _ si _ => n - (intOf si).toNat)
    case atStart => exact ⟨0, y2, by omega, rfl, rfl, rfl⟩
    case round =>
      obtain ⟨k, y, hk, rfl, rfl, rfl⟩ := hrel
      by_cases hlt : k < n
      · obtain ⟨b1, off1, rfl, hbl1, hc1⟩ := HS.out k (by have := Hn.out; omega)
        obtain ⟨b2, off2, rfl, hbl2, hc2⟩ := HT.out k (by have := Hn.out; have := Hll.out; omega)
        have kc1 : ∀ q : Since W, q.w.cell? ⟨b1, off1 + k, none⟩ = some (.int .i64 (at0 s.l k)) := fun q => Since.cell hc1 hbl1 q
        have kc2 : ∀ q : Since W, q.w.cell? ⟨b2, off2 + k, none⟩ = some (.int .i64 (at0 t.l k)) := fun q => Since.cell hc2 hbl2 q
        obtain ⟨u1, u2⟩ := Hs.out.v k (by have := Hn.out; omega)
        obtain ⟨v1, v2⟩ := Ht.out.v k (by have := Hn.out; have := Hll.out; omega)
        have hS := apS_range Hs.out Ht.out k (by have := Hn.out; omega) (by have := Hn.out; have := Hll.out; omega)
        have Hnx := Lib.hid (show apS s.l t.l (k + 1) = apS s.l t.l k + max (at0 s.l k - at0 t.l k) (at0 t.l k - at0 s.l k) from rfl)
        have hk0 : (0 : Int) ≤ (k : Int) := by omega
        have hkl : (k : Int) < (n : Int) := by omega
        have hkt : (k : Int) < (t.l.length : Int) := by have := Hn.out; have := Hll.out; omega
        generalize at0 s.l k = p at *
        generalize at0 t.l k = r at *
        obtain ⟨S, hS2⟩ : ∃ S, S = apS s.l t.l k := ⟨_, rfl⟩
        rw [← hS2] at Hnx hS ⊢
        obtain ⟨s1, s2⟩ := hS
        have w1 : IntKind.i64.wrap (p - r) = p - r := IntWalk.i64_in _ (by omega)
        have w2 : IntKind.i64.wrap (r - p) = r - p := IntWalk.i64_in _ (by omega)
        have w3 : IntKind.i64.wrap (S + max (p - r) (r - p)) = S + max (p - r) (r - p) := IntWalk.i64_in _ (by omega)
        clear hc1 hc2 hbl1 hbl2 hS2
        go_wp2_with fail
        refine wp_region_since (by kernel_rfl) (by kernel_rfl) ?_
        repeat (go_big_quiet_step (fail))
        refine wpQuiet_nil ?_
        rintro _ ⟨z, rfl⟩
        clear w1 w2 w3
        go_wp2_with fail
        go_roundw
        case rel => exact ⟨k + 1, z, by omega, by go_num, by rw [Hnx.out], rfl⟩
        case measure => simp [intOf] <;> omega
      · obtain rfl : k = n := by omega
        go_wp2_with fail
        obtain ⟨z, hz⟩ := Hup.out y
        rw [hz]
        exact HB.out z
/-- equal tables -/
def sameT (s t : Tab) : Bool := decide (s.r = t.r ∧ s.c = t.c ∧ s.l = t.l)
theorem sameT_neg {s t : Tab} (h : ¬ (s.r = t.r ∧ s.c = t.c ∧ s.l = t.l)) : sameT s t = false := decide_eq_false h
theorem list_at {s t : List Int} (hl : s.length = t.length) (h : ∀ j, j < s.length → at0 s j = at0 t j) : s = t := by
  refine List.ext_getElem hl fun j h1 h2 => ?_
  have := h j h1
  unfold at0 at this
  rwa [List.getD_eq_getElem?_getD, List.getD_eq_getElem?_getD, List.getElem?_eq_getElem h1, List.getElem?_eq_getElem h2] at this
def OneB (w : World) (b : Bool) (o : Ending) (w' : World) : Prop := o = .returned (.bool b) ∧ ∃ y : Since w, w' = y.w
set_option maxRecDepth 100000 in
set_option maxHeartbeats 8000000 in
theorem rtsame_calls (w : World) (x : Since w) (s t : Tab) (a1 : Option Addr) (c1 : Nat) (a2 : Option Addr) (c2 : Nat) (h1 : IntRow w a1 s.l) (h2 : IntRow w a2 t.l) (hl1 : s.l.length ≤ 9223372036854775807) (_hl2 : t.l.length ≤ 9223372036854775807) :
    Calls Try.prog 21 #[.agg #[.int .i64 s.r, .int .i64 s.c, .slice a1 s.l.length c1], .agg #[.int .i64 t.r, .int .i64 t.c, .slice a2 t.l.length c2]] x.w (OneB w (sameT s t)) := by
  have HS := Lib.hid h1
  have HT := Lib.hid h2
  have Hp := Lib.hid (fun (c : Bool) (h : sameT s t = c) (y : Since w) => show OneB w (sameT s t) (.returned (.bool c)) y.w from ⟨by rw [h], y, rfl⟩)
  generalize OneB w (sameT s t) = PO at *
  clear h1 h2
  go_enter Try.func21, Try.ntmps21
  go_upto_region 1 with fail
  have hb0_0 : ∀ y : Since ((x.w.alloc (.cells #[.int .i64 s.r, .int .i64 s.c, .slice a1 s.l.length c1] 39)).alloc (.cells #[.int .i64 t.r, .int .i64 t.c, .slice a2 t.l.length c2] 39)), y.w.cell? ⟨x.w.heap.size, 0, none⟩ = some (.int .i64 s.r) := fun y => Since.cell (by simp [go_sem]) (by first | (simp; done) | (simp; omega)) y
  have hb0_1 : ∀ y : Since ((x.w.alloc (.cells #[.int .i64 s.r, .int .i64 s.c, .slice a1 s.l.length c1] 39)).alloc (.cells #[.int .i64 t.r, .int .i64 t.c, .slice a2 t.l.length c2] 39)), y.w.cell? ⟨x.w.heap.size, 1, none⟩ = some (.int .i64 s.c) := fun y => Since.cell (by simp [go_sem]) (by first | (simp; done) | (simp; omega)) y
  have hb0_2 : ∀ y : Since ((x.w.alloc (.cells #[.int .i64 s.r, .int .i64 s.c, .slice a1 s.l.length c1] 39)).alloc (.cells #[.int .i64 t.r, .int .i64 t.c, .slice a2 t.l.length c2] 39)), y.w.cell? ⟨x.w.heap.size, 2, none⟩ = some (.slice a1 s.l.length c1) := fun y => Since.cell (by simp [go_sem]) (by first | (simp; done) | (simp; omega)) y
  have hf0 : ∀ (y : Since ((x.w.alloc (.cells #[.int .i64 s.r, .int .i64 s.c, .slice a1 s.l.length c1] 39)).alloc (.cells #[.int .i64 t.r, .int .i64 t.c, .slice a2 t.l.length c2] 39))) (o : Nat), y.w.frozen? ⟨x.w.heap.size, o, none⟩ = false := fun y o => Since.free (by simp [go_sem]) (by first | (simp; done) | (simp; omega)) y
  have hb1_0 : ∀ y : Since ((x.w.alloc (.cells #[.int .i64 s.r, .int .i64 s.c, .slice a1 s.l.length c1] 39)).alloc (.cells #[.int .i64 t.r, .int .i64 t.c, .slice a2 t.l.length c2] 39)), y.w.cell? ⟨x.w.heap.size + 1, 0, none⟩ = some (.int .i64 t.r) := fun y => Since.cell (by simp [go_sem]) (by first | (simp; done) | (simp; omega)) y
  have hb1_1 : ∀ y : Since ((x.w.alloc (.cells #[.int .i64 s.r, .int .i64 s.c, .slice a1 s.l.length c1] 39)).alloc (.cells #[.int .i64 t.r, .int .i64 t.c, .slice a2 t.l.length c2] 39)), y.w.cell? ⟨x.w.heap.size + 1, 1, none⟩ = some (.int .i64 t.c) := fun y => Since.cell (by simp [go_sem]) (by first | (simp; done) | (simp; omega)) y
  have hb1_2 : ∀ y : Since ((x.w.alloc (.cells #[.int .i64 s.r, .int .i64 s.c, .slice a1 s.l.length c1] 39)).alloc (.cells #[.int .i64 t.r, .int .i64 t.c, .slice a2 t.l.length c2] 39)), y.w.cell? ⟨x.w.heap.size + 1, 2, none⟩ = some (.slice a2 t.l.length c2) := fun y => Since.cell (by simp [go_sem]) (by first | (simp; done) | (simp; omega)) y
  have hf1 : ∀ (y : Since ((x.w.alloc (.cells #[.int .i64 s.r, .int .i64 s.c, .slice a1 s.l.length c1] 39)).alloc (.cells #[.int .i64 t.r, .int .i64 t.c, .slice a2 t.l.length c2] 39))) (o : Nat), y.w.frozen? ⟨x.w.heap.size + 1, o, none⟩ = false := fun y o => Since.free (by simp [go_sem]) (by first | (simp; done) | (simp; omega)) y
  have hWup : ∃ z : Since w, ((x.w.alloc (.cells #[.int .i64 s.r, .int .i64 s.c, .slice a1 s.l.length c1] 39)).alloc (.cells #[.int .i64 t.r, .int .i64 t.c, .slice a2 t.l.length c2] 39)) = z.w := Since.allocs x [.cells #[.int .i64 s.r, .int .i64 s.c, .slice a1 s.l.length c1] 39, .cells #[.int .i64 t.r, .int .i64 t.c, .slice a2 t.l.length c2] 39]
  obtain ⟨y0, hy0⟩ := Since.refl ((x.w.alloc (.cells #[.int .i64 s.r, .int .i64 s.c, .slice a1 s.l.length c1] 39)).alloc (.cells #[.int .i64 t.r, .int .i64 t.c, .slice a2 t.l.length c2] 39))
  have Hbx := Lib.hid (And.intro x.b.size (show x.w.heap.size + 2 = ((x.w.alloc (.cells #[.int .i64 s.r, .int .i64 s.c, .slice a1 s.l.length c1] 39)).alloc (.cells #[.int .i64 t.r, .int .i64 t.c, .slice a2 t.l.length c2] 39)).heap.size from by simp))
  generalize hW : ((x.w.alloc (.cells #[.int .i64 s.r, .int .i64 s.c, .slice a1 s.l.length c1] 39)).alloc (.cells #[.int .i64 t.r, .int .i64 t.c, .slice a2 t.l.length c2] 39)) = W at *
  clear hW
  generalize x.w.heap.size = bx at *
  have Hup := Lib.hid (Since.up hWup)
  rw [hy0]
  clear hy0
  replace HS := Lib.hid (HS.out.to hWup)
  replace HT := Lib.hid (HT.out.to hWup)
  clear hWup hf0 hf1
  by_cases hd : s.r = t.r ∧ s.c = t.c ∧ s.l.length = t.l.length
  · obtain ⟨d1, d2, d3⟩ := hd
    have q1 : (s.r != t.r) = false := by simpa using d1
    have q2 : (s.c != t.c) = false := by simpa using d2
    have Hd := Lib.hid (And.intro d1 (And.intro d2 d3))
    obtain ⟨n, hn⟩ : ∃ n, n = s.l.length := ⟨_, rfl⟩
    rw [← d3, ← hn] at hb1_2
    rw [← hn] at hb0_2
    have hn63 : n ≤ 9223372036854775807 := by omega
    have Hn := Lib.hid hn
    clear hn d1 d2 d3
    go_wp2_with fail
    go_loopw [5] (fun si wr => ∃ (k : Nat) (y : Since W), k ≤ n ∧ si = .int .i64 (k : Int) ∧ wr = y.w ∧ ∀ j, j < k → at0 s.l j = at0 t.l j) (fun si _ => n - (intOf si).toNat)
    case atStart => exact ⟨0, y0, by omega, rfl, rfl, fun j hj => by omega⟩
    case round =>
      obtain ⟨k, y, hk, rfl, rfl, hok⟩ := hrel
      have Hok := Lib.hid hok
      clear hok
      by_cases hlt : k < n
      · obtain ⟨b1, off1, rfl, hbl1, hc1⟩ := HS.out k (by have := Hn.out; omega)
        obtain ⟨b2, off2, rfl, hbl2, hc2⟩ := HT.out k (by have := Hn.out; have := Hd.out; omega)
        have kc1 : ∀ q : Since W, q.w.cell? ⟨b1, off1 + k, none⟩ = some (.int .i64 (at0 s.l k)) := fun q => Since.cell hc1 hbl1 q
        have kc2 : ∀ q : Since W, q.w.cell? ⟨b2, off2 + k, none⟩ = some (.int .i64 (at0 t.l k)) := fun q => Since.cell hc2 hbl2 q
        have hk0 : (0 : Int) ≤ (k : Int) := by omega
        have hkl : (k : Int) < (n : Int) := by omega
        have Hnx := Lib.hid (fun (he : at0 s.l k = at0 t.l k) => show ∀ j, j < k + 1 → at0 s.l j = at0 t.l j from fun j hj => by
          rcases (by omega : j < k ∨ j = k) with h | rfl
          · exact Hok.out j h
          · exact he)
        have Hno := Lib.hid (fun (he : at0 s.l k ≠ at0 t.l k) => show sameT s t = false from sameT_neg fun ⟨_, _, h3⟩ => he (by rw [h3]))
        generalize at0 s.l k = p at *
        generalize at0 t.l k = r at *
        clear hc1 hc2 hbl1 hbl2
        by_cases he : p = r
        · have Hn2 := Lib.hid (Hnx.out he)
          have hb : (p != r) = false := by simpa using he
          clear he Hnx Hno
          go_wp2_with fail
          refine wp_region_since (by kernel_rfl) (by kernel_rfl) ?_
          repeat (go_big_quiet_step (fail))
          refine wpQuiet_nil ?_
          rintro _ ⟨z, rfl⟩
          go_wp2_with fail
          go_roundw
          case rel => exact ⟨k + 1, z, by omega, by go_num, rfl, Hn2.out⟩
          case measure => simp [intOf] <;> omega
        · have HB := Lib.hid (Hp.out false (Hno.out he))
          have hb : (p != r) = true := by simpa using he
          clear he Hnx Hno
          go_wp2_with fail
          refine wp_region_since (by kernel_rfl) (by kernel_rfl) ?_
          repeat (go_big_quiet_step (fail))
          refine wpQuiet_nil ?_
          rintro _ ⟨z, rfl⟩
          go_wp2_with fail
          obtain ⟨z2, hz2⟩ := Hup.out z
          rw [hz2]
          exact HB.out z2
      · obtain rfl : k = n := by omega
        have HB := Lib.hid (Hp.out true (show sameT s t = true from decide_eq_true ⟨Hd.out.1, Hd.out.2.1, list_at Hd.out.2.2 (by rw [← Hn.out]; exact Hok.out)⟩))
        go_wp2_with fail
        obtain ⟨z, hz⟩ := Hup.out y
        rw [hz]
        exact HB.out z
  · have HB := Lib.hid (Hp.out false (sameT_neg fun ⟨e1, e2, e3⟩ => hd ⟨e1, e2, by rw [e3]⟩))
    have hc : (s.r != t.r) = true ∨ ((s.r != t.r) = false ∧ (s.c != t.c) = true) ∨ ((s.r != t.r) = false ∧ (s.c != t.c) = false ∧ ((s.l.length : Int) != (t.l.length : Int)) = true) := by
      by_cases h : s.r = t.r
      · right
        by_cases h2 : s.c = t.c
        · right; exact ⟨by simpa using h, by simpa using h2, by simp only [bne_iff_ne, ne_eq]; intro h3; exact hd ⟨h, h2, by omega⟩⟩
        · left; exact ⟨by simpa using h, by simpa using h2⟩
      · left; simpa using h
    clear hd
    rcases hc with h | ⟨h, h'⟩ | ⟨h, h', h''⟩
    all_goals
      go_wp2_with fail
      obtain ⟨z, hz⟩ := Hup.out y0
      rw [hz]
      exact HB.out z
end Go.Proofs.Ytdmmjapccgeffaa
/- Trips between zones, the reference: the check of rides, before, ahead. -/
namespace Go.Proofs.Ytdmmjapccgeffaa
open Go.RowKit Go.ChangeMaps

set_option maxRecDepth 100000 in
set_option maxHeartbeats 4000000 in
theorem rrides_calls (w : World) (x : Since w) (a : Option Addr) (l : List Ride) (c : Nat) (h : RideRow w a l) (hl : l.length ≤ 9223372036854775807) :
    Calls Try.prog 34 #[.slice a l.length c] x.w fun o w' => o = .returned (.int .i64 (ridesE l)) ∧ ∃ y : Since w, w' = y.w := by
  have HL := Lib.hid h
  clear h
  by_cases hbig : 256 < l.length
  · have Hr := Lib.hid (show ridesE l = 8 by unfold ridesE; rw [if_pos hbig])
    go_enter Try.func34, Try.ntmps34
    go_wp2_with fail
    go_ret
    exact ⟨ret_int Hr.out.symm, _, rfl⟩
  have hl256 : l.length ≤ 256 := by omega
  have HP := Lib.hid (fun hok : (∀ j, j < l.length → ∀ e, l[j]? = some e → rideE e = 0) => ridesE_ok hl256 hok)
  clear hbig hl
  go_enter Try.func34, Try.ntmps34
  go_wp2_with fail
  go_loopw [3] (fun i wr => ∃ (k : Nat) (y : Since w), k ≤ l.length ∧ i = .int .i64 k ∧ wr = y.w ∧ ∀ j, j < k → ∀ e, l[j]? = some e → rideE e = 0) (fun i _ => l.length - (intOf i).toNat)
  case atStart => exact ⟨0, _, by omega, rfl, rfl, fun j hj => by omega⟩
  case round =>
    obtain ⟨k, y, hk, rfl, rfl, hok⟩ := hrel
    have Hok := Lib.hid hok; clear hok
    by_cases hlt : k < l.length
    · obtain ⟨e, he⟩ : ∃ e, l[k]? = some e := ⟨_, List.getElem?_eq_getElem hlt⟩
      obtain ⟨b1, off1, rfl, h1'⟩ := Els.ride HL.out.c he
      have ra0 := h1'.c0
      have ra1 := h1'.c1
      have ra2 := h1'.c2
      have ra3 := h1'.c3
      have ra4 := h1'.c4
      have ra5 := h1'.c5
      have ra6 := h1'.c6
      have ra7 := h1'.c7
      have ra8 := h1'.c8
      have ra9 := h1'.c9
      have ra10 := h1'.c10
      have ra11 := h1'.c11
      have ra12 := h1'.c12
      have hk0 : (0 : Int) ≤ (k : Int) := by omega
      have hkl : (k : Int) < (l.length : Int) := by omega
      have He := Lib.hid he
      have Hat := Lib.hid (HL.out.r e (List.mem_of_getElem? he))
      clear h1' he
      by_cases hg : rideE e = 0
      · have Hg := Lib.hid hg; clear hg
        go_wp2_with fail
        refine (rcheck_calls w y e Hat.out).mono ?_
        rintro _ _ ⟨rfl, z, rfl⟩
        rw [Hg.out]
        go_wp2_with fail
        go_roundw
        case rel => exact ⟨k + 1, z, by omega, by go_num, rfl, upto_next (P := fun e : Ride => rideE e = 0) Hok.out He.out Hg.out⟩
        case measure => simp [intOf] <;> omega
      · have Hr := Lib.hid (ridesE_err hl256 He.out hg Hok.out)
        have heb : (rideE e != 0) = true := by simpa using hg
        clear hg
        go_wp2_with fail
        refine (rcheck_calls w y e Hat.out).mono ?_
        rintro _ _ ⟨rfl, z, rfl⟩
        generalize rideE e = re at *
        go_wp2_with fail
        go_ret
        exact ⟨ret_int Hr.out.symm, _, rfl⟩
    · obtain rfl : k = l.length := by omega
      have HQ := Lib.hid (HP.out Hok.out)
      clear Hok HP
      go_wp2_with fail
      go_loopw [5] (fun i wr => ∃ (k : Nat) (y : Since w), k ≤ l.length ∧ i = .int .i64 k ∧ wr = y.w ∧ ((l.map fun r : Ride => r.id).take k).Nodup) (fun i _ => l.length - (intOf i).toNat)
      case atStart => exact ⟨0, y, by omega, rfl, rfl, by simp⟩
      case round =>
        obtain ⟨k, y, hk, rfl, rfl, hnd⟩ := hrel
        have Hnd := Lib.hid hnd; clear hnd
        by_cases hlt : k < l.length
        · obtain ⟨e, he⟩ : ∃ e, l[k]? = some e := ⟨_, List.getElem?_eq_getElem hlt⟩
          obtain ⟨b1, off1, rfl, h1'⟩ := Els.ride HL.out.c he
          have ra0 := h1'.c0
          have hk0 : (0 : Int) ≤ (k : Int) := by omega
          have hkl : (k : Int) < (l.length : Int) := by omega
          have He := Lib.hid (map_at (f := fun r : Ride => r.id) he)
          have Hnx := Lib.hid (nodup_take_next He.out)
          clear h1' he
          go_wp2_with fail
          go_loopw [6] (fun i wr => ∃ (m : Nat) (y : Since w), m ≤ k ∧ i = .int .i64 m ∧ wr = y.w ∧ ∀ j, j < m → ∀ v, (l.map fun r : Ride => r.id)[j]? = some v → v ≠ e.id) (fun i _ => k - (intOf i).toNat)
          case atStart => exact ⟨0, y, by omega, rfl, rfl, fun j hj => by omega⟩
          case round =>
            obtain ⟨m, y, hm, rfl, rfl, hno⟩ := hrel
            have Hno := Lib.hid hno; clear hno
            by_cases hlm : m < k
            · obtain ⟨e2, he2⟩ : ∃ e, l[m]? = some e := ⟨_, List.getElem?_eq_getElem (by omega)⟩
              obtain ⟨b2, off2, hbo, h2'⟩ := Els.ride HL.out.c he2
              simp only [Option.some.injEq, Addr.mk.injEq, and_true] at hbo
              obtain ⟨rfl, rfl⟩ := hbo
              have rb0 := h2'.c0
              have hm0 : (0 : Int) ≤ (m : Int) := by omega
              have hml : (m : Int) < (l.length : Int) := by omega
              have hmk : (m : Int) < (k : Int) := by omega
              have He2 := Lib.hid (map_at (f := fun r : Ride => r.id) he2)
              clear h2' he2
              by_cases hee : e.id = e2.id
              · have hb : (e.id == e2.id) = true := by simpa using hee
                have Hr := Lib.hid (show ridesE l = 6 by
                  rw [HQ.out, if_pos (dupB_true fun h => (Hnx.out.1 (nodup_of_take h)).2 (by rw [hee]; exact List.mem_of_getElem? (by rw [List.getElem?_take, if_pos hlm]; exact He2.out)))])
                clear hee
                go_wp2_with fail
                refine wp_region_since (by kernel_rfl) (by kernel_rfl) ?_
                repeat (go_big_quiet_step (fail))
                refine wpQuiet_nil ?_
                rintro _ ⟨z, rfl⟩
                go_wp2_with fail
                go_ret
                exact ⟨ret_int Hr.out.symm, _, rfl⟩
              · have hb : (e.id == e2.id) = false := by simpa using hee
                have Hno2 := Lib.hid (show ∀ j, j < m + 1 → ∀ v, (l.map fun r : Ride => r.id)[j]? = some v → v ≠ e.id from upto_next (P := fun v => v ≠ e.id) Hno.out He2.out (fun h => hee h.symm))
                clear hee
                go_wp2_with fail
                refine wp_region_since (by kernel_rfl) (by kernel_rfl) ?_
                repeat (go_big_quiet_step (fail))
                refine wpQuiet_nil ?_
                rintro _ ⟨z, rfl⟩
                go_wp2_with fail
                go_roundw
                case rel => exact ⟨m + 1, z, by omega, by go_num, rfl, Hno2.out⟩
                case measure => simp [intOf] <;> omega
            · obtain rfl : m = k := by omega
              have Hnd2 := Lib.hid (Hnx.out.2 ⟨Hnd.out, fun hm => by
                obtain ⟨j, hj⟩ := List.mem_iff_getElem?.1 hm
                rw [List.getElem?_take] at hj
                split at hj
                · rename_i hjm; exact Hno.out j hjm _ hj rfl
                · cases hj⟩)
              go_wp2_with fail
              go_roundw
              case rel => exact ⟨m + 1, y, by omega, by go_num, rfl, Hnd2.out⟩
              case measure => simp [intOf] <;> omega
        · obtain rfl : k = l.length := by omega
          have Hr := Lib.hid (show ridesE l = 0 by
            have h1 := Hnd.out
            rw [List.take_of_length_le (by simp)] at h1
            rw [HQ.out, if_neg (by rw [dupB_false h1]; simp)])
          go_wp2_with fail
          go_ret
          exact ⟨ret_int Hr.out.symm, _, rfl⟩
set_option maxRecDepth 100000 in
set_option maxHeartbeats 4000000 in
theorem before_calls (w : World) (x : Since w) (s t : Ride) : Calls Try.prog 46 #[.agg #[.int .i64 s.id, .int .i64 s.rd, .int .i64 s.s0, .int .i64 s.s1, .int .i64 s.e0, .int .i64 s.e1, .bool s.op, .slice s.la s.legs.length s.lc, .slice s.pa s.pauses.length s.pc, .int .i64 s.fw, .int .i64 s.fp, .int .i64 s.wh, .int .i64 s.pl], .agg #[.int .i64 t.id, .int .i64 t.rd, .int .i64 t.s0, .int .i64 t.s1, .int .i64 t.e0, .int .i64 t.e1, .bool t.op, .slice t.la t.legs.length t.lc, .slice t.pa t.pauses.length t.pc, .int .i64 t.fw, .int .i64 t.fp, .int .i64 t.wh, .int .i64 t.pl]] x.w (OneB w (bf s t)) := by
  have Hp := Lib.hid (fun (c : Bool) (h : bf s t = c) (y : Since w) => show OneB w (bf s t) (.returned (.bool c)) y.w from ⟨by rw [h], y, rfl⟩)
  have Hi := Lib.hid (bf_iff s t)
  generalize OneB w (bf s t) = PO at *
  go_enter Try.func46, Try.ntmps46
  go_upto_region 1 with fail
  have hb0_0 : ∀ y : Since ((x.w.alloc (.cells #[.int .i64 s.id, .int .i64 s.rd, .int .i64 s.s0, .int .i64 s.s1, .int .i64 s.e0, .int .i64 s.e1, .bool s.op, .slice s.la s.legs.length s.lc, .slice s.pa s.pauses.length s.pc, .int .i64 s.fw, .int .i64 s.fp, .int .i64 s.wh, .int .i64 s.pl] 52)).alloc (.cells #[.int .i64 t.id, .int .i64 t.rd, .int .i64 t.s0, .int .i64 t.s1, .int .i64 t.e0, .int .i64 t.e1, .bool t.op, .slice t.la t.legs.length t.lc, .slice t.pa t.pauses.length t.pc, .int .i64 t.fw, .int .i64 t.fp, .int .i64 t.wh, .int .i64 t.pl] 52)), y.w.cell? ⟨x.w.heap.size, 0, none⟩ = some (.int .i64 s.id) := fun y => Since.cell (by simp [go_sem]) (by first | (simp; done) | (simp; omega)) y
  have hb0_1 : ∀ y : Since ((x.w.alloc (.cells #[.int .i64 s.id, .int .i64 s.rd, .int .i64 s.s0, .int .i64 s.s1, .int .i64 s.e0, .int .i64 s.e1, .bool s.op, .slice s.la s.legs.length s.lc, .slice s.pa s.pauses.length s.pc, .int .i64 s.fw, .int .i64 s.fp, .int .i64 s.wh, .int .i64 s.pl] 52)).alloc (.cells #[.int .i64 t.id, .int .i64 t.rd, .int .i64 t.s0, .int .i64 t.s1, .int .i64 t.e0, .int .i64 t.e1, .bool t.op, .slice t.la t.legs.length t.lc, .slice t.pa t.pauses.length t.pc, .int .i64 t.fw, .int .i64 t.fp, .int .i64 t.wh, .int .i64 t.pl] 52)), y.w.cell? ⟨x.w.heap.size, 1, none⟩ = some (.int .i64 s.rd) := fun y => Since.cell (by simp [go_sem]) (by first | (simp; done) | (simp; omega)) y
  have hb0_2 : ∀ y : Since ((x.w.alloc (.cells #[.int .i64 s.id, .int .i64 s.rd, .int .i64 s.s0, .int .i64 s.s1, .int .i64 s.e0, .int .i64 s.e1, .bool s.op, .slice s.la s.legs.length s.lc, .slice s.pa s.pauses.length s.pc, .int .i64 s.fw, .int .i64 s.fp, .int .i64 s.wh, .int .i64 s.pl] 52)).alloc (.cells #[.int .i64 t.id, .int .i64 t.rd, .int .i64 t.s0, .int .i64 t.s1, .int .i64 t.e0, .int .i64 t.e1, .bool t.op, .slice t.la t.legs.length t.lc, .slice t.pa t.pauses.length t.pc, .int .i64 t.fw, .int .i64 t.fp, .int .i64 t.wh, .int .i64 t.pl] 52)), y.w.cell? ⟨x.w.heap.size, 2, none⟩ = some (.int .i64 s.s0) := fun y => Since.cell (by simp [go_sem]) (by first | (simp; done) | (simp; omega)) y
  have hb0_3 : ∀ y : Since ((x.w.alloc (.cells #[.int .i64 s.id, .int .i64 s.rd, .int .i64 s.s0, .int .i64 s.s1, .int .i64 s.e0, .int .i64 s.e1, .bool s.op, .slice s.la s.legs.length s.lc, .slice s.pa s.pauses.length s.pc, .int .i64 s.fw, .int .i64 s.fp, .int .i64 s.wh, .int .i64 s.pl] 52)).alloc (.cells #[.int .i64 t.id, .int .i64 t.rd, .int .i64 t.s0, .int .i64 t.s1, .int .i64 t.e0, .int .i64 t.e1, .bool t.op, .slice t.la t.legs.length t.lc, .slice t.pa t.pauses.length t.pc, .int .i64 t.fw, .int .i64 t.fp, .int .i64 t.wh, .int .i64 t.pl] 52)), y.w.cell? ⟨x.w.heap.size, 3, none⟩ = some (.int .i64 s.s1) := fun y => Since.cell (by simp [go_sem]) (by first | (simp; done) | (simp; omega)) y
  have hb0_4 : ∀ y : Since ((x.w.alloc (.cells #[.int .i64 s.id, .int .i64 s.rd, .int .i64 s.s0, .int .i64 s.s1, .int .i64 s.e0, .int .i64 s.e1, .bool s.op, .slice s.la s.legs.length s.lc, .slice s.pa s.pauses.length s.pc, .int .i64 s.fw, .int .i64 s.fp, .int .i64 s.wh, .int .i64 s.pl] 52)).alloc (.cells #[.int .i64 t.id, .int .i64 t.rd, .int .i64 t.s0, .int .i64 t.s1, .int .i64 t.e0, .int .i64 t.e1, .bool t.op, .slice t.la t.legs.length t.lc, .slice t.pa t.pauses.length t.pc, .int .i64 t.fw, .int .i64 t.fp, .int .i64 t.wh, .int .i64 t.pl] 52)), y.w.cell? ⟨x.w.heap.size, 4, none⟩ = some (.int .i64 s.e0) := fun y => Since.cell (by simp [go_sem]) (by first | (simp; done) | (simp; omega)) y
  have hb0_5 : ∀ y : Since ((x.w.alloc (.cells #[.int .i64 s.id, .int .i64 s.rd, .int .i64 s.s0, .int .i64 s.s1, .int .i64 s.e0, .int .i64 s.e1, .bool s.op, .slice s.la s.legs.length s.lc, .slice s.pa s.pauses.length s.pc, .int .i64 s.fw, .int .i64 s.fp, .int .i64 s.wh, .int .i64 s.pl] 52)).alloc (.cells #[.int .i64 t.id, .int .i64 t.rd, .int .i64 t.s0, .int .i64 t.s1, .int .i64 t.e0, .int .i64 t.e1, .bool t.op, .slice t.la t.legs.length t.lc, .slice t.pa t.pauses.length t.pc, .int .i64 t.fw, .int .i64 t.fp, .int .i64 t.wh, .int .i64 t.pl] 52)), y.w.cell? ⟨x.w.heap.size, 5, none⟩ = some (.int .i64 s.e1) := fun y => Since.cell (by simp [go_sem]) (by first | (simp; done) | (simp; omega)) y
  have hb0_6 : ∀ y : Since ((x.w.alloc (.cells #[.int .i64 s.id, .int .i64 s.rd, .int .i64 s.s0, .int .i64 s.s1, .int .i64 s.e0, .int .i64 s.e1, .bool s.op, .slice s.la s.legs.length s.lc, .slice s.pa s.pauses.length s.pc, .int .i64 s.fw, .int .i64 s.fp, .int .i64 s.wh, .int .i64 s.pl] 52)).alloc (.cells #[.int .i64 t.id, .int .i64 t.rd, .int .i64 t.s0, .int .i64 t.s1, .int .i64 t.e0, .int .i64 t.e1, .bool t.op, .slice t.la t.legs.length t.lc, .slice t.pa t.pauses.length t.pc, .int .i64 t.fw, .int .i64 t.fp, .int .i64 t.wh, .int .i64 t.pl] 52)), y.w.cell? ⟨x.w.heap.size, 6, none⟩ = some (.bool s.op) := fun y => Since.cell (by simp [go_sem]) (by first | (simp; done) | (simp; omega)) y
  have hb0_7 : ∀ y : Since ((x.w.alloc (.cells #[.int .i64 s.id, .int .i64 s.rd, .int .i64 s.s0, .int .i64 s.s1, .int .i64 s.e0, .int .i64 s.e1, .bool s.op, .slice s.la s.legs.length s.lc, .slice s.pa s.pauses.length s.pc, .int .i64 s.fw, .int .i64 s.fp, .int .i64 s.wh, .int .i64 s.pl] 52)).alloc (.cells #[.int .i64 t.id, .int .i64 t.rd, .int .i64 t.s0, .int .i64 t.s1, .int .i64 t.e0, .int .i64 t.e1, .bool t.op, .slice t.la t.legs.length t.lc, .slice t.pa t.pauses.length t.pc, .int .i64 t.fw, .int .i64 t.fp, .int .i64 t.wh, .int .i64 t.pl] 52)), y.w.cell? ⟨x.w.heap.size, 7, none⟩ = some (.slice s.la s.legs.length s.lc) := fun y => Since.cell (by simp [go_sem]) (by first | (simp; done) | (simp; omega)) y
  have hb0_8 : ∀ y : Since ((x.w.alloc (.cells #[.int .i64 s.id, .int .i64 s.rd, .int .i64 s.s0, .int .i64 s.s1, .int .i64 s.e0, .int .i64 s.e1, .bool s.op, .slice s.la s.legs.length s.lc, .slice s.pa s.pauses.length s.pc, .int .i64 s.fw, .int .i64 s.fp, .int .i64 s.wh, .int .i64 s.pl] 52)).alloc (.cells #[.int .i64 t.id, .int .i64 t.rd, .int .i64 t.s0, .int .i64 t.s1, .int .i64 t.e0, .int .i64 t.e1, .bool t.op, .slice t.la t.legs.length t.lc, .slice t.pa t.pauses.length t.pc, .int .i64 t.fw, .int .i64 t.fp, .int .i64 t.wh, .int .i64 t.pl] 52)), y.w.cell? ⟨x.w.heap.size, 8, none⟩ = some (.slice s.pa s.pauses.length s.pc) := fun y => Since.cell (by simp [go_sem]) (by first | (simp; done) | (simp; omega)) y
  have hb0_9 : ∀ y : Since ((x.w.alloc (.cells #[.int .i64 s.id, .int .i64 s.rd, .int .i64 s.s0, .int .i64 s.s1, .int .i64 s.e0, .int .i64 s.e1, .bool s.op, .slice s.la s.legs.length s.lc, .slice s.pa s.pauses.length s.pc, .int .i64 s.fw, .int .i64 s.fp, .int .i64 s.wh, .int .i64 s.pl] 52)).alloc (.cells #[.int .i64 t.id, .int .i64 t.rd, .int .i64 t.s0, .int .i64 t.s1, .int .i64 t.e0, .int .i64 t.e1, .bool t.op, .slice t.la t.legs.length t.lc, .slice t.pa t.pauses.length t.pc, .int .i64 t.fw, .int .i64 t.fp, .int .i64 t.wh, .int .i64 t.pl] 52)), y.w.cell? ⟨x.w.heap.size, 9, none⟩ = some (.int .i64 s.fw) := fun y => Since.cell (by simp [go_sem]) (by first | (simp; done) | (simp; omega)) y
  have hb0_10 : ∀ y : Since ((x.w.alloc (.cells #[.int .i64 s.id, .int .i64 s.rd, .int .i64 s.s0, .int .i64 s.s1, .int .i64 s.e0, .int .i64 s.e1, .bool s.op, .slice s.la s.legs.length s.lc, .slice s.pa s.pauses.length s.pc, .int .i64 s.fw, .int .i64 s.fp, .int .i64 s.wh, .int .i64 s.pl] 52)).alloc (.cells #[.int .i64 t.id, .int .i64 t.rd, .int .i64 t.s0, .int .i64 t.s1, .int .i64 t.e0, .int .i64 t.e1, .bool t.op, .slice t.la t.legs.length t.lc, .slice t.pa t.pauses.length t.pc, .int .i64 t.fw, .int .i64 t.fp, .int .i64 t.wh, .int .i64 t.pl] 52)), y.w.cell? ⟨x.w.heap.size, 10, none⟩ = some (.int .i64 s.fp) := fun y => Since.cell (by simp [go_sem]) (by first | (simp; done) | (simp; omega)) y
  have hb0_11 : ∀ y : Since ((x.w.alloc (.cells #[.int .i64 s.id, .int .i64 s.rd, .int .i64 s.s0, .int .i64 s.s1, .int .i64 s.e0, .int .i64 s.e1, .bool s.op, .slice s.la s.legs.length s.lc, .slice s.pa s.pauses.length s.pc, .int .i64 s.fw, .int .i64 s.fp, .int .i64 s.wh, .int .i64 s.pl] 52)).alloc (.cells #[.int .i64 t.id, .int .i64 t.rd, .int .i64 t.s0, .int .i64 t.s1, .int .i64 t.e0, .int .i64 t.e1, .bool t.op, .slice t.la t.legs.length t.lc, .slice t.pa t.pauses.length t.pc, .int .i64 t.fw, .int .i64 t.fp, .int .i64 t.wh, .int .i64 t.pl] 52)), y.w.cell? ⟨x.w.heap.size, 11, none⟩ = some (.int .i64 s.wh) := fun y => Since.cell (by simp [go_sem]) (by first | (simp; done) | (simp; omega)) y
  have hb0_12 : ∀ y : Since ((x.w.alloc (.cells #[.int .i64 s.id, .int .i64 s.rd, .int .i64 s.s0, .int .i64 s.s1, .int .i64 s.e0, .int .i64 s.e1, .bool s.op, .slice s.la s.legs.length s.lc, .slice s.pa s.pauses.length s.pc, .int .i64 s.fw, .int .i64 s.fp, .int .i64 s.wh, .int .i64 s.pl] 52)).alloc (.cells #[.int .i64 t.id, .int .i64 t.rd, .int .i64 t.s0, .int .i64 t.s1, .int .i64 t.e0, .int .i64 t.e1, .bool t.op, .slice t.la t.legs.length t.lc, .slice t.pa t.pauses.length t.pc, .int .i64 t.fw, .int .i64 t.fp, .int .i64 t.wh, .int .i64 t.pl] 52)), y.w.cell? ⟨x.w.heap.size, 12, none⟩ = some (.int .i64 s.pl) := fun y => Since.cell (by simp [go_sem]) (by first | (simp; done) | (simp; omega)) y
  have hf0 : ∀ (y : Since ((x.w.alloc (.cells #[.int .i64 s.id, .int .i64 s.rd, .int .i64 s.s0, .int .i64 s.s1, .int .i64 s.e0, .int .i64 s.e1, .bool s.op, .slice s.la s.legs.length s.lc, .slice s.pa s.pauses.length s.pc, .int .i64 s.fw, .int .i64 s.fp, .int .i64 s.wh, .int .i64 s.pl] 52)).alloc (.cells #[.int .i64 t.id, .int .i64 t.rd, .int .i64 t.s0, .int .i64 t.s1, .int .i64 t.e0, .int .i64 t.e1, .bool t.op, .slice t.la t.legs.length t.lc, .slice t.pa t.pauses.length t.pc, .int .i64 t.fw, .int .i64 t.fp, .int .i64 t.wh, .int .i64 t.pl] 52))) (o : Nat), y.w.frozen? ⟨x.w.heap.size, o, none⟩ = false := fun y o => Since.free (by simp [go_sem]) (by first | (simp; done) | (simp; omega)) y
  have hb1_0 : ∀ y : Since ((x.w.alloc (.cells #[.int .i64 s.id, .int .i64 s.rd, .int .i64 s.s0, .int .i64 s.s1, .int .i64 s.e0, .int .i64 s.e1, .bool s.op, .slice s.la s.legs.length s.lc, .slice s.pa s.pauses.length s.pc, .int .i64 s.fw, .int .i64 s.fp, .int .i64 s.wh, .int .i64 s.pl] 52)).alloc (.cells #[.int .i64 t.id, .int .i64 t.rd, .int .i64 t.s0, .int .i64 t.s1, .int .i64 t.e0, .int .i64 t.e1, .bool t.op, .slice t.la t.legs.length t.lc, .slice t.pa t.pauses.length t.pc, .int .i64 t.fw, .int .i64 t.fp, .int .i64 t.wh, .int .i64 t.pl] 52)), y.w.cell? ⟨x.w.heap.size + 1, 0, none⟩ = some (.int .i64 t.id) := fun y => Since.cell (by simp [go_sem]) (by first | (simp; done) | (simp; omega)) y
  have hb1_1 : ∀ y : Since ((x.w.alloc (.cells #[.int .i64 s.id, .int .i64 s.rd, .int .i64 s.s0, .int .i64 s.s1, .int .i64 s.e0, .int .i64 s.e1, .bool s.op, .slice s.la s.legs.length s.lc, .slice s.pa s.pauses.length s.pc, .int .i64 s.fw, .int .i64 s.fp, .int .i64 s.wh, .int .i64 s.pl] 52)).alloc (.cells #[.int .i64 t.id, .int .i64 t.rd, .int .i64 t.s0, .int .i64 t.s1, .int .i64 t.e0, .int .i64 t.e1, .bool t.op, .slice t.la t.legs.length t.lc, .slice t.pa t.pauses.length t.pc, .int .i64 t.fw, .int .i64 t.fp, .int .i64 t.wh, .int .i64 t.pl] 52)), y.w.cell? ⟨x.w.heap.size + 1, 1, none⟩ = some (.int .i64 t.rd) := fun y => Since.cell (by simp [go_sem]) (by first | (simp; done) | (simp; omega)) y
  have hb1_2 : ∀ y : Since ((x.w.alloc (.cells #[.int .i64 s.id, .int .i64 s.rd, .int .i64 s.s0, .int .i64 s.s1, .int .i64 s.e0, .int .i64 s.e1, .bool s.op, .slice s.la s.legs.length s.lc, .slice s.pa s.pauses.length s.pc, .int .i64 s.fw, .int .i64 s.fp, .int .i64 s.wh, .int .i64 s.pl] 52)).alloc (.cells #[.int .i64 t.id, .int .i64 t.rd, .int .i64 t.s0, .int .i64 t.s1, .int .i64 t.e0, .int .i64 t.e1, .bool t.op, .slice t.la t.legs.length t.lc, .slice t.pa t.pauses.length t.pc, .int .i64 t.fw, .int .i64 t.fp, .int .i64 t.wh, .int .i64 t.pl] 52)), y.w.cell? ⟨x.w.heap.size + 1, 2, none⟩ = some (.int .i64 t.s0) := fun y => Since.cell (by simp [go_sem]) (by first | (simp; done) | (simp; omega)) y
  have hb1_3 : ∀ y : Since ((x.w.alloc (.cells #[.int .i64 s.id, .int .i64 s.rd, .int .i64 s.s0, .int .i64 s.s1, .int .i64 s.e0, .int .i64 s.e1, .bool s.op, .slice s.la s.legs.length s.lc, .slice s.pa s.pauses.length s.pc, .int .i64 s.fw, .int .i64 s.fp, .int .i64 s.wh, .int .i64 s.pl] 52)).alloc (.cells #[.int .i64 t.id, .int .i64 t.rd, .int .i64 t.s0, .int .i64 t.s1, .int .i64 t.e0, .int .i64 t.e1, .bool t.op, .slice t.la t.legs.length t.lc, .slice t.pa t.pauses.length t.pc, .int .i64 t.fw, .int .i64 t.fp, .int .i64 t.wh, .int .i64 t.pl] 52)), y.w.cell? ⟨x.w.heap.size + 1, 3, none⟩ = some (.int .i64 t.s1) := fun y => Since.cell (by simp [go_sem]) (by first | (simp; done) | (simp; omega)) y
  have hb1_4 : ∀ y : Since ((x.w.alloc (.cells #[.int .i64 s.id, .int .i64 s.rd, .int .i64 s.s0, .int .i64 s.s1, .int .i64 s.e0, .int .i64 s.e1, .bool s.op, .slice s.la s.legs.length s.lc, .slice s.pa s.pauses.length s.pc, .int .i64 s.fw, .int .i64 s.fp, .int .i64 s.wh, .int .i64 s.pl] 52)).alloc (.cells #[.int .i64 t.id, .int .i64 t.rd, .int .i64 t.s0, .int .i64 t.s1, .int .i64 t.e0, .int .i64 t.e1, .bool t.op, .slice t.la t.legs.length t.lc, .slice t.pa t.pauses.length t.pc, .int .i64 t.fw, .int .i64 t.fp, .int .i64 t.wh, .int .i64 t.pl] 52)), y.w.cell? ⟨x.w.heap.size + 1, 4, none⟩ = some (.int .i64 t.e0) := fun y => Since.cell (by simp [go_sem]) (by first | (simp; done) | (simp; omega)) y
  have hb1_5 : ∀ y : Since ((x.w.alloc (.cells #[.int .i64 s.id, .int .i64 s.rd, .int .i64 s.s0, .int .i64 s.s1, .int .i64 s.e0, .int .i64 s.e1, .bool s.op, .slice s.la s.legs.length s.lc, .slice s.pa s.pauses.length s.pc, .int .i64 s.fw, .int .i64 s.fp, .int .i64 s.wh, .int .i64 s.pl] 52)).alloc (.cells #[.int .i64 t.id, .int .i64 t.rd, .int .i64 t.s0, .int .i64 t.s1, .int .i64 t.e0, .int .i64 t.e1, .bool t.op, .slice t.la t.legs.length t.lc, .slice t.pa t.pauses.length t.pc, .int .i64 t.fw, .int .i64 t.fp, .int .i64 t.wh, .int .i64 t.pl] 52)), y.w.cell? ⟨x.w.heap.size + 1, 5, none⟩ = some (.int .i64 t.e1) := fun y => Since.cell (by simp [go_sem]) (by first | (simp; done) | (simp; omega)) y
  have hb1_6 : ∀ y : Since ((x.w.alloc (.cells #[.int .i64 s.id, .int .i64 s.rd, .int .i64 s.s0, .int .i64 s.s1, .int .i64 s.e0, .int .i64 s.e1, .bool s.op, .slice s.la s.legs.length s.lc, .slice s.pa s.pauses.length s.pc, .int .i64 s.fw, .int .i64 s.fp, .int .i64 s.wh, .int .i64 s.pl] 52)).alloc (.cells #[.int .i64 t.id, .int .i64 t.rd, .int .i64 t.s0, .int .i64 t.s1, .int .i64 t.e0, .int .i64 t.e1, .bool t.op, .slice t.la t.legs.length t.lc, .slice t.pa t.pauses.length t.pc, .int .i64 t.fw, .int .i64 t.fp, .int .i64 t.wh, .int .i64 t.pl] 52)), y.w.cell? ⟨x.w.heap.size + 1, 6, none⟩ = some (.bool t.op) := fun y => Since.cell (by simp [go_sem]) (by first | (simp; done) | (simp; omega)) y
  have hb1_7 : ∀ y : Since ((x.w.alloc (.cells #[.int .i64 s.id, .int .i64 s.rd, .int .i64 s.s0, .int .i64 s.s1, .int .i64 s.e0, .int .i64 s.e1, .bool s.op, .slice s.la s.legs.length s.lc, .slice s.pa s.pauses.length s.pc, .int .i64 s.fw, .int .i64 s.fp, .int .i64 s.wh, .int .i64 s.pl] 52)).alloc (.cells #[.int .i64 t.id, .int .i64 t.rd, .int .i64 t.s0, .int .i64 t.s1, .int .i64 t.e0, .int .i64 t.e1, .bool t.op, .slice t.la t.legs.length t.lc, .slice t.pa t.pauses.length t.pc, .int .i64 t.fw, .int .i64 t.fp, .int .i64 t.wh, .int .i64 t.pl] 52)), y.w.cell? ⟨x.w.heap.size + 1, 7, none⟩ = some (.slice t.la t.legs.length t.lc) := fun y => Since.cell (by simp [go_sem]) (by first | (simp; done) | (simp; omega)) y
  have hb1_8 : ∀ y : Since ((x.w.alloc (.cells #[.int .i64 s.id, .int .i64 s.rd, .int .i64 s.s0, .int .i64 s.s1, .int .i64 s.e0, .int .i64 s.e1, .bool s.op, .slice s.la s.legs.length s.lc, .slice s.pa s.pauses.length s.pc, .int .i64 s.fw, .int .i64 s.fp, .int .i64 s.wh, .int .i64 s.pl] 52)).alloc (.cells #[.int .i64 t.id, .int .i64 t.rd, .int .i64 t.s0, .int .i64 t.s1, .int .i64 t.e0, .int .i64 t.e1, .bool t.op, .slice t.la t.legs.length t.lc, .slice t.pa t.pauses.length t.pc, .int .i64 t.fw, .int .i64 t.fp, .int .i64 t.wh, .int .i64 t.pl] 52)), y.w.cell? ⟨x.w.heap.size + 1, 8, none⟩ = some (.slice t.pa t.pauses.length t.pc) := fun y => Since.cell (by simp [go_sem]) (by first | (simp; done) | (simp; omega)) y
  have hb1_9 : ∀ y : Since ((x.w.alloc (.cells #[.int .i64 s.id, .int .i64 s.rd, .int .i64 s.s0, .int .i64 s.s1, .int .i64 s.e0, .int .i64 s.e1, .bool s.op, .slice s.la s.legs.length s.lc, .slice s.pa s.pauses.length s.pc, .int .i64 s.fw, .int .i64 s.fp, .int .i64 s.wh, .int .i64 s.pl] 52)).alloc (.cells #[.int .i64 t.id, .int .i64 t.rd, .int .i64 t.s0, .int .i64 t.s1, .int .i64 t.e0, .int .i64 t.e1, .bool t.op, .slice t.la t.legs.length t.lc, .slice t.pa t.pauses.length t.pc, .int .i64 t.fw, .int .i64 t.fp, .int .i64 t.wh, .int .i64 t.pl] 52)), y.w.cell? ⟨x.w.heap.size + 1, 9, none⟩ = some (.int .i64 t.fw) := fun y => Since.cell (by simp [go_sem]) (by first | (simp; done) | (simp; omega)) y
  have hb1_10 : ∀ y : Since ((x.w.alloc (.cells #[.int .i64 s.id, .int .i64 s.rd, .int .i64 s.s0, .int .i64 s.s1, .int .i64 s.e0, .int .i64 s.e1, .bool s.op, .slice s.la s.legs.length s.lc, .slice s.pa s.pauses.length s.pc, .int .i64 s.fw, .int .i64 s.fp, .int .i64 s.wh, .int .i64 s.pl] 52)).alloc (.cells #[.int .i64 t.id, .int .i64 t.rd, .int .i64 t.s0, .int .i64 t.s1, .int .i64 t.e0, .int .i64 t.e1, .bool t.op, .slice t.la t.legs.length t.lc, .slice t.pa t.pauses.length t.pc, .int .i64 t.fw, .int .i64 t.fp, .int .i64 t.wh, .int .i64 t.pl] 52)), y.w.cell? ⟨x.w.heap.size + 1, 10, none⟩ = some (.int .i64 t.fp) := fun y => Since.cell (by simp [go_sem]) (by first | (simp; done) | (simp; omega)) y
  have hb1_11 : ∀ y : Since ((x.w.alloc (.cells #[.int .i64 s.id, .int .i64 s.rd, .int .i64 s.s0, .int .i64 s.s1, .int .i64 s.e0, .int .i64 s.e1, .bool s.op, .slice s.la s.legs.length s.lc, .slice s.pa s.pauses.length s.pc, .int .i64 s.fw, .int .i64 s.fp, .int .i64 s.wh, .int .i64 s.pl] 52)).alloc (.cells #[.int .i64 t.id, .int .i64 t.rd, .int .i64 t.s0, .int .i64 t.s1, .int .i64 t.e0, .int .i64 t.e1, .bool t.op, .slice t.la t.legs.length t.lc, .slice t.pa t.pauses.length t.pc, .int .i64 t.fw, .int .i64 t.fp, .int .i64 t.wh, .int .i64 t.pl] 52)), y.w.cell? ⟨x.w.heap.size + 1, 11, none⟩ = some (.int .i64 t.wh) := fun y => Since.cell (by simp [go_sem]) (by first | (simp; done) | (simp; omega)) y
  have hb1_12 : ∀ y : Since ((x.w.alloc (.cells #[.int .i64 s.id, .int .i64 s.rd, .int .i64 s.s0, .int .i64 s.s1, .int .i64 s.e0, .int .i64 s.e1, .bool s.op, .slice s.la s.legs.length s.lc, .slice s.pa s.pauses.length s.pc, .int .i64 s.fw, .int .i64 s.fp, .int .i64 s.wh, .int .i64 s.pl] 52)).alloc (.cells #[.int .i64 t.id, .int .i64 t.rd, .int .i64 t.s0, .int .i64 t.s1, .int .i64 t.e0, .int .i64 t.e1, .bool t.op, .slice t.la t.legs.length t.lc, .slice t.pa t.pauses.length t.pc, .int .i64 t.fw, .int .i64 t.fp, .int .i64 t.wh, .int .i64 t.pl] 52)), y.w.cell? ⟨x.w.heap.size + 1, 12, none⟩ = some (.int .i64 t.pl) := fun y => Since.cell (by simp [go_sem]) (by first | (simp; done) | (simp; omega)) y
  have hf1 : ∀ (y : Since ((x.w.alloc (.cells #[.int .i64 s.id, .int .i64 s.rd, .int .i64 s.s0, .int .i64 s.s1, .int .i64 s.e0, .int .i64 s.e1, .bool s.op, .slice s.la s.legs.length s.lc, .slice s.pa s.pauses.length s.pc, .int .i64 s.fw, .int .i64 s.fp, .int .i64 s.wh, .int .i64 s.pl] 52)).alloc (.cells #[.int .i64 t.id, .int .i64 t.rd, .int .i64 t.s0, .int .i64 t.s1, .int .i64 t.e0, .int .i64 t.e1, .bool t.op, .slice t.la t.legs.length t.lc, .slice t.pa t.pauses.length t.pc, .int .i64 t.fw, .int .i64 t.fp, .int .i64 t.wh, .int .i64 t.pl] 52))) (o : Nat), y.w.frozen? ⟨x.w.heap.size + 1, o, none⟩ = false := fun y o => Since.free (by simp [go_sem]) (by first | (simp; done) | (simp; omega)) y
  have hWup : ∃ z : Since w, ((x.w.alloc (.cells #[.int .i64 s.id, .int .i64 s.rd, .int .i64 s.s0, .int .i64 s.s1, .int .i64 s.e0, .int .i64 s.e1, .bool s.op, .slice s.la s.legs.length s.lc, .slice s.pa s.pauses.length s.pc, .int .i64 s.fw, .int .i64 s.fp, .int .i64 s.wh, .int .i64 s.pl] 52)).alloc (.cells #[.int .i64 t.id, .int .i64 t.rd, .int .i64 t.s0, .int .i64 t.s1, .int .i64 t.e0, .int .i64 t.e1, .bool t.op, .slice t.la t.legs.length t.lc, .slice t.pa t.pauses.length t.pc, .int .i64 t.fw, .int .i64 t.fp, .int .i64 t.wh, .int .i64 t.pl] 52)) = z.w := Since.allocs x [.cells #[.int .i64 s.id, .int .i64 s.rd, .int .i64 s.s0, .int .i64 s.s1, .int .i64 s.e0, .int .i64 s.e1, .bool s.op, .slice s.la s.legs.length s.lc, .slice s.pa s.pauses.length s.pc, .int .i64 s.fw, .int .i64 s.fp, .int .i64 s.wh, .int .i64 s.pl] 52, .cells #[.int .i64 t.id, .int .i64 t.rd, .int .i64 t.s0, .int .i64 t.s1, .int .i64 t.e0, .int .i64 t.e1, .bool t.op, .slice t.la t.legs.length t.lc, .slice t.pa t.pauses.length t.pc, .int .i64 t.fw, .int .i64 t.fp, .int .i64 t.wh, .int .i64 t.pl] 52]
  obtain ⟨y0, hy0⟩ := Since.refl ((x.w.alloc (.cells #[.int .i64 s.id, .int .i64 s.rd, .int .i64 s.s0, .int .i64 s.s1, .int .i64 s.e0, .int .i64 s.e1, .bool s.op, .slice s.la s.legs.length s.lc, .slice s.pa s.pauses.length s.pc, .int .i64 s.fw, .int .i64 s.fp, .int .i64 s.wh, .int .i64 s.pl] 52)).alloc (.cells #[.int .i64 t.id, .int .i64 t.rd, .int .i64 t.s0, .int .i64 t.s1, .int .i64 t.e0, .int .i64 t.e1, .bool t.op, .slice t.la t.legs.length t.lc, .slice t.pa t.pauses.length t.pc, .int .i64 t.fw, .int .i64 t.fp, .int .i64 t.wh, .int .i64 t.pl] 52))
  have Hbx := Lib.hid (And.intro x.b.size (show x.w.heap.size + 2 = ((x.w.alloc (.cells #[.int .i64 s.id, .int .i64 s.rd, .int .i64 s.s0, .int .i64 s.s1, .int .i64 s.e0, .int .i64 s.e1, .bool s.op, .slice s.la s.legs.length s.lc, .slice s.pa s.pauses.length s.pc, .int .i64 s.fw, .int .i64 s.fp, .int .i64 s.wh, .int .i64 s.pl] 52)).alloc (.cells #[.int .i64 t.id, .int .i64 t.rd, .int .i64 t.s0, .int .i64 t.s1, .int .i64 t.e0, .int .i64 t.e1, .bool t.op, .slice t.la t.legs.length t.lc, .slice t.pa t.pauses.length t.pc, .int .i64 t.fw, .int .i64 t.fp, .int .i64 t.wh, .int .i64 t.pl] 52)).heap.size from by simp))
  generalize hW : ((x.w.alloc (.cells #[.int .i64 s.id, .int .i64 s.rd, .int .i64 s.s0, .int .i64 s.s1, .int .i64 s.e0, .int .i64 s.e1, .bool s.op, .slice s.la s.legs.length s.lc, .slice s.pa s.pauses.length s.pc, .int .i64 s.fw, .int .i64 s.fp, .int .i64 s.wh, .int .i64 s.pl] 52)).alloc (.cells #[.int .i64 t.id, .int .i64 t.rd, .int .i64 t.s0, .int .i64 t.s1, .int .i64 t.e0, .int .i64 t.e1, .bool t.op, .slice t.la t.legs.length t.lc, .slice t.pa t.pauses.length t.pc, .int .i64 t.fw, .int .i64 t.fp, .int .i64 t.wh, .int .i64 t.pl] 52)) = W at *
  clear hW
  generalize x.w.heap.size = bx at *
  have Hup := Lib.hid (Since.up hWup)
  rw [hy0]
  clear hy0
  clear hWup
  clear hb0_1 hb0_3 hb0_4 hb0_5 hb0_6 hb0_7 hb0_8 hb0_9 hb0_10 hb0_11 hb0_12 hb1_1 hb1_3 hb1_4 hb1_5 hb1_6 hb1_7 hb1_8 hb1_9 hb1_10 hb1_11 hb1_12 hf0 hf1
  have hc : (s.s0 < t.s0) ∨ (¬ s.s0 < t.s0 ∧ (s.s0 == t.s0) = false) ∨ (¬ s.s0 < t.s0 ∧ (s.s0 == t.s0) = true ∧ s.id < t.id) ∨ (¬ s.s0 < t.s0 ∧ (s.s0 == t.s0) = true ∧ ¬ s.id < t.id) := by
    by_cases h1 : s.s0 < t.s0
    · exact Or.inl h1
    · by_cases h2 : s.s0 = t.s0
      · have h3 : (s.s0 == t.s0) = true := by simpa using h2
        by_cases h4 : s.id < t.id
        · exact Or.inr (Or.inr (Or.inl ⟨h1, h3, h4⟩))
        · exact Or.inr (Or.inr (Or.inr ⟨h1, h3, h4⟩))
      · exact Or.inr (Or.inl ⟨h1, by simpa using h2⟩)
  have Hc := Lib.hid (show (s.s0 < t.s0 ∨ (s.s0 == t.s0) = true ∧ s.id < t.id) ↔ bf s t = true by rw [Hi.out]; simp)
  clear Hi
  rcases hc with h | ⟨h, h2⟩ | ⟨h, h2, h3⟩ | ⟨h, h2, h3⟩
  · have HB := Lib.hid (Hp.out true (Hc.out.1 (Or.inl h)))
    clear Hc
    go_wp2_with fail
    obtain ⟨z, hz⟩ := Hup.out y0
    rw [hz]
    exact HB.out z
  · have HB := Lib.hid (Hp.out false (by cases hb : bf s t; rfl; have := Hc.out.2 hb; rw [h2] at this; simp at this; omega))
    clear Hc
    go_wp2_with fail
    obtain ⟨z, hz⟩ := Hup.out y0
    rw [hz]
    exact HB.out z
  · have HB := Lib.hid (Hp.out true (Hc.out.1 (Or.inr ⟨h2, h3⟩)))
    clear Hc
    go_wp2_with fail
    obtain ⟨z, hz⟩ := Hup.out y0
    rw [hz]
    exact HB.out z
  · have HB := Lib.hid (Hp.out false (by cases hb : bf s t; rfl; have := Hc.out.2 hb; omega))
    clear Hc
    go_wp2_with fail
    obtain ⟨z, hz⟩ := Hup.out y0
    rw [hz]
    exact HB.out z
/-- which rides come before x -/
def aP (x r : Ride) : Bool := ofK (key x) r && bf r x
theorem ahd_aP (R : List Ride) (x : Ride) : (ahd R x : Int) = ((R.filter (aP x)).length : Nat) := rfl
theorem aP_no {x r : Ride} (h : r.op = true ∨ r.rd ≠ x.rd ∨ r.s0 / 86400 ≠ x.s0 / 86400) : aP x r = false := by
  unfold aP ofK key
  rcases h with h | h | h
  · simp [h]
  · simp [h]
  · have : ¬ day r = day x := h
    simp [this]
theorem aP_yes {x r : Ride} (h1 : r.op = false) (h2 : r.rd = x.rd) (h3 : r.s0 / 86400 = x.s0 / 86400) : aP x r = bf r x := by
  unfold aP ofK key
  have : day r = day x := h3
  simp [h1, h2, this]
def OneI (w : World) (n : Int) (o : Ending) (w' : World) : Prop := o = .returned (.int .i64 n) ∧ ∃ y : Since w, w' = y.w
theorem filter_len (R : List Ride) (p : Ride → Bool) (k : Nat) : ((R.take k).filter p).length ≤ R.length := Nat.le_trans (List.length_filter_le _ _) (by rw [List.length_take]; omega)
set_option maxRecDepth 100000 in
set_option maxHeartbeats 8000000 in
theorem ahead_calls (w : World) (x : Since w) (a : Option Addr) (R : List Ride) (c : Nat) (e : Ride) (h : RideRow w a R) (hl : R.length ≤ 256) (hs : ∀ r ∈ R, 0 ≤ r.s0 ∧ r.s0 ≤ 4294943999) (he : 0 ≤ e.s0 ∧ e.s0 ≤ 4294943999) :
    Calls Try.prog 35 #[.slice a R.length c, .agg #[.int .i64 e.id, .int .i64 e.rd, .int .i64 e.s0, .int .i64 e.s1, .int .i64 e.e0, .int .i64 e.e1, .bool e.op, .slice e.la e.legs.length e.lc, .slice e.pa e.pauses.length e.pc, .int .i64 e.fw, .int .i64 e.fp, .int .i64 e.wh, .int .i64 e.pl]] x.w (OneI w (ahd R e)) := by
  have HR := Lib.hid h
  have Hs := Lib.hid hs
  rw [ahd_aP]
  obtain ⟨he0, he1⟩ := he
  clear h hs
  go_enter Try.func35, Try.ntmps35
  go_upto_region 1 with fail
  have hb0_0 : ∀ y : Since (x.w.alloc (.cells #[.int .i64 e.id, .int .i64 e.rd, .int .i64 e.s0, .int .i64 e.s1, .int .i64 e.e0, .int .i64 e.e1, .bool e.op, .slice e.la e.legs.length e.lc, .slice e.pa e.pauses.length e.pc, .int .i64 e.fw, .int .i64 e.fp, .int .i64 e.wh, .int .i64 e.pl] 52)), y.w.cell? ⟨x.w.heap.size, 0, none⟩ = some (.int .i64 e.id) := fun y => Since.cell (by simp [go_sem]) (by first | (simp; done) | (simp; omega)) y
  have hb0_1 : ∀ y : Since (x.w.alloc (.cells #[.int .i64 e.id, .int .i64 e.rd, .int .i64 e.s0, .int .i64 e.s1, .int .i64 e.e0, .int .i64 e.e1, .bool e.op, .slice e.la e.legs.length e.lc, .slice e.pa e.pauses.length e.pc, .int .i64 e.fw, .int .i64 e.fp, .int .i64 e.wh, .int .i64 e.pl] 52)), y.w.cell? ⟨x.w.heap.size, 1, none⟩ = some (.int .i64 e.rd) := fun y => Since.cell (by simp [go_sem]) (by first | (simp; done) | (simp; omega)) y
  have hb0_2 : ∀ y : Since (x.w.alloc (.cells #[.int .i64 e.id, .int .i64 e.rd, .int .i64 e.s0, .int .i64 e.s1, .int .i64 e.e0, .int .i64 e.e1, .bool e.op, .slice e.la e.legs.length e.lc, .slice e.pa e.pauses.length e.pc, .int .i64 e.fw, .int .i64 e.fp, .int .i64 e.wh, .int .i64 e.pl] 52)), y.w.cell? ⟨x.w.heap.size, 2, none⟩ = some (.int .i64 e.s0) := fun y => Since.cell (by simp [go_sem]) (by first | (simp; done) | (simp; omega)) y
  have hb0_3 : ∀ y : Since (x.w.alloc (.cells #[.int .i64 e.id, .int .i64 e.rd, .int .i64 e.s0, .int .i64 e.s1, .int .i64 e.e0, .int .i64 e.e1, .bool e.op, .slice e.la e.legs.length e.lc, .slice e.pa e.pauses.length e.pc, .int .i64 e.fw, .int .i64 e.fp, .int .i64 e.wh, .int .i64 e.pl] 52)), y.w.cell? ⟨x.w.heap.size, 3, none⟩ = some (.int .i64 e.s1) := fun y => Since.cell (by simp [go_sem]) (by first | (simp; done) | (simp; omega)) y
  have hb0_4 : ∀ y : Since (x.w.alloc (.cells #[.int .i64 e.id, .int .i64 e.rd, .int .i64 e.s0, .int .i64 e.s1, .int .i64 e.e0, .int .i64 e.e1, .bool e.op, .slice e.la e.legs.length e.lc, .slice e.pa e.pauses.length e.pc, .int .i64 e.fw, .int .i64 e.fp, .int .i64 e.wh, .int .i64 e.pl] 52)), y.w.cell? ⟨x.w.heap.size, 4, none⟩ = some (.int .i64 e.e0) := fun y => Since.cell (by simp [go_sem]) (by first | (simp; done) | (simp; omega)) y
  have hb0_5 : ∀ y : Since (x.w.alloc (.cells #[.int .i64 e.id, .int .i64 e.rd, .int .i64 e.s0, .int .i64 e.s1, .int .i64 e.e0, .int .i64 e.e1, .bool e.op, .slice e.la e.legs.length e.lc, .slice e.pa e.pauses.length e.pc, .int .i64 e.fw, .int .i64 e.fp, .int .i64 e.wh, .int .i64 e.pl] 52)), y.w.cell? ⟨x.w.heap.size, 5, none⟩ = some (.int .i64 e.e1) := fun y => Since.cell (by simp [go_sem]) (by first | (simp; done) | (simp; omega)) y
  have hb0_6 : ∀ y : Since (x.w.alloc (.cells #[.int .i64 e.id, .int .i64 e.rd, .int .i64 e.s0, .int .i64 e.s1, .int .i64 e.e0, .int .i64 e.e1, .bool e.op, .slice e.la e.legs.length e.lc, .slice e.pa e.pauses.length e.pc, .int .i64 e.fw, .int .i64 e.fp, .int .i64 e.wh, .int .i64 e.pl] 52)), y.w.cell? ⟨x.w.heap.size, 6, none⟩ = some (.bool e.op) := fun y => Since.cell (by simp [go_sem]) (by first | (simp; done) | (simp; omega)) y
  have hb0_7 : ∀ y : Since (x.w.alloc (.cells #[.int .i64 e.id, .int .i64 e.rd, .int .i64 e.s0, .int .i64 e.s1, .int .i64 e.e0, .int .i64 e.e1, .bool e.op, .slice e.la e.legs.length e.lc, .slice e.pa e.pauses.length e.pc, .int .i64 e.fw, .int .i64 e.fp, .int .i64 e.wh, .int .i64 e.pl] 52)), y.w.cell? ⟨x.w.heap.size, 7, none⟩ = some (.slice e.la e.legs.length e.lc) := fun y => Since.cell (by simp [go_sem]) (by first | (simp; done) | (simp; omega)) y
  have hb0_8 : ∀ y : Since (x.w.alloc (.cells #[.int .i64 e.id, .int .i64 e.rd, .int .i64 e.s0, .int .i64 e.s1, .int .i64 e.e0, .int .i64 e.e1, .bool e.op, .slice e.la e.legs.length e.lc, .slice e.pa e.pauses.length e.pc, .int .i64 e.fw, .int .i64 e.fp, .int .i64 e.wh, .int .i64 e.pl] 52)), y.w.cell? ⟨x.w.heap.size, 8, none⟩ = some (.slice e.pa e.pauses.length e.pc) := fun y => Since.cell (by simp [go_sem]) (by first | (simp; done) | (simp; omega)) y
  have hb0_9 : ∀ y : Since (x.w.alloc (.cells #[.int .i64 e.id, .int .i64 e.rd, .int .i64 e.s0, .int .i64 e.s1, .int .i64 e.e0, .int .i64 e.e1, .bool e.op, .slice e.la e.legs.length e.lc, .slice e.pa e.pauses.length e.pc, .int .i64 e.fw, .int .i64 e.fp, .int .i64 e.wh, .int .i64 e.pl] 52)), y.w.cell? ⟨x.w.heap.size, 9, none⟩ = some (.int .i64 e.fw) := fun y => Since.cell (by simp [go_sem]) (by first | (simp; done) | (simp; omega)) y
  have hb0_10 : ∀ y : Since (x.w.alloc (.cells #[.int .i64 e.id, .int .i64 e.rd, .int .i64 e.s0, .int .i64 e.s1, .int .i64 e.e0, .int .i64 e.e1, .bool e.op, .slice e.la e.legs.length e.lc, .slice e.pa e.pauses.length e.pc, .int .i64 e.fw, .int .i64 e.fp, .int .i64 e.wh, .int .i64 e.pl] 52)), y.w.cell? ⟨x.w.heap.size, 10, none⟩ = some (.int .i64 e.fp) := fun y => Since.cell (by simp [go_sem]) (by first | (simp; done) | (simp; omega)) y
  have hb0_11 : ∀ y : Since (x.w.alloc (.cells #[.int .i64 e.id, .int .i64 e.rd, .int .i64 e.s0, .int .i64 e.s1, .int .i64 e.e0, .int .i64 e.e1, .bool e.op, .slice e.la e.legs.length e.lc, .slice e.pa e.pauses.length e.pc, .int .i64 e.fw, .int .i64 e.fp, .int .i64 e.wh, .int .i64 e.pl] 52)), y.w.cell? ⟨x.w.heap.size, 11, none⟩ = some (.int .i64 e.wh) := fun y => Since.cell (by simp [go_sem]) (by first | (simp; done) | (simp; omega)) y
  have hb0_12 : ∀ y : Since (x.w.alloc (.cells #[.int .i64 e.id, .int .i64 e.rd, .int .i64 e.s0, .int .i64 e.s1, .int .i64 e.e0, .int .i64 e.e1, .bool e.op, .slice e.la e.legs.length e.lc, .slice e.pa e.pauses.length e.pc, .int .i64 e.fw, .int .i64 e.fp, .int .i64 e.wh, .int .i64 e.pl] 52)), y.w.cell? ⟨x.w.heap.size, 12, none⟩ = some (.int .i64 e.pl) := fun y => Since.cell (by simp [go_sem]) (by first | (simp; done) | (simp; omega)) y
  have hf0 : ∀ (y : Since (x.w.alloc (.cells #[.int .i64 e.id, .int .i64 e.rd, .int .i64 e.s0, .int .i64 e.s1, .int .i64 e.e0, .int .i64 e.e1, .bool e.op, .slice e.la e.legs.length e.lc, .slice e.pa e.pauses.length e.pc, .int .i64 e.fw, .int .i64 e.fp, .int .i64 e.wh, .int .i64 e.pl] 52))) (o : Nat), y.w.frozen? ⟨x.w.heap.size, o, none⟩ = false := fun y o => Since.free (by simp [go_sem]) (by first | (simp; done) | (simp; omega)) y
  have hWup : ∃ z : Since w, (x.w.alloc (.cells #[.int .i64 e.id, .int .i64 e.rd, .int .i64 e.s0, .int .i64 e.s1, .int .i64 e.e0, .int .i64 e.e1, .bool e.op, .slice e.la e.legs.length e.lc, .slice e.pa e.pauses.length e.pc, .int .i64 e.fw, .int .i64 e.fp, .int .i64 e.wh, .int .i64 e.pl] 52)) = z.w := x.alloc _
  obtain ⟨y0, hy0⟩ := Since.refl (x.w.alloc (.cells #[.int .i64 e.id, .int .i64 e.rd, .int .i64 e.s0, .int .i64 e.s1, .int .i64 e.e0, .int .i64 e.e1, .bool e.op, .slice e.la e.legs.length e.lc, .slice e.pa e.pauses.length e.pc, .int .i64 e.fw, .int .i64 e.fp, .int .i64 e.wh, .int .i64 e.pl] 52))
  have Hbx := Lib.hid (And.intro x.b.size (show x.w.heap.size + 1 = (x.w.alloc (.cells #[.int .i64 e.id, .int .i64 e.rd, .int .i64 e.s0, .int .i64 e.s1, .int .i64 e.e0, .int .i64 e.e1, .bool e.op, .slice e.la e.legs.length e.lc, .slice e.pa e.pauses.length e.pc, .int .i64 e.fw, .int .i64 e.fp, .int .i64 e.wh, .int .i64 e.pl] 52)).heap.size from by simp))
  generalize hW : (x.w.alloc (.cells #[.int .i64 e.id, .int .i64 e.rd, .int .i64 e.s0, .int .i64 e.s1, .int .i64 e.e0, .int .i64 e.e1, .bool e.op, .slice e.la e.legs.length e.lc, .slice e.pa e.pauses.length e.pc, .int .i64 e.fw, .int .i64 e.fp, .int .i64 e.wh, .int .i64 e.pl] 52)) = W at *
  clear hW
  generalize x.w.heap.size = bx at *
  have Hup := Lib.hid (Since.up hWup)
  rw [hy0]
  clear hy0
  replace HR := Lib.hid (HR.out.to hWup)
  clear hWup hf0
  go_wp2_with fail
  go_loopw [5, 6] (fun nv i wr => ∃ (k m : Nat) (y : Since W), k ≤ R.length ∧ i = .int .i64 (k : Int) ∧ nv = .int .i64 (m : Int) ∧ wr = y.w ∧ m = ((R.take k).filter (aP e)).length ∧ m ≤ k) (fun _ i _ => R.length - (intOf i).toNat)
  case atStart => exact ⟨0, 0, y0, by omega, rfl, rfl, rfl, rfl, by omega⟩
  case round =>
    obtain ⟨k, m, y, hk, rfl, rfl, rfl, hm, hmk⟩ := hrel
    have Hm := Lib.hid hm
    clear hm
    by_cases hlt : k < R.length
    · obtain ⟨r, hr⟩ : ∃ r, R[k]? = some r := ⟨_, List.getElem?_eq_getElem hlt⟩
      have hk0 : (0 : Int) ≤ (k : Int) := by omega
      have hkl : (k : Int) < (R.length : Int) := by omega
      have Htk := Lib.hid (pick_take R (aP e) k r hr)
      obtain ⟨hs0, hs1⟩ := Hs.out r (List.mem_of_getElem? hr)
      obtain ⟨b1, off1, rfl, h1'⟩ := Els.ride HR.out.c hr
      have ra0 := h1'.c0
      have ra1 := h1'.c1
      have ra2 := h1'.c2
      have ra3 := h1'.c3
      have ra4 := h1'.c4
      have ra5 := h1'.c5
      have ra6 := h1'.c6
      have ra7 := h1'.c7
      have ra8 := h1'.c8
      have ra9 := h1'.c9
      have ra10 := h1'.c10
      have ra11 := h1'.c11
      have ra12 := h1'.c12
      clear h1' hr
      go_upto_region 6 with fail
      have hx0 : (y.w.alloc (.cells #[.int .i64 r.id, .int .i64 r.rd, .int .i64 r.s0, .int .i64 r.s1, .int .i64 r.e0, .int .i64 r.e1, .bool r.op, .slice r.la r.legs.length r.lc, .slice r.pa r.pauses.length r.pc, .int .i64 r.fw, .int .i64 r.fp, .int .i64 r.wh, .int .i64 r.pl] 52)).cell? ⟨y.w.heap.size, 0, none⟩ = some (.int .i64 r.id) := by simp [go_sem]
      have hx1 : (y.w.alloc (.cells #[.int .i64 r.id, .int .i64 r.rd, .int .i64 r.s0, .int .i64 r.s1, .int .i64 r.e0, .int .i64 r.e1, .bool r.op, .slice r.la r.legs.length r.lc, .slice r.pa r.pauses.length r.pc, .int .i64 r.fw, .int .i64 r.fp, .int .i64 r.wh, .int .i64 r.pl] 52)).cell? ⟨y.w.heap.size, 1, none⟩ = some (.int .i64 r.rd) := by simp [go_sem]
      have hx2 : (y.w.alloc (.cells #[.int .i64 r.id, .int .i64 r.rd, .int .i64 r.s0, .int .i64 r.s1, .int .i64 r.e0, .int .i64 r.e1, .bool r.op, .slice r.la r.legs.length r.lc, .slice r.pa r.pauses.length r.pc, .int .i64 r.fw, .int .i64 r.fp, .int .i64 r.wh, .int .i64 r.pl] 52)).cell? ⟨y.w.heap.size, 2, none⟩ = some (.int .i64 r.s0) := by simp [go_sem]
      have hx3 : (y.w.alloc (.cells #[.int .i64 r.id, .int .i64 r.rd, .int .i64 r.s0, .int .i64 r.s1, .int .i64 r.e0, .int .i64 r.e1, .bool r.op, .slice r.la r.legs.length r.lc, .slice r.pa r.pauses.length r.pc, .int .i64 r.fw, .int .i64 r.fp, .int .i64 r.wh, .int .i64 r.pl] 52)).cell? ⟨y.w.heap.size, 3, none⟩ = some (.int .i64 r.s1) := by simp [go_sem]
      have hx4 : (y.w.alloc (.cells #[.int .i64 r.id, .int .i64 r.rd, .int .i64 r.s0, .int .i64 r.s1, .int .i64 r.e0, .int .i64 r.e1, .bool r.op, .slice r.la r.legs.length r.lc, .slice r.pa r.pauses.length r.pc, .int .i64 r.fw, .int .i64 r.fp, .int .i64 r.wh, .int .i64 r.pl] 52)).cell? ⟨y.w.heap.size, 4, none⟩ = some (.int .i64 r.e0) := by simp [go_sem]
      have hx5 : (y.w.alloc (.cells #[.int .i64 r.id, .int .i64 r.rd, .int .i64 r.s0, .int .i64 r.s1, .int .i64 r.e0, .int .i64 r.e1, .bool r.op, .slice r.la r.legs.length r.lc, .slice r.pa r.pauses.length r.pc, .int .i64 r.fw, .int .i64 r.fp, .int .i64 r.wh, .int .i64 r.pl] 52)).cell? ⟨y.w.heap.size, 5, none⟩ = some (.int .i64 r.e1) := by simp [go_sem]
      have hx6 : (y.w.alloc (.cells #[.int .i64 r.id, .int .i64 r.rd, .int .i64 r.s0, .int .i64 r.s1, .int .i64 r.e0, .int .i64 r.e1, .bool r.op, .slice r.la r.legs.length r.lc, .slice r.pa r.pauses.length r.pc, .int .i64 r.fw, .int .i64 r.fp, .int .i64 r.wh, .int .i64 r.pl] 52)).cell? ⟨y.w.heap.size, 6, none⟩ = some (.bool r.op) := by simp [go_sem]
      have hx7 : (y.w.alloc (.cells #[.int .i64 r.id, .int .i64 r.rd, .int .i64 r.s0, .int .i64 r.s1, .int .i64 r.e0, .int .i64 r.e1, .bool r.op, .slice r.la r.legs.length r.lc, .slice r.pa r.pauses.length r.pc, .int .i64 r.fw, .int .i64 r.fp, .int .i64 r.wh, .int .i64 r.pl] 52)).cell? ⟨y.w.heap.size, 7, none⟩ = some (.slice r.la r.legs.length r.lc) := by simp [go_sem]
      have hx8 : (y.w.alloc (.cells #[.int .i64 r.id, .int .i64 r.rd, .int .i64 r.s0, .int .i64 r.s1, .int .i64 r.e0, .int .i64 r.e1, .bool r.op, .slice r.la r.legs.length r.lc, .slice r.pa r.pauses.length r.pc, .int .i64 r.fw, .int .i64 r.fp, .int .i64 r.wh, .int .i64 r.pl] 52)).cell? ⟨y.w.heap.size, 8, none⟩ = some (.slice r.pa r.pauses.length r.pc) := by simp [go_sem]
      have hx9 : (y.w.alloc (.cells #[.int .i64 r.id, .int .i64 r.rd, .int .i64 r.s0, .int .i64 r.s1, .int .i64 r.e0, .int .i64 r.e1, .bool r.op, .slice r.la r.legs.length r.lc, .slice r.pa r.pauses.length r.pc, .int .i64 r.fw, .int .i64 r.fp, .int .i64 r.wh, .int .i64 r.pl] 52)).cell? ⟨y.w.heap.size, 9, none⟩ = some (.int .i64 r.fw) := by simp [go_sem]
      have hx10 : (y.w.alloc (.cells #[.int .i64 r.id, .int .i64 r.rd, .int .i64 r.s0, .int .i64 r.s1, .int .i64 r.e0, .int .i64 r.e1, .bool r.op, .slice r.la r.legs.length r.lc, .slice r.pa r.pauses.length r.pc, .int .i64 r.fw, .int .i64 r.fp, .int .i64 r.wh, .int .i64 r.pl] 52)).cell? ⟨y.w.heap.size, 10, none⟩ = some (.int .i64 r.fp) := by simp [go_sem]
      have hx11 : (y.w.alloc (.cells #[.int .i64 r.id, .int .i64 r.rd, .int .i64 r.s0, .int .i64 r.s1, .int .i64 r.e0, .int .i64 r.e1, .bool r.op, .slice r.la r.legs.length r.lc, .slice r.pa r.pauses.length r.pc, .int .i64 r.fw, .int .i64 r.fp, .int .i64 r.wh, .int .i64 r.pl] 52)).cell? ⟨y.w.heap.size, 11, none⟩ = some (.int .i64 r.wh) := by simp [go_sem]
      have hx12 : (y.w.alloc (.cells #[.int .i64 r.id, .int .i64 r.rd, .int .i64 r.s0, .int .i64 r.s1, .int .i64 r.e0, .int .i64 r.e1, .bool r.op, .slice r.la r.legs.length r.lc, .slice r.pa r.pauses.length r.pc, .int .i64 r.fw, .int .i64 r.fp, .int .i64 r.wh, .int .i64 r.pl] 52)).cell? ⟨y.w.heap.size, 12, none⟩ = some (.int .i64 r.pl) := by simp [go_sem]
      have hxf : ∀ o, (y.w.alloc (.cells #[.int .i64 r.id, .int .i64 r.rd, .int .i64 r.s0, .int .i64 r.s1, .int .i64 r.e0, .int .i64 r.e1, .bool r.op, .slice r.la r.legs.length r.lc, .slice r.pa r.pauses.length r.pc, .int .i64 r.fw, .int .i64 r.fp, .int .i64 r.wh, .int .i64 r.pl] 52)).frozen? ⟨y.w.heap.size, o, none⟩ = false := fun o => by simp [go_sem]
      have hlt0 : y.w.heap.size < (y.w.alloc (.cells #[.int .i64 r.id, .int .i64 r.rd, .int .i64 r.s0, .int .i64 r.s1, .int .i64 r.e0, .int .i64 r.e1, .bool r.op, .slice r.la r.legs.length r.lc, .slice r.pa r.pauses.length r.pc, .int .i64 r.fw, .int .i64 r.fp, .int .i64 r.wh, .int .i64 r.pl] 52)).heap.size := by simp
      have hst0 : ∃ zz : Since y.w, (y.w.alloc (.cells #[.int .i64 r.id, .int .i64 r.rd, .int .i64 r.s0, .int .i64 r.s1, .int .i64 r.e0, .int .i64 r.e1, .bool r.op, .slice r.la r.legs.length r.lc, .slice r.pa r.pauses.length r.pc, .int .i64 r.fw, .int .i64 r.fp, .int .i64 r.wh, .int .i64 r.pl] 52)) = zz.w := IsSince.alloc (IsSince.self _) _
      have hsz0 := y.b.size
      obtain ⟨y5, e2⟩ := IsSince.alloc (IsSince.of y) (.cells #[.int .i64 r.id, .int .i64 r.rd, .int .i64 r.s0, .int .i64 r.s1, .int .i64 r.e0, .int .i64 r.e1, .bool r.op, .slice r.la r.legs.length r.lc, .slice r.pa r.pauses.length r.pc, .int .i64 r.fw, .int .i64 r.fp, .int .i64 r.wh, .int .i64 r.pl] 52)
      rw [e2] at hx0 hx1 hx2 hx3 hx4 hx5 hx6 hx7 hx8 hx9 hx10 hx11 hx12 hxf hlt0 hst0 ⊢
      skip
      clear e2 hst0
      generalize y.w.heap.size = gr at *
      have Hhx0 : ∀ q : Since y5.w, q.w.cell? ⟨gr, 0, none⟩ = some (.int .i64 r.id) := fun q => Since.cell hx0 (by omega) q
      have Hhx1 : ∀ q : Since y5.w, q.w.cell? ⟨gr, 1, none⟩ = some (.int .i64 r.rd) := fun q => Since.cell hx1 (by omega) q
      have Hhx2 : ∀ q : Since y5.w, q.w.cell? ⟨gr, 2, none⟩ = some (.int .i64 r.s0) := fun q => Since.cell hx2 (by omega) q
      have Hhx3 : ∀ q : Since y5.w, q.w.cell? ⟨gr, 3, none⟩ = some (.int .i64 r.s1) := fun q => Since.cell hx3 (by omega) q
      have Hhx4 : ∀ q : Since y5.w, q.w.cell? ⟨gr, 4, none⟩ = some (.int .i64 r.e0) := fun q => Since.cell hx4 (by omega) q
      have Hhx5 : ∀ q : Since y5.w, q.w.cell? ⟨gr, 5, none⟩ = some (.int .i64 r.e1) := fun q => Since.cell hx5 (by omega) q
      have Hhx6 : ∀ q : Since y5.w, q.w.cell? ⟨gr, 6, none⟩ = some (.bool r.op) := fun q => Since.cell hx6 (by omega) q
      have Hhx7 : ∀ q : Since y5.w, q.w.cell? ⟨gr, 7, none⟩ = some (.slice r.la r.legs.length r.lc) := fun q => Since.cell hx7 (by omega) q
      have Hhx8 : ∀ q : Since y5.w, q.w.cell? ⟨gr, 8, none⟩ = some (.slice r.pa r.pauses.length r.pc) := fun q => Since.cell hx8 (by omega) q
      have Hhx9 : ∀ q : Since y5.w, q.w.cell? ⟨gr, 9, none⟩ = some (.int .i64 r.fw) := fun q => Since.cell hx9 (by omega) q
      have Hhx10 : ∀ q : Since y5.w, q.w.cell? ⟨gr, 10, none⟩ = some (.int .i64 r.fp) := fun q => Since.cell hx10 (by omega) q
      have Hhx11 : ∀ q : Since y5.w, q.w.cell? ⟨gr, 11, none⟩ = some (.int .i64 r.wh) := fun q => Since.cell hx11 (by omega) q
      have Hhx12 : ∀ q : Since y5.w, q.w.cell? ⟨gr, 12, none⟩ = some (.int .i64 r.pl) := fun q => Since.cell hx12 (by omega) q
      have Hhxf : ∀ (q : Since y5.w) (o : Nat), q.w.frozen? ⟨gr, o, none⟩ = false := fun q o => Since.free (hxf o) (by omega) q
      have Hhxg := Lib.hid (And.intro hsz0 hlt0)
      clear hlt0 hsz0
      have Hbf := Lib.hid (show Calls Try.prog 46 #[.agg #[.int .i64 r.id, .int .i64 r.rd, .int .i64 r.s0, .int .i64 r.s1, .int .i64 r.e0, .int .i64 r.e1, .bool r.op, .slice r.la r.legs.length r.lc, .slice r.pa r.pauses.length r.pc, .int .i64 r.fw, .int .i64 r.fp, .int .i64 r.wh, .int .i64 r.pl], .agg #[.int .i64 e.id, .int .i64 e.rd, .int .i64 e.s0, .int .i64 e.s1, .int .i64 e.e0, .int .i64 e.e1, .bool e.op, .slice e.la e.legs.length e.lc, .slice e.pa e.pauses.length e.pc, .int .i64 e.fw, .int .i64 e.fp, .int .i64 e.wh, .int .i64 e.pl]] y5.w (OneB y5.w (bf r e)) from before_calls y5.w (Since.self y5.w) r e)
      clear Hhx0 Hhx1 Hhx2 Hhx3 Hhx4 Hhx5 Hhx6 Hhx7 Hhx8 Hhx9 Hhx10 Hhx11 Hhx12 Hhxf ra0 ra1 ra2 ra3 ra4 ra5 ra6 ra7 ra8 ra9 ra10 ra11 ra12
      have Hno := Lib.hid (fun (h : aP e r = false) => show m = ((R.take (k + 1)).filter (aP e)).length by rw [Htk.out, h, Hm.out]; simp)
      have Hye := Lib.hid (fun (h : aP e r = true) => show m + 1 = ((R.take (k + 1)).filter (aP e)).length by rw [Htk.out, h, Hm.out]; simp)
      clear Htk
      have hc : r.op = true ∨ (r.op = false ∧ (r.rd == e.rd) = false) ∨ (r.op = false ∧ (r.rd == e.rd) = true ∧ (r.s0 / 86400 == e.s0 / 86400) = false) ∨ (r.op = false ∧ (r.rd == e.rd) = true ∧ (r.s0 / 86400 == e.s0 / 86400) = true) := by
        cases r.op <;> cases (r.rd == e.rd) <;> cases (r.s0 / 86400 == e.s0 / 86400) <;> simp
      rcases hc with c1 | ⟨c1, c2⟩ | ⟨c1, c2, c3⟩ | ⟨c1, c2, c3⟩
      · have Hn2 := Lib.hid (Hno.out (aP_no (Or.inl c1)))
        rw [c1] at hx6
        clear Hno Hye Hbf c1
        go_wp2_with fail
        go_roundw
        case rel => exact ⟨k + 1, m, y5, by omega, by go_num, rfl, rfl, Hn2.out, by omega⟩
        case measure => simp [intOf] <;> omega
      · have Hn2 := Lib.hid (Hno.out (aP_no (Or.inr (Or.inl (by simpa using c2)))))
        rw [c1] at hx6
        clear Hno Hye Hbf c1
        go_wp2_with fail
        go_roundw
        case rel => exact ⟨k + 1, m, y5, by omega, by go_num, rfl, rfl, Hn2.out, by omega⟩
        case measure => simp [intOf] <;> omega
      · have Hn2 := Lib.hid (Hno.out (aP_no (Or.inr (Or.inr (by simpa using c3)))))
        rw [c1] at hx6
        clear Hno Hye Hbf c1
        go_wp2_with fail
        go_roundw
        case rel => exact ⟨k + 1, m, y5, by omega, by go_num, rfl, rfl, Hn2.out, by omega⟩
        case measure => simp [intOf] <;> omega
      · have hq := aP_yes c1 (by simpa using c2) (by simpa using c3)
        rw [c1] at hx6 Hbf
        cases hb : bf r e
        · have Hn2 := Lib.hid (Hno.out (hq.trans hb))
          rw [hb] at Hbf
          clear Hno Hye c1 hq hb
          go_wp2_with fail
          refine Hbf.out.mono ?_
          rintro _ _ ⟨rfl, z6, rfl⟩
          obtain ⟨y6, h6⟩ := y5.trans z6
          rw [h6]
          go_wp2_with fail
          go_roundw
          case rel => exact ⟨k + 1, m, y6, by omega, by go_num, rfl, rfl, Hn2.out, by omega⟩
          case measure => simp [intOf] <;> omega
        · have Hn2 := Lib.hid (Hye.out (hq.trans hb))
          rw [hb] at Hbf
          clear Hno Hye c1 hq hb
          go_wp2_with fail
          refine Hbf.out.mono ?_
          rintro _ _ ⟨rfl, z6, rfl⟩
          obtain ⟨y6, h6⟩ := y5.trans z6
          rw [h6]
          go_wp2_with fail
          go_roundw
          case rel => exact ⟨k + 1, m + 1, y6, by omega, by go_num, by go_num, rfl, Hn2.out, by omega⟩
          case measure => simp [intOf] <;> omega
    · obtain rfl : k = R.length := by omega
      have Hr := Lib.hid (show (m : Int) = ((R.filter (aP e)).length : Nat) by have := Hm.out; rw [List.take_length] at this; rw [this])
      go_wp2_with fail
      obtain ⟨z, hz⟩ := Hup.out y
      go_ret
      exact ⟨ret_int Hr.out, z, hz⟩
end Go.Proofs.Ytdmmjapccgeffaa
/- Trips between zones: cells, zones, errors: plain mathematics for the walks of tables. -/
namespace Go.Proofs.Ytdmmjapccgeffaa
open Go.RowKit

theorem celN_snoc (zs : List Int) (size : Int) (L : List Ride) (e : Ride) (i : Nat) : celN zs size (L ++ [e]) i = celN zs size L i + if (!bigR zs size e && decide (celR zs size e = (i : Int))) = true then 1 else 0 := by
  unfold celN
  rw [List.filter_append, List.length_append]
  cases h : (!bigR zs size e && decide (celR zs size e = (i : Int)))
  · simp [h]
  · simp [h]
theorem celN_range (zs : List Int) (size : Int) (L : List Ride) (i : Nat) : 0 ≤ celN zs size L i ∧ celN zs size L i ≤ L.length := by
  unfold celN
  have := List.length_filter_le (fun r => !bigR zs size r && decide (celR zs size r = (i : Int))) L
  omega
theorem zone_range {zs : List Int} {wh pl : Int} (h : zoneE zs wh pl = 0) : 0 ≤ zoneV zs wh pl ∧ zoneV zs wh pl < 8 := by
  have hg : zlenB zs = true ∧ badZ zs = false := by
    unfold zoneE at h
    by_cases hb : zlenB zs = false ∨ badZ zs = true
    · rw [if_pos hb] at h; cases h
    · constructor
      · cases hz : zlenB zs
        · exact (hb (Or.inl hz)).elim
        · rfl
      · cases hz : badZ zs
        · rfl
        · exact (hb (Or.inr hz)).elim
  have hel : ∀ k, k < zs.length → 0 ≤ at0 zs k ∧ at0 zs k < 8 := fun k hk => by
    have hx : zs[k]? = some (at0 zs k) := by unfold at0; rw [List.getD_eq_getElem?_getD, List.getElem?_eq_getElem hk]; rfl
    cases hb : badz1 (at0 zs k)
    · unfold badz1 at hb
      simp at hb; omega
    · rw [badZ_of hx hb] at hg; cases hg.2
  have hl : 64 ≤ zs.length ∧ zs.length ≤ 96 := by
    have := hg.1
    unfold zlenB at this
    simpa using this
  by_cases h2 : wh = 2
  · subst h2
    by_cases hp : 0 ≤ pl ∧ pl < 64
    · rw [(zone_st hg.1 hg.2 hp).2]; exact hel _ (by omega)
    · rw [(zone_st_no hg.1 hg.2 hp).1] at h; cases h
  · by_cases h1 : wh = 1
    · subst h1
      by_cases hp : 0 ≤ pl ∧ pl / 32 < (zs.length : Int) - 64
      · rw [(zone_dk hg.1 hg.2 hp).2]; exact hel _ (by omega)
      · rw [(zone_dk_no hg.1 hg.2 hp).1] at h; cases h
    · rw [(zone_kind hg.1 hg.2 h1 h2).1] at h; cases h
theorem ends_zero {zs : List Int} {r : Ride} (h : endE zs r = 0) : endA zs r = fromZ zs r ∧ endB zs r = toZ zs r ∧ (0 ≤ fromZ zs r ∧ fromZ zs r < 8) ∧ (0 ≤ toZ zs r ∧ toZ zs r < 8) := by
  unfold endE at h
  by_cases h1 : zoneE zs r.fw r.fp = 0
  · rw [if_neg (by simpa using h1)] at h
    exact ⟨if_pos h1, if_pos h1, zone_range h1, zone_range h⟩
  · rw [if_pos h1] at h; exact (h1 h).elim
/-- which rides a table counts -/
def cP (R : List Ride) (each f t : Int) (r : Ride) : Bool := ctd R each r && inT f t r
theorem cntL_eq (R : List Ride) (each f t : Int) : cntL R each f t = R.filter (cP R each f t) := by
  unfold cntL eachL
  rw [List.filter_filter]
  exact List.filter_congr fun r _ => by unfold cP; exact Bool.and_comm _ _
theorem take_split {R : List Ride} {k : Nat} {e : Ride} (h : R[k]? = some e) : R = R.take k ++ e :: R.drop (k + 1) := by
  obtain ⟨hk, he⟩ := List.getElem?_eq_some_iff.1 h
  rw [← he, ← List.drop_eq_getElem_cons hk, List.take_append_drop]
theorem endsE_at {zs : List Int} {R : List Ride} {p : Ride → Bool} {k : Nat} {e : Ride} (h : R[k]? = some e) (hp : p e = true) (he : endE zs e ≠ 0) (hn : ∀ r ∈ (R.take k).filter p, endE zs r = 0) : endsE zs (R.filter p) = endE zs e := by
  unfold endsE
  have : (R.filter p).find? (fun r => endE zs r != 0) = some e := by
    rw [take_split h, List.filter_append, List.find?_append, List.find?_eq_none.2 (fun r hr => by rw [hn r (by simpa using hr)]; simp), List.filter_cons_of_pos hp]
    simp [he]
  rw [this]
theorem endsE_no {zs : List Int} {L : List Ride} (hn : ∀ r ∈ L, endE zs r = 0) : endsE zs L = 0 := by
  unfold endsE
  rw [List.find?_eq_none.2 (fun r hr => by rw [hn r hr]; simp)]
theorem tab_idx {a b s : Int} (h1 : 0 ≤ a) (h2 : a < s) (h3 : 0 ≤ b) (h4 : b < s) (h5 : s ≤ 8) : 0 ≤ a * s + b ∧ a * s + b < s * s ∧ a * s ≤ 64 ∧ 0 ≤ a * s := by
  have k1 : 0 ≤ a * s := Int.mul_nonneg h1 (by omega)
  have k2 : a * s ≤ (s - 1) * s := Int.mul_le_mul_of_nonneg_right (by omega) (by omega)
  have k3 : (s - 1) * s = s * s - s := by rw [Int.sub_mul, Int.one_mul]
  have k4 : a * s ≤ 8 * 8 := Int.mul_le_mul (by omega) h5 (by omega) (by omega)
  omega
end Go.Proofs.Ytdmmjapccgeffaa
