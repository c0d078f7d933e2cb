/- The reference of passes: order, validity, counting, the next ride, equal lists. -/
import Derived.Test.YtbkfcdheckkjaaaPsR2
import Derived.Test.YtbkfcdheckkjaaaPsGr
set_option linter.all false
namespace Go.Proofs.Ytbkfcdheckkjaaa
open Go.RowKit

set_option maxRecDepth 100000 in
set_option maxHeartbeats 4000000 in
theorem rbefore_calls (w : World) (x : Since w) (a b : Ride) :
    Calls Try.prog 20 #[.agg #[.int .i64 a.id, .int .i64 a.rd, .int .i64 a.s0, .int .i64 a.s1, .int .i64 a.e0, .int .i64 a.e1, .bool a.op, .slice a.la a.legs.length a.lc, .slice a.pa a.pauses.length a.pc, .int .i64 a.fw, .int .i64 a.fp, .int .i64 a.wh, .int .i64 a.pl], .agg #[.int .i64 b.id, .int .i64 b.rd, .int .i64 b.s0, .int .i64 b.s1, .int .i64 b.e0, .int .i64 b.e1, .bool b.op, .slice b.la b.legs.length b.lc, .slice b.pa b.pauses.length b.pc, .int .i64 b.fw, .int .i64 b.fp, .int .i64 b.wh, .int .i64 b.pl]] x.w fun o w' => o = .returned (.bool (bef a b)) ∧ ∃ y : Since w, w' = y.w := by
  have HG := Lib.hid (bef_iff a b)
  go_enter Try.func20, Try.ntmps20
  go_upto_region 1 with fail
  have hb0_0 : ∀ y : Since ((x.w.alloc (.cells #[.int .i64 a.id, .int .i64 a.rd, .int .i64 a.s0, .int .i64 a.s1, .int .i64 a.e0, .int .i64 a.e1, .bool a.op, .slice a.la a.legs.length a.lc, .slice a.pa a.pauses.length a.pc, .int .i64 a.fw, .int .i64 a.fp, .int .i64 a.wh, .int .i64 a.pl] 44)).alloc (.cells #[.int .i64 b.id, .int .i64 b.rd, .int .i64 b.s0, .int .i64 b.s1, .int .i64 b.e0, .int .i64 b.e1, .bool b.op, .slice b.la b.legs.length b.lc, .slice b.pa b.pauses.length b.pc, .int .i64 b.fw, .int .i64 b.fp, .int .i64 b.wh, .int .i64 b.pl] 44)), y.w.cell? ⟨x.w.heap.size, 0, none⟩ = some (.int .i64 a.id) := fun y => Since.cell (by simp [go_sem]) (by first | (simp; done) | (simp; omega)) y
  have hb0_1 : ∀ y : Since ((x.w.alloc (.cells #[.int .i64 a.id, .int .i64 a.rd, .int .i64 a.s0, .int .i64 a.s1, .int .i64 a.e0, .int .i64 a.e1, .bool a.op, .slice a.la a.legs.length a.lc, .slice a.pa a.pauses.length a.pc, .int .i64 a.fw, .int .i64 a.fp, .int .i64 a.wh, .int .i64 a.pl] 44)).alloc (.cells #[.int .i64 b.id, .int .i64 b.rd, .int .i64 b.s0, .int .i64 b.s1, .int .i64 b.e0, .int .i64 b.e1, .bool b.op, .slice b.la b.legs.length b.lc, .slice b.pa b.pauses.length b.pc, .int .i64 b.fw, .int .i64 b.fp, .int .i64 b.wh, .int .i64 b.pl] 44)), y.w.cell? ⟨x.w.heap.size, 1, none⟩ = some (.int .i64 a.rd) := fun y => Since.cell (by simp [go_sem]) (by first | (simp; done) | (simp; omega)) y
  have hb0_2 : ∀ y : Since ((x.w.alloc (.cells #[.int .i64 a.id, .int .i64 a.rd, .int .i64 a.s0, .int .i64 a.s1, .int .i64 a.e0, .int .i64 a.e1, .bool a.op, .slice a.la a.legs.length a.lc, .slice a.pa a.pauses.length a.pc, .int .i64 a.fw, .int .i64 a.fp, .int .i64 a.wh, .int .i64 a.pl] 44)).alloc (.cells #[.int .i64 b.id, .int .i64 b.rd, .int .i64 b.s0, .int .i64 b.s1, .int .i64 b.e0, .int .i64 b.e1, .bool b.op, .slice b.la b.legs.length b.lc, .slice b.pa b.pauses.length b.pc, .int .i64 b.fw, .int .i64 b.fp, .int .i64 b.wh, .int .i64 b.pl] 44)), y.w.cell? ⟨x.w.heap.size, 2, none⟩ = some (.int .i64 a.s0) := fun y => Since.cell (by simp [go_sem]) (by first | (simp; done) | (simp; omega)) y
  have hb0_3 : ∀ y : Since ((x.w.alloc (.cells #[.int .i64 a.id, .int .i64 a.rd, .int .i64 a.s0, .int .i64 a.s1, .int .i64 a.e0, .int .i64 a.e1, .bool a.op, .slice a.la a.legs.length a.lc, .slice a.pa a.pauses.length a.pc, .int .i64 a.fw, .int .i64 a.fp, .int .i64 a.wh, .int .i64 a.pl] 44)).alloc (.cells #[.int .i64 b.id, .int .i64 b.rd, .int .i64 b.s0, .int .i64 b.s1, .int .i64 b.e0, .int .i64 b.e1, .bool b.op, .slice b.la b.legs.length b.lc, .slice b.pa b.pauses.length b.pc, .int .i64 b.fw, .int .i64 b.fp, .int .i64 b.wh, .int .i64 b.pl] 44)), y.w.cell? ⟨x.w.heap.size, 3, none⟩ = some (.int .i64 a.s1) := fun y => Since.cell (by simp [go_sem]) (by first | (simp; done) | (simp; omega)) y
  have hb0_4 : ∀ y : Since ((x.w.alloc (.cells #[.int .i64 a.id, .int .i64 a.rd, .int .i64 a.s0, .int .i64 a.s1, .int .i64 a.e0, .int .i64 a.e1, .bool a.op, .slice a.la a.legs.length a.lc, .slice a.pa a.pauses.length a.pc, .int .i64 a.fw, .int .i64 a.fp, .int .i64 a.wh, .int .i64 a.pl] 44)).alloc (.cells #[.int .i64 b.id, .int .i64 b.rd, .int .i64 b.s0, .int .i64 b.s1, .int .i64 b.e0, .int .i64 b.e1, .bool b.op, .slice b.la b.legs.length b.lc, .slice b.pa b.pauses.length b.pc, .int .i64 b.fw, .int .i64 b.fp, .int .i64 b.wh, .int .i64 b.pl] 44)), y.w.cell? ⟨x.w.heap.size, 4, none⟩ = some (.int .i64 a.e0) := fun y => Since.cell (by simp [go_sem]) (by first | (simp; done) | (simp; omega)) y
  have hb0_5 : ∀ y : Since ((x.w.alloc (.cells #[.int .i64 a.id, .int .i64 a.rd, .int .i64 a.s0, .int .i64 a.s1, .int .i64 a.e0, .int .i64 a.e1, .bool a.op, .slice a.la a.legs.length a.lc, .slice a.pa a.pauses.length a.pc, .int .i64 a.fw, .int .i64 a.fp, .int .i64 a.wh, .int .i64 a.pl] 44)).alloc (.cells #[.int .i64 b.id, .int .i64 b.rd, .int .i64 b.s0, .int .i64 b.s1, .int .i64 b.e0, .int .i64 b.e1, .bool b.op, .slice b.la b.legs.length b.lc, .slice b.pa b.pauses.length b.pc, .int .i64 b.fw, .int .i64 b.fp, .int .i64 b.wh, .int .i64 b.pl] 44)), y.w.cell? ⟨x.w.heap.size, 5, none⟩ = some (.int .i64 a.e1) := fun y => Since.cell (by simp [go_sem]) (by first | (simp; done) | (simp; omega)) y
  have hb0_6 : ∀ y : Since ((x.w.alloc (.cells #[.int .i64 a.id, .int .i64 a.rd, .int .i64 a.s0, .int .i64 a.s1, .int .i64 a.e0, .int .i64 a.e1, .bool a.op, .slice a.la a.legs.length a.lc, .slice a.pa a.pauses.length a.pc, .int .i64 a.fw, .int .i64 a.fp, .int .i64 a.wh, .int .i64 a.pl] 44)).alloc (.cells #[.int .i64 b.id, .int .i64 b.rd, .int .i64 b.s0, .int .i64 b.s1, .int .i64 b.e0, .int .i64 b.e1, .bool b.op, .slice b.la b.legs.length b.lc, .slice b.pa b.pauses.length b.pc, .int .i64 b.fw, .int .i64 b.fp, .int .i64 b.wh, .int .i64 b.pl] 44)), y.w.cell? ⟨x.w.heap.size, 6, none⟩ = some (.bool a.op) := fun y => Since.cell (by simp [go_sem]) (by first | (simp; done) | (simp; omega)) y
  have hb0_7 : ∀ y : Since ((x.w.alloc (.cells #[.int .i64 a.id, .int .i64 a.rd, .int .i64 a.s0, .int .i64 a.s1, .int .i64 a.e0, .int .i64 a.e1, .bool a.op, .slice a.la a.legs.length a.lc, .slice a.pa a.pauses.length a.pc, .int .i64 a.fw, .int .i64 a.fp, .int .i64 a.wh, .int .i64 a.pl] 44)).alloc (.cells #[.int .i64 b.id, .int .i64 b.rd, .int .i64 b.s0, .int .i64 b.s1, .int .i64 b.e0, .int .i64 b.e1, .bool b.op, .slice b.la b.legs.length b.lc, .slice b.pa b.pauses.length b.pc, .int .i64 b.fw, .int .i64 b.fp, .int .i64 b.wh, .int .i64 b.pl] 44)), y.w.cell? ⟨x.w.heap.size, 7, none⟩ = some (.slice a.la a.legs.length a.lc) := fun y => Since.cell (by simp [go_sem]) (by first | (simp; done) | (simp; omega)) y
  have hb0_8 : ∀ y : Since ((x.w.alloc (.cells #[.int .i64 a.id, .int .i64 a.rd, .int .i64 a.s0, .int .i64 a.s1, .int .i64 a.e0, .int .i64 a.e1, .bool a.op, .slice a.la a.legs.length a.lc, .slice a.pa a.pauses.length a.pc, .int .i64 a.fw, .int .i64 a.fp, .int .i64 a.wh, .int .i64 a.pl] 44)).alloc (.cells #[.int .i64 b.id, .int .i64 b.rd, .int .i64 b.s0, .int .i64 b.s1, .int .i64 b.e0, .int .i64 b.e1, .bool b.op, .slice b.la b.legs.length b.lc, .slice b.pa b.pauses.length b.pc, .int .i64 b.fw, .int .i64 b.fp, .int .i64 b.wh, .int .i64 b.pl] 44)), y.w.cell? ⟨x.w.heap.size, 8, none⟩ = some (.slice a.pa a.pauses.length a.pc) := fun y => Since.cell (by simp [go_sem]) (by first | (simp; done) | (simp; omega)) y
  have hb0_9 : ∀ y : Since ((x.w.alloc (.cells #[.int .i64 a.id, .int .i64 a.rd, .int .i64 a.s0, .int .i64 a.s1, .int .i64 a.e0, .int .i64 a.e1, .bool a.op, .slice a.la a.legs.length a.lc, .slice a.pa a.pauses.length a.pc, .int .i64 a.fw, .int .i64 a.fp, .int .i64 a.wh, .int .i64 a.pl] 44)).alloc (.cells #[.int .i64 b.id, .int .i64 b.rd, .int .i64 b.s0, .int .i64 b.s1, .int .i64 b.e0, .int .i64 b.e1, .bool b.op, .slice b.la b.legs.length b.lc, .slice b.pa b.pauses.length b.pc, .int .i64 b.fw, .int .i64 b.fp, .int .i64 b.wh, .int .i64 b.pl] 44)), y.w.cell? ⟨x.w.heap.size, 9, none⟩ = some (.int .i64 a.fw) := fun y => Since.cell (by simp [go_sem]) (by first | (simp; done) | (simp; omega)) y
  have hb0_10 : ∀ y : Since ((x.w.alloc (.cells #[.int .i64 a.id, .int .i64 a.rd, .int .i64 a.s0, .int .i64 a.s1, .int .i64 a.e0, .int .i64 a.e1, .bool a.op, .slice a.la a.legs.length a.lc, .slice a.pa a.pauses.length a.pc, .int .i64 a.fw, .int .i64 a.fp, .int .i64 a.wh, .int .i64 a.pl] 44)).alloc (.cells #[.int .i64 b.id, .int .i64 b.rd, .int .i64 b.s0, .int .i64 b.s1, .int .i64 b.e0, .int .i64 b.e1, .bool b.op, .slice b.la b.legs.length b.lc, .slice b.pa b.pauses.length b.pc, .int .i64 b.fw, .int .i64 b.fp, .int .i64 b.wh, .int .i64 b.pl] 44)), y.w.cell? ⟨x.w.heap.size, 10, none⟩ = some (.int .i64 a.fp) := fun y => Since.cell (by simp [go_sem]) (by first | (simp; done) | (simp; omega)) y
  have hb0_11 : ∀ y : Since ((x.w.alloc (.cells #[.int .i64 a.id, .int .i64 a.rd, .int .i64 a.s0, .int .i64 a.s1, .int .i64 a.e0, .int .i64 a.e1, .bool a.op, .slice a.la a.legs.length a.lc, .slice a.pa a.pauses.length a.pc, .int .i64 a.fw, .int .i64 a.fp, .int .i64 a.wh, .int .i64 a.pl] 44)).alloc (.cells #[.int .i64 b.id, .int .i64 b.rd, .int .i64 b.s0, .int .i64 b.s1, .int .i64 b.e0, .int .i64 b.e1, .bool b.op, .slice b.la b.legs.length b.lc, .slice b.pa b.pauses.length b.pc, .int .i64 b.fw, .int .i64 b.fp, .int .i64 b.wh, .int .i64 b.pl] 44)), y.w.cell? ⟨x.w.heap.size, 11, none⟩ = some (.int .i64 a.wh) := fun y => Since.cell (by simp [go_sem]) (by first | (simp; done) | (simp; omega)) y
  have hb0_12 : ∀ y : Since ((x.w.alloc (.cells #[.int .i64 a.id, .int .i64 a.rd, .int .i64 a.s0, .int .i64 a.s1, .int .i64 a.e0, .int .i64 a.e1, .bool a.op, .slice a.la a.legs.length a.lc, .slice a.pa a.pauses.length a.pc, .int .i64 a.fw, .int .i64 a.fp, .int .i64 a.wh, .int .i64 a.pl] 44)).alloc (.cells #[.int .i64 b.id, .int .i64 b.rd, .int .i64 b.s0, .int .i64 b.s1, .int .i64 b.e0, .int .i64 b.e1, .bool b.op, .slice b.la b.legs.length b.lc, .slice b.pa b.pauses.length b.pc, .int .i64 b.fw, .int .i64 b.fp, .int .i64 b.wh, .int .i64 b.pl] 44)), y.w.cell? ⟨x.w.heap.size, 12, none⟩ = some (.int .i64 a.pl) := fun y => Since.cell (by simp [go_sem]) (by first | (simp; done) | (simp; omega)) y
  have hf0 : ∀ (y : Since ((x.w.alloc (.cells #[.int .i64 a.id, .int .i64 a.rd, .int .i64 a.s0, .int .i64 a.s1, .int .i64 a.e0, .int .i64 a.e1, .bool a.op, .slice a.la a.legs.length a.lc, .slice a.pa a.pauses.length a.pc, .int .i64 a.fw, .int .i64 a.fp, .int .i64 a.wh, .int .i64 a.pl] 44)).alloc (.cells #[.int .i64 b.id, .int .i64 b.rd, .int .i64 b.s0, .int .i64 b.s1, .int .i64 b.e0, .int .i64 b.e1, .bool b.op, .slice b.la b.legs.length b.lc, .slice b.pa b.pauses.length b.pc, .int .i64 b.fw, .int .i64 b.fp, .int .i64 b.wh, .int .i64 b.pl] 44))) (o : Nat), y.w.frozen? ⟨x.w.heap.size, o, none⟩ = false := fun y o => Since.free (by simp [go_sem]) (by first | (simp; done) | (simp; omega)) y
  have hb1_0 : ∀ y : Since ((x.w.alloc (.cells #[.int .i64 a.id, .int .i64 a.rd, .int .i64 a.s0, .int .i64 a.s1, .int .i64 a.e0, .int .i64 a.e1, .bool a.op, .slice a.la a.legs.length a.lc, .slice a.pa a.pauses.length a.pc, .int .i64 a.fw, .int .i64 a.fp, .int .i64 a.wh, .int .i64 a.pl] 44)).alloc (.cells #[.int .i64 b.id, .int .i64 b.rd, .int .i64 b.s0, .int .i64 b.s1, .int .i64 b.e0, .int .i64 b.e1, .bool b.op, .slice b.la b.legs.length b.lc, .slice b.pa b.pauses.length b.pc, .int .i64 b.fw, .int .i64 b.fp, .int .i64 b.wh, .int .i64 b.pl] 44)), y.w.cell? ⟨x.w.heap.size + 1, 0, none⟩ = some (.int .i64 b.id) := fun y => Since.cell (by simp [go_sem]) (by first | (simp; done) | (simp; omega)) y
  have hb1_1 : ∀ y : Since ((x.w.alloc (.cells #[.int .i64 a.id, .int .i64 a.rd, .int .i64 a.s0, .int .i64 a.s1, .int .i64 a.e0, .int .i64 a.e1, .bool a.op, .slice a.la a.legs.length a.lc, .slice a.pa a.pauses.length a.pc, .int .i64 a.fw, .int .i64 a.fp, .int .i64 a.wh, .int .i64 a.pl] 44)).alloc (.cells #[.int .i64 b.id, .int .i64 b.rd, .int .i64 b.s0, .int .i64 b.s1, .int .i64 b.e0, .int .i64 b.e1, .bool b.op, .slice b.la b.legs.length b.lc, .slice b.pa b.pauses.length b.pc, .int .i64 b.fw, .int .i64 b.fp, .int .i64 b.wh, .int .i64 b.pl] 44)), y.w.cell? ⟨x.w.heap.size + 1, 1, none⟩ = some (.int .i64 b.rd) := fun y => Since.cell (by simp [go_sem]) (by first | (simp; done) | (simp; omega)) y
  have hb1_2 : ∀ y : Since ((x.w.alloc (.cells #[.int .i64 a.id, .int .i64 a.rd, .int .i64 a.s0, .int .i64 a.s1, .int .i64 a.e0, .int .i64 a.e1, .bool a.op, .slice a.la a.legs.length a.lc, .slice a.pa a.pauses.length a.pc, .int .i64 a.fw, .int .i64 a.fp, .int .i64 a.wh, .int .i64 a.pl] 44)).alloc (.cells #[.int .i64 b.id, .int .i64 b.rd, .int .i64 b.s0, .int .i64 b.s1, .int .i64 b.e0, .int .i64 b.e1, .bool b.op, .slice b.la b.legs.length b.lc, .slice b.pa b.pauses.length b.pc, .int .i64 b.fw, .int .i64 b.fp, .int .i64 b.wh, .int .i64 b.pl] 44)), y.w.cell? ⟨x.w.heap.size + 1, 2, none⟩ = some (.int .i64 b.s0) := fun y => Since.cell (by simp [go_sem]) (by first | (simp; done) | (simp; omega)) y
  have hb1_3 : ∀ y : Since ((x.w.alloc (.cells #[.int .i64 a.id, .int .i64 a.rd, .int .i64 a.s0, .int .i64 a.s1, .int .i64 a.e0, .int .i64 a.e1, .bool a.op, .slice a.la a.legs.length a.lc, .slice a.pa a.pauses.length a.pc, .int .i64 a.fw, .int .i64 a.fp, .int .i64 a.wh, .int .i64 a.pl] 44)).alloc (.cells #[.int .i64 b.id, .int .i64 b.rd, .int .i64 b.s0, .int .i64 b.s1, .int .i64 b.e0, .int .i64 b.e1, .bool b.op, .slice b.la b.legs.length b.lc, .slice b.pa b.pauses.length b.pc, .int .i64 b.fw, .int .i64 b.fp, .int .i64 b.wh, .int .i64 b.pl] 44)), y.w.cell? ⟨x.w.heap.size + 1, 3, none⟩ = some (.int .i64 b.s1) := fun y => Since.cell (by simp [go_sem]) (by first | (simp; done) | (simp; omega)) y
  have hb1_4 : ∀ y : Since ((x.w.alloc (.cells #[.int .i64 a.id, .int .i64 a.rd, .int .i64 a.s0, .int .i64 a.s1, .int .i64 a.e0, .int .i64 a.e1, .bool a.op, .slice a.la a.legs.length a.lc, .slice a.pa a.pauses.length a.pc, .int .i64 a.fw, .int .i64 a.fp, .int .i64 a.wh, .int .i64 a.pl] 44)).alloc (.cells #[.int .i64 b.id, .int .i64 b.rd, .int .i64 b.s0, .int .i64 b.s1, .int .i64 b.e0, .int .i64 b.e1, .bool b.op, .slice b.la b.legs.length b.lc, .slice b.pa b.pauses.length b.pc, .int .i64 b.fw, .int .i64 b.fp, .int .i64 b.wh, .int .i64 b.pl] 44)), y.w.cell? ⟨x.w.heap.size + 1, 4, none⟩ = some (.int .i64 b.e0) := fun y => Since.cell (by simp [go_sem]) (by first | (simp; done) | (simp; omega)) y
  have hb1_5 : ∀ y : Since ((x.w.alloc (.cells #[.int .i64 a.id, .int .i64 a.rd, .int .i64 a.s0, .int .i64 a.s1, .int .i64 a.e0, .int .i64 a.e1, .bool a.op, .slice a.la a.legs.length a.lc, .slice a.pa a.pauses.length a.pc, .int .i64 a.fw, .int .i64 a.fp, .int .i64 a.wh, .int .i64 a.pl] 44)).alloc (.cells #[.int .i64 b.id, .int .i64 b.rd, .int .i64 b.s0, .int .i64 b.s1, .int .i64 b.e0, .int .i64 b.e1, .bool b.op, .slice b.la b.legs.length b.lc, .slice b.pa b.pauses.length b.pc, .int .i64 b.fw, .int .i64 b.fp, .int .i64 b.wh, .int .i64 b.pl] 44)), y.w.cell? ⟨x.w.heap.size + 1, 5, none⟩ = some (.int .i64 b.e1) := fun y => Since.cell (by simp [go_sem]) (by first | (simp; done) | (simp; omega)) y
  have hb1_6 : ∀ y : Since ((x.w.alloc (.cells #[.int .i64 a.id, .int .i64 a.rd, .int .i64 a.s0, .int .i64 a.s1, .int .i64 a.e0, .int .i64 a.e1, .bool a.op, .slice a.la a.legs.length a.lc, .slice a.pa a.pauses.length a.pc, .int .i64 a.fw, .int .i64 a.fp, .int .i64 a.wh, .int .i64 a.pl] 44)).alloc (.cells #[.int .i64 b.id, .int .i64 b.rd, .int .i64 b.s0, .int .i64 b.s1, .int .i64 b.e0, .int .i64 b.e1, .bool b.op, .slice b.la b.legs.length b.lc, .slice b.pa b.pauses.length b.pc, .int .i64 b.fw, .int .i64 b.fp, .int .i64 b.wh, .int .i64 b.pl] 44)), y.w.cell? ⟨x.w.heap.size + 1, 6, none⟩ = some (.bool b.op) := fun y => Since.cell (by simp [go_sem]) (by first | (simp; done) | (simp; omega)) y
  have hb1_7 : ∀ y : Since ((x.w.alloc (.cells #[.int .i64 a.id, .int .i64 a.rd, .int .i64 a.s0, .int .i64 a.s1, .int .i64 a.e0, .int .i64 a.e1, .bool a.op, .slice a.la a.legs.length a.lc, .slice a.pa a.pauses.length a.pc, .int .i64 a.fw, .int .i64 a.fp, .int .i64 a.wh, .int .i64 a.pl] 44)).alloc (.cells #[.int .i64 b.id, .int .i64 b.rd, .int .i64 b.s0, .int .i64 b.s1, .int .i64 b.e0, .int .i64 b.e1, .bool b.op, .slice b.la b.legs.length b.lc, .slice b.pa b.pauses.length b.pc, .int .i64 b.fw, .int .i64 b.fp, .int .i64 b.wh, .int .i64 b.pl] 44)), y.w.cell? ⟨x.w.heap.size + 1, 7, none⟩ = some (.slice b.la b.legs.length b.lc) := fun y => Since.cell (by simp [go_sem]) (by first | (simp; done) | (simp; omega)) y
  have hb1_8 : ∀ y : Since ((x.w.alloc (.cells #[.int .i64 a.id, .int .i64 a.rd, .int .i64 a.s0, .int .i64 a.s1, .int .i64 a.e0, .int .i64 a.e1, .bool a.op, .slice a.la a.legs.length a.lc, .slice a.pa a.pauses.length a.pc, .int .i64 a.fw, .int .i64 a.fp, .int .i64 a.wh, .int .i64 a.pl] 44)).alloc (.cells #[.int .i64 b.id, .int .i64 b.rd, .int .i64 b.s0, .int .i64 b.s1, .int .i64 b.e0, .int .i64 b.e1, .bool b.op, .slice b.la b.legs.length b.lc, .slice b.pa b.pauses.length b.pc, .int .i64 b.fw, .int .i64 b.fp, .int .i64 b.wh, .int .i64 b.pl] 44)), y.w.cell? ⟨x.w.heap.size + 1, 8, none⟩ = some (.slice b.pa b.pauses.length b.pc) := fun y => Since.cell (by simp [go_sem]) (by first | (simp; done) | (simp; omega)) y
  have hb1_9 : ∀ y : Since ((x.w.alloc (.cells #[.int .i64 a.id, .int .i64 a.rd, .int .i64 a.s0, .int .i64 a.s1, .int .i64 a.e0, .int .i64 a.e1, .bool a.op, .slice a.la a.legs.length a.lc, .slice a.pa a.pauses.length a.pc, .int .i64 a.fw, .int .i64 a.fp, .int .i64 a.wh, .int .i64 a.pl] 44)).alloc (.cells #[.int .i64 b.id, .int .i64 b.rd, .int .i64 b.s0, .int .i64 b.s1, .int .i64 b.e0, .int .i64 b.e1, .bool b.op, .slice b.la b.legs.length b.lc, .slice b.pa b.pauses.length b.pc, .int .i64 b.fw, .int .i64 b.fp, .int .i64 b.wh, .int .i64 b.pl] 44)), y.w.cell? ⟨x.w.heap.size + 1, 9, none⟩ = some (.int .i64 b.fw) := fun y => Since.cell (by simp [go_sem]) (by first | (simp; done) | (simp; omega)) y
  have hb1_10 : ∀ y : Since ((x.w.alloc (.cells #[.int .i64 a.id, .int .i64 a.rd, .int .i64 a.s0, .int .i64 a.s1, .int .i64 a.e0, .int .i64 a.e1, .bool a.op, .slice a.la a.legs.length a.lc, .slice a.pa a.pauses.length a.pc, .int .i64 a.fw, .int .i64 a.fp, .int .i64 a.wh, .int .i64 a.pl] 44)).alloc (.cells #[.int .i64 b.id, .int .i64 b.rd, .int .i64 b.s0, .int .i64 b.s1, .int .i64 b.e0, .int .i64 b.e1, .bool b.op, .slice b.la b.legs.length b.lc, .slice b.pa b.pauses.length b.pc, .int .i64 b.fw, .int .i64 b.fp, .int .i64 b.wh, .int .i64 b.pl] 44)), y.w.cell? ⟨x.w.heap.size + 1, 10, none⟩ = some (.int .i64 b.fp) := fun y => Since.cell (by simp [go_sem]) (by first | (simp; done) | (simp; omega)) y
  have hb1_11 : ∀ y : Since ((x.w.alloc (.cells #[.int .i64 a.id, .int .i64 a.rd, .int .i64 a.s0, .int .i64 a.s1, .int .i64 a.e0, .int .i64 a.e1, .bool a.op, .slice a.la a.legs.length a.lc, .slice a.pa a.pauses.length a.pc, .int .i64 a.fw, .int .i64 a.fp, .int .i64 a.wh, .int .i64 a.pl] 44)).alloc (.cells #[.int .i64 b.id, .int .i64 b.rd, .int .i64 b.s0, .int .i64 b.s1, .int .i64 b.e0, .int .i64 b.e1, .bool b.op, .slice b.la b.legs.length b.lc, .slice b.pa b.pauses.length b.pc, .int .i64 b.fw, .int .i64 b.fp, .int .i64 b.wh, .int .i64 b.pl] 44)), y.w.cell? ⟨x.w.heap.size + 1, 11, none⟩ = some (.int .i64 b.wh) := fun y => Since.cell (by simp [go_sem]) (by first | (simp; done) | (simp; omega)) y
  have hb1_12 : ∀ y : Since ((x.w.alloc (.cells #[.int .i64 a.id, .int .i64 a.rd, .int .i64 a.s0, .int .i64 a.s1, .int .i64 a.e0, .int .i64 a.e1, .bool a.op, .slice a.la a.legs.length a.lc, .slice a.pa a.pauses.length a.pc, .int .i64 a.fw, .int .i64 a.fp, .int .i64 a.wh, .int .i64 a.pl] 44)).alloc (.cells #[.int .i64 b.id, .int .i64 b.rd, .int .i64 b.s0, .int .i64 b.s1, .int .i64 b.e0, .int .i64 b.e1, .bool b.op, .slice b.la b.legs.length b.lc, .slice b.pa b.pauses.length b.pc, .int .i64 b.fw, .int .i64 b.fp, .int .i64 b.wh, .int .i64 b.pl] 44)), y.w.cell? ⟨x.w.heap.size + 1, 12, none⟩ = some (.int .i64 b.pl) := fun y => Since.cell (by simp [go_sem]) (by first | (simp; done) | (simp; omega)) y
  have hf1 : ∀ (y : Since ((x.w.alloc (.cells #[.int .i64 a.id, .int .i64 a.rd, .int .i64 a.s0, .int .i64 a.s1, .int .i64 a.e0, .int .i64 a.e1, .bool a.op, .slice a.la a.legs.length a.lc, .slice a.pa a.pauses.length a.pc, .int .i64 a.fw, .int .i64 a.fp, .int .i64 a.wh, .int .i64 a.pl] 44)).alloc (.cells #[.int .i64 b.id, .int .i64 b.rd, .int .i64 b.s0, .int .i64 b.s1, .int .i64 b.e0, .int .i64 b.e1, .bool b.op, .slice b.la b.legs.length b.lc, .slice b.pa b.pauses.length b.pc, .int .i64 b.fw, .int .i64 b.fp, .int .i64 b.wh, .int .i64 b.pl] 44))) (o : Nat), y.w.frozen? ⟨x.w.heap.size + 1, o, none⟩ = false := fun y o => Since.free (by simp [go_sem]) (by first | (simp; done) | (simp; omega)) y
  have hWup : ∃ z : Since w, ((x.w.alloc (.cells #[.int .i64 a.id, .int .i64 a.rd, .int .i64 a.s0, .int .i64 a.s1, .int .i64 a.e0, .int .i64 a.e1, .bool a.op, .slice a.la a.legs.length a.lc, .slice a.pa a.pauses.length a.pc, .int .i64 a.fw, .int .i64 a.fp, .int .i64 a.wh, .int .i64 a.pl] 44)).alloc (.cells #[.int .i64 b.id, .int .i64 b.rd, .int .i64 b.s0, .int .i64 b.s1, .int .i64 b.e0, .int .i64 b.e1, .bool b.op, .slice b.la b.legs.length b.lc, .slice b.pa b.pauses.length b.pc, .int .i64 b.fw, .int .i64 b.fp, .int .i64 b.wh, .int .i64 b.pl] 44)) = z.w := Since.allocs x [.cells #[.int .i64 a.id, .int .i64 a.rd, .int .i64 a.s0, .int .i64 a.s1, .int .i64 a.e0, .int .i64 a.e1, .bool a.op, .slice a.la a.legs.length a.lc, .slice a.pa a.pauses.length a.pc, .int .i64 a.fw, .int .i64 a.fp, .int .i64 a.wh, .int .i64 a.pl] 44, .cells #[.int .i64 b.id, .int .i64 b.rd, .int .i64 b.s0, .int .i64 b.s1, .int .i64 b.e0, .int .i64 b.e1, .bool b.op, .slice b.la b.legs.length b.lc, .slice b.pa b.pauses.length b.pc, .int .i64 b.fw, .int .i64 b.fp, .int .i64 b.wh, .int .i64 b.pl] 44]
  obtain ⟨y0, hy0⟩ := Since.refl ((x.w.alloc (.cells #[.int .i64 a.id, .int .i64 a.rd, .int .i64 a.s0, .int .i64 a.s1, .int .i64 a.e0, .int .i64 a.e1, .bool a.op, .slice a.la a.legs.length a.lc, .slice a.pa a.pauses.length a.pc, .int .i64 a.fw, .int .i64 a.fp, .int .i64 a.wh, .int .i64 a.pl] 44)).alloc (.cells #[.int .i64 b.id, .int .i64 b.rd, .int .i64 b.s0, .int .i64 b.s1, .int .i64 b.e0, .int .i64 b.e1, .bool b.op, .slice b.la b.legs.length b.lc, .slice b.pa b.pauses.length b.pc, .int .i64 b.fw, .int .i64 b.fp, .int .i64 b.wh, .int .i64 b.pl] 44))
  have Hbx := Lib.hid (And.intro x.b.size (show x.w.heap.size + 2 = ((x.w.alloc (.cells #[.int .i64 a.id, .int .i64 a.rd, .int .i64 a.s0, .int .i64 a.s1, .int .i64 a.e0, .int .i64 a.e1, .bool a.op, .slice a.la a.legs.length a.lc, .slice a.pa a.pauses.length a.pc, .int .i64 a.fw, .int .i64 a.fp, .int .i64 a.wh, .int .i64 a.pl] 44)).alloc (.cells #[.int .i64 b.id, .int .i64 b.rd, .int .i64 b.s0, .int .i64 b.s1, .int .i64 b.e0, .int .i64 b.e1, .bool b.op, .slice b.la b.legs.length b.lc, .slice b.pa b.pauses.length b.pc, .int .i64 b.fw, .int .i64 b.fp, .int .i64 b.wh, .int .i64 b.pl] 44)).heap.size from by simp))
  generalize hW : ((x.w.alloc (.cells #[.int .i64 a.id, .int .i64 a.rd, .int .i64 a.s0, .int .i64 a.s1, .int .i64 a.e0, .int .i64 a.e1, .bool a.op, .slice a.la a.legs.length a.lc, .slice a.pa a.pauses.length a.pc, .int .i64 a.fw, .int .i64 a.fp, .int .i64 a.wh, .int .i64 a.pl] 44)).alloc (.cells #[.int .i64 b.id, .int .i64 b.rd, .int .i64 b.s0, .int .i64 b.s1, .int .i64 b.e0, .int .i64 b.e1, .bool b.op, .slice b.la b.legs.length b.lc, .slice b.pa b.pauses.length b.pc, .int .i64 b.fw, .int .i64 b.fp, .int .i64 b.wh, .int .i64 b.pl] 44)) = W at *
  clear hW
  generalize x.w.heap.size = bx at *
  have Hup := Lib.hid (Since.up hWup)
  rw [hy0]
  clear hy0
  clear hWup
  clear hb0_1 hb0_3 hb0_5 hb0_6 hb0_7 hb0_8 hb0_9 hb0_10 hb0_11 hb0_12 hb1_1 hb1_3 hb1_5 hb1_6 hb1_7 hb1_8 hb1_9 hb1_10 hb1_11 hb1_12 hf0 hf1
  rcases (by omega : a.s0 < b.s0 ∨ b.s0 < a.s0 ∨ a.s0 = b.s0) with h | h | h
  · have hb : (a.s0 != b.s0) = true := by simp; omega
    have Hr := Lib.hid (show bef a b = true from HG.out.2 (by omega))
    clear HG
    go_wp2_with fail
    go_ret
    exact ⟨ret_bool Hr.out.symm, Hup.out _⟩
  · have hb : (a.s0 != b.s0) = true := by simp; omega
    have h' : decide (a.s0 < b.s0) = false := decide_eq_false (by omega)
    have Hr := Lib.hid (show bef a b = false by
      cases hg : bef a b
      · rfl
      · have := HG.out.1 hg; omega)
    clear HG
    go_wp2_with fail
    go_ret
    exact ⟨ret_bool Hr.out.symm, Hup.out _⟩
  · have hb : (a.s0 != b.s0) = false := by simp; omega
    have HE := Lib.hid h
    clear h
    rcases (by omega : a.e0 < b.e0 ∨ b.e0 < a.e0 ∨ a.e0 = b.e0) with h | h | h
    · have Hr := Lib.hid (show bef a b = true from HG.out.2 (by have := HE.out; omega))
      clear HG
      go_wp2_with fail
      go_ret
      exact ⟨ret_bool Hr.out.symm, Hup.out _⟩
    · have h' : b.e0 ≤ a.e0 := by omega
      have h2 : decide (a.e0 < b.e0) = false := decide_eq_false (by omega)
      have he : (a.e0 == b.e0) = false := by simp; omega
      have Hr := Lib.hid (show bef a b = false by
        cases hg : bef a b
        · rfl
        · have := HG.out.1 hg; have := HE.out; omega)
      clear HG
      go_wp2_with fail
      go_ret
      exact ⟨ret_bool Hr.out.symm, Hup.out _⟩
    · have h' : b.e0 ≤ a.e0 := by omega
      have h2 : decide (a.e0 < b.e0) = false := decide_eq_false (by omega)
      have he : (a.e0 == b.e0) = true := by simp; omega
      have HE2 := Lib.hid h
      clear h
      have Hr := Lib.hid (show bef a b = decide (a.id < b.id) by
        rw [Bool.eq_iff_iff, HG.out, decide_eq_true_eq]; have := HE.out; have := HE2.out; omega)
      clear HG
      rcases (by omega : a.id < b.id ∨ b.id ≤ a.id) with h3 | h3
      · go_wp2_with fail
        go_ret
        exact ⟨ret_bool (by rw [Hr.out, decide_eq_true h3]), Hup.out _⟩
      · go_wp2_with fail
        go_ret
        exact ⟨ret_bool (by rw [Hr.out]), Hup.out _⟩
set_option maxRecDepth 100000 in
set_option maxHeartbeats 4000000 in
theorem rvalid_calls (w : World) (x : Since w) (p : Pass) (r : Ride) (h0 : 0 ≤ r.s0) (h1 : r.s0 ≤ 4294943999) :
    Calls Try.prog 31 #[.agg #[.int .i64 p.id, .int .i64 p.rd, .int .i64 p.f, .int .i64 p.t, .int .i64 p.n, .int .i64 p.s], .agg #[.int .i64 r.id, .int .i64 r.rd, .int .i64 r.s0, .int .i64 r.s1, .int .i64 r.e0, .int .i64 r.e1, .bool r.op, .slice r.la r.legs.length r.lc, .slice r.pa r.pauses.length r.pc, .int .i64 r.fw, .int .i64 r.fp, .int .i64 r.wh, .int .i64 r.pl]] x.w fun o w' => o = .returned (.bool (vP p r)) ∧ ∃ y : Since w, w' = y.w := by
  have HG := Lib.hid (show vP p r = (decide (p.rd = r.rd) && (decide (p.f ≤ r.s0 / 86400) && decide (r.s0 / 86400 < p.t))) from rfl)
  go_enter Try.func31, Try.ntmps31
  go_upto_region 1 with fail
  have hb0_0 : ∀ y : Since ((x.w.alloc (.cells #[.int .i64 p.id, .int .i64 p.rd, .int .i64 p.f, .int .i64 p.t, .int .i64 p.n, .int .i64 p.s] 49)).alloc (.cells #[.int .i64 r.id, .int .i64 r.rd, .int .i64 r.s0, .int .i64 r.s1, .int .i64 r.e0, .int .i64 r.e1, .bool r.op, .slice r.la r.legs.length r.lc, .slice r.pa r.pauses.length r.pc, .int .i64 r.fw, .int .i64 r.fp, .int .i64 r.wh, .int .i64 r.pl] 44)), y.w.cell? ⟨x.w.heap.size, 0, none⟩ = some (.int .i64 p.id) := fun y => Since.cell (by simp [go_sem]) (by first | (simp; done) | (simp; omega)) y
  have hb0_1 : ∀ y : Since ((x.w.alloc (.cells #[.int .i64 p.id, .int .i64 p.rd, .int .i64 p.f, .int .i64 p.t, .int .i64 p.n, .int .i64 p.s] 49)).alloc (.cells #[.int .i64 r.id, .int .i64 r.rd, .int .i64 r.s0, .int .i64 r.s1, .int .i64 r.e0, .int .i64 r.e1, .bool r.op, .slice r.la r.legs.length r.lc, .slice r.pa r.pauses.length r.pc, .int .i64 r.fw, .int .i64 r.fp, .int .i64 r.wh, .int .i64 r.pl] 44)), y.w.cell? ⟨x.w.heap.size, 1, none⟩ = some (.int .i64 p.rd) := fun y => Since.cell (by simp [go_sem]) (by first | (simp; done) | (simp; omega)) y
  have hb0_2 : ∀ y : Since ((x.w.alloc (.cells #[.int .i64 p.id, .int .i64 p.rd, .int .i64 p.f, .int .i64 p.t, .int .i64 p.n, .int .i64 p.s] 49)).alloc (.cells #[.int .i64 r.id, .int .i64 r.rd, .int .i64 r.s0, .int .i64 r.s1, .int .i64 r.e0, .int .i64 r.e1, .bool r.op, .slice r.la r.legs.length r.lc, .slice r.pa r.pauses.length r.pc, .int .i64 r.fw, .int .i64 r.fp, .int .i64 r.wh, .int .i64 r.pl] 44)), y.w.cell? ⟨x.w.heap.size, 2, none⟩ = some (.int .i64 p.f) := fun y => Since.cell (by simp [go_sem]) (by first | (simp; done) | (simp; omega)) y
  have hb0_3 : ∀ y : Since ((x.w.alloc (.cells #[.int .i64 p.id, .int .i64 p.rd, .int .i64 p.f, .int .i64 p.t, .int .i64 p.n, .int .i64 p.s] 49)).alloc (.cells #[.int .i64 r.id, .int .i64 r.rd, .int .i64 r.s0, .int .i64 r.s1, .int .i64 r.e0, .int .i64 r.e1, .bool r.op, .slice r.la r.legs.length r.lc, .slice r.pa r.pauses.length r.pc, .int .i64 r.fw, .int .i64 r.fp, .int .i64 r.wh, .int .i64 r.pl] 44)), y.w.cell? ⟨x.w.heap.size, 3, none⟩ = some (.int .i64 p.t) := fun y => Since.cell (by simp [go_sem]) (by first | (simp; done) | (simp; omega)) y
  have hb0_4 : ∀ y : Since ((x.w.alloc (.cells #[.int .i64 p.id, .int .i64 p.rd, .int .i64 p.f, .int .i64 p.t, .int .i64 p.n, .int .i64 p.s] 49)).alloc (.cells #[.int .i64 r.id, .int .i64 r.rd, .int .i64 r.s0, .int .i64 r.s1, .int .i64 r.e0, .int .i64 r.e1, .bool r.op, .slice r.la r.legs.length r.lc, .slice r.pa r.pauses.length r.pc, .int .i64 r.fw, .int .i64 r.fp, .int .i64 r.wh, .int .i64 r.pl] 44)), y.w.cell? ⟨x.w.heap.size, 4, none⟩ = some (.int .i64 p.n) := fun y => Since.cell (by simp [go_sem]) (by first | (simp; done) | (simp; omega)) y
  have hb0_5 : ∀ y : Since ((x.w.alloc (.cells #[.int .i64 p.id, .int .i64 p.rd, .int .i64 p.f, .int .i64 p.t, .int .i64 p.n, .int .i64 p.s] 49)).alloc (.cells #[.int .i64 r.id, .int .i64 r.rd, .int .i64 r.s0, .int .i64 r.s1, .int .i64 r.e0, .int .i64 r.e1, .bool r.op, .slice r.la r.legs.length r.lc, .slice r.pa r.pauses.length r.pc, .int .i64 r.fw, .int .i64 r.fp, .int .i64 r.wh, .int .i64 r.pl] 44)), y.w.cell? ⟨x.w.heap.size, 5, none⟩ = some (.int .i64 p.s) := fun y => Since.cell (by simp [go_sem]) (by first | (simp; done) | (simp; omega)) y
  have hf0 : ∀ (y : Since ((x.w.alloc (.cells #[.int .i64 p.id, .int .i64 p.rd, .int .i64 p.f, .int .i64 p.t, .int .i64 p.n, .int .i64 p.s] 49)).alloc (.cells #[.int .i64 r.id, .int .i64 r.rd, .int .i64 r.s0, .int .i64 r.s1, .int .i64 r.e0, .int .i64 r.e1, .bool r.op, .slice r.la r.legs.length r.lc, .slice r.pa r.pauses.length r.pc, .int .i64 r.fw, .int .i64 r.fp, .int .i64 r.wh, .int .i64 r.pl] 44))) (o : Nat), y.w.frozen? ⟨x.w.heap.size, o, none⟩ = false := fun y o => Since.free (by simp [go_sem]) (by first | (simp; done) | (simp; omega)) y
  have hb1_0 : ∀ y : Since ((x.w.alloc (.cells #[.int .i64 p.id, .int .i64 p.rd, .int .i64 p.f, .int .i64 p.t, .int .i64 p.n, .int .i64 p.s] 49)).alloc (.cells #[.int .i64 r.id, .int .i64 r.rd, .int .i64 r.s0, .int .i64 r.s1, .int .i64 r.e0, .int .i64 r.e1, .bool r.op, .slice r.la r.legs.length r.lc, .slice r.pa r.pauses.length r.pc, .int .i64 r.fw, .int .i64 r.fp, .int .i64 r.wh, .int .i64 r.pl] 44)), y.w.cell? ⟨x.w.heap.size + 1, 0, none⟩ = some (.int .i64 r.id) := fun y => Since.cell (by simp [go_sem]) (by first | (simp; done) | (simp; omega)) y
  have hb1_1 : ∀ y : Since ((x.w.alloc (.cells #[.int .i64 p.id, .int .i64 p.rd, .int .i64 p.f, .int .i64 p.t, .int .i64 p.n, .int .i64 p.s] 49)).alloc (.cells #[.int .i64 r.id, .int .i64 r.rd, .int .i64 r.s0, .int .i64 r.s1, .int .i64 r.e0, .int .i64 r.e1, .bool r.op, .slice r.la r.legs.length r.lc, .slice r.pa r.pauses.length r.pc, .int .i64 r.fw, .int .i64 r.fp, .int .i64 r.wh, .int .i64 r.pl] 44)), y.w.cell? ⟨x.w.heap.size + 1, 1, none⟩ = some (.int .i64 r.rd) := fun y => Since.cell (by simp [go_sem]) (by first | (simp; done) | (simp; omega)) y
  have hb1_2 : ∀ y : Since ((x.w.alloc (.cells #[.int .i64 p.id, .int .i64 p.rd, .int .i64 p.f, .int .i64 p.t, .int .i64 p.n, .int .i64 p.s] 49)).alloc (.cells #[.int .i64 r.id, .int .i64 r.rd, .int .i64 r.s0, .int .i64 r.s1, .int .i64 r.e0, .int .i64 r.e1, .bool r.op, .slice r.la r.legs.length r.lc, .slice r.pa r.pauses.length r.pc, .int .i64 r.fw, .int .i64 r.fp, .int .i64 r.wh, .int .i64 r.pl] 44)), y.w.cell? ⟨x.w.heap.size + 1, 2, none⟩ = some (.int .i64 r.s0) := fun y => Since.cell (by simp [go_sem]) (by first | (simp; done) | (simp; omega)) y
  have hb1_3 : ∀ y : Since ((x.w.alloc (.cells #[.int .i64 p.id, .int .i64 p.rd, .int .i64 p.f, .int .i64 p.t, .int .i64 p.n, .int .i64 p.s] 49)).alloc (.cells #[.int .i64 r.id, .int .i64 r.rd, .int .i64 r.s0, .int .i64 r.s1, .int .i64 r.e0, .int .i64 r.e1, .bool r.op, .slice r.la r.legs.length r.lc, .slice r.pa r.pauses.length r.pc, .int .i64 r.fw, .int .i64 r.fp, .int .i64 r.wh, .int .i64 r.pl] 44)), y.w.cell? ⟨x.w.heap.size + 1, 3, none⟩ = some (.int .i64 r.s1) := fun y => Since.cell (by simp [go_sem]) (by first | (simp; done) | (simp; omega)) y
  have hb1_4 : ∀ y : Since ((x.w.alloc (.cells #[.int .i64 p.id, .int .i64 p.rd, .int .i64 p.f, .int .i64 p.t, .int .i64 p.n, .int .i64 p.s] 49)).alloc (.cells #[.int .i64 r.id, .int .i64 r.rd, .int .i64 r.s0, .int .i64 r.s1, .int .i64 r.e0, .int .i64 r.e1, .bool r.op, .slice r.la r.legs.length r.lc, .slice r.pa r.pauses.length r.pc, .int .i64 r.fw, .int .i64 r.fp, .int .i64 r.wh, .int .i64 r.pl] 44)), y.w.cell? ⟨x.w.heap.size + 1, 4, none⟩ = some (.int .i64 r.e0) := fun y => Since.cell (by simp [go_sem]) (by first | (simp; done) | (simp; omega)) y
  have hb1_5 : ∀ y : Since ((x.w.alloc (.cells #[.int .i64 p.id, .int .i64 p.rd, .int .i64 p.f, .int .i64 p.t, .int .i64 p.n, .int .i64 p.s] 49)).alloc (.cells #[.int .i64 r.id, .int .i64 r.rd, .int .i64 r.s0, .int .i64 r.s1, .int .i64 r.e0, .int .i64 r.e1, .bool r.op, .slice r.la r.legs.length r.lc, .slice r.pa r.pauses.length r.pc, .int .i64 r.fw, .int .i64 r.fp, .int .i64 r.wh, .int .i64 r.pl] 44)), y.w.cell? ⟨x.w.heap.size + 1, 5, none⟩ = some (.int .i64 r.e1) := fun y => Since.cell (by simp [go_sem]) (by first | (simp; done) | (simp; omega)) y
  have hb1_6 : ∀ y : Since ((x.w.alloc (.cells #[.int .i64 p.id, .int .i64 p.rd, .int .i64 p.f, .int .i64 p.t, .int .i64 p.n, .int .i64 p.s] 49)).alloc (.cells #[.int .i64 r.id, .int .i64 r.rd, .int .i64 r.s0, .int .i64 r.s1, .int .i64 r.e0, .int .i64 r.e1, .bool r.op, .slice r.la r.legs.length r.lc, .slice r.pa r.pauses.length r.pc, .int .i64 r.fw, .int .i64 r.fp, .int .i64 r.wh, .int .i64 r.pl] 44)), y.w.cell? ⟨x.w.heap.size + 1, 6, none⟩ = some (.bool r.op) := fun y => Since.cell (by simp [go_sem]) (by first | (simp; done) | (simp; omega)) y
  have hb1_7 : ∀ y : Since ((x.w.alloc (.cells #[.int .i64 p.id, .int .i64 p.rd, .int .i64 p.f, .int .i64 p.t, .int .i64 p.n, .int .i64 p.s] 49)).alloc (.cells #[.int .i64 r.id, .int .i64 r.rd, .int .i64 r.s0, .int .i64 r.s1, .int .i64 r.e0, .int .i64 r.e1, .bool r.op, .slice r.la r.legs.length r.lc, .slice r.pa r.pauses.length r.pc, .int .i64 r.fw, .int .i64 r.fp, .int .i64 r.wh, .int .i64 r.pl] 44)), y.w.cell? ⟨x.w.heap.size + 1, 7, none⟩ = some (.slice r.la r.legs.length r.lc) := fun y => Since.cell (by simp [go_sem]) (by first | (simp; done) | (simp; omega)) y
  have hb1_8 : ∀ y : Since ((x.w.alloc (.cells #[.int .i64 p.id, .int .i64 p.rd, .int .i64 p.f, .int .i64 p.t, .int .i64 p.n, .int .i64 p.s] 49)).alloc (.cells #[.int .i64 r.id, .int .i64 r.rd, .int .i64 r.s0, .int .i64 r.s1, .int .i64 r.e0, .int .i64 r.e1, .bool r.op, .slice r.la r.legs.length r.lc, .slice r.pa r.pauses.length r.pc, .int .i64 r.fw, .int .i64 r.fp, .int .i64 r.wh, .int .i64 r.pl] 44)), y.w.cell? ⟨x.w.heap.size + 1, 8, none⟩ = some (.slice r.pa r.pauses.length r.pc) := fun y => Since.cell (by simp [go_sem]) (by first | (simp; done) | (simp; omega)) y
  have hb1_9 : ∀ y : Since ((x.w.alloc (.cells #[.int .i64 p.id, .int .i64 p.rd, .int .i64 p.f, .int .i64 p.t, .int .i64 p.n, .int .i64 p.s] 49)).alloc (.cells #[.int .i64 r.id, .int .i64 r.rd, .int .i64 r.s0, .int .i64 r.s1, .int .i64 r.e0, .int .i64 r.e1, .bool r.op, .slice r.la r.legs.length r.lc, .slice r.pa r.pauses.length r.pc, .int .i64 r.fw, .int .i64 r.fp, .int .i64 r.wh, .int .i64 r.pl] 44)), y.w.cell? ⟨x.w.heap.size + 1, 9, none⟩ = some (.int .i64 r.fw) := fun y => Since.cell (by simp [go_sem]) (by first | (simp; done) | (simp; omega)) y
  have hb1_10 : ∀ y : Since ((x.w.alloc (.cells #[.int .i64 p.id, .int .i64 p.rd, .int .i64 p.f, .int .i64 p.t, .int .i64 p.n, .int .i64 p.s] 49)).alloc (.cells #[.int .i64 r.id, .int .i64 r.rd, .int .i64 r.s0, .int .i64 r.s1, .int .i64 r.e0, .int .i64 r.e1, .bool r.op, .slice r.la r.legs.length r.lc, .slice r.pa r.pauses.length r.pc, .int .i64 r.fw, .int .i64 r.fp, .int .i64 r.wh, .int .i64 r.pl] 44)), y.w.cell? ⟨x.w.heap.size + 1, 10, none⟩ = some (.int .i64 r.fp) := fun y => Since.cell (by simp [go_sem]) (by first | (simp; done) | (simp; omega)) y
  have hb1_11 : ∀ y : Since ((x.w.alloc (.cells #[.int .i64 p.id, .int .i64 p.rd, .int .i64 p.f, .int .i64 p.t, .int .i64 p.n, .int .i64 p.s] 49)).alloc (.cells #[.int .i64 r.id, .int .i64 r.rd, .int .i64 r.s0, .int .i64 r.s1, .int .i64 r.e0, .int .i64 r.e1, .bool r.op, .slice r.la r.legs.length r.lc, .slice r.pa r.pauses.length r.pc, .int .i64 r.fw, .int .i64 r.fp, .int .i64 r.wh, .int .i64 r.pl] 44)), y.w.cell? ⟨x.w.heap.size + 1, 11, none⟩ = some (.int .i64 r.wh) := fun y => Since.cell (by simp [go_sem]) (by first | (simp; done) | (simp; omega)) y
  have hb1_12 : ∀ y : Since ((x.w.alloc (.cells #[.int .i64 p.id, .int .i64 p.rd, .int .i64 p.f, .int .i64 p.t, .int .i64 p.n, .int .i64 p.s] 49)).alloc (.cells #[.int .i64 r.id, .int .i64 r.rd, .int .i64 r.s0, .int .i64 r.s1, .int .i64 r.e0, .int .i64 r.e1, .bool r.op, .slice r.la r.legs.length r.lc, .slice r.pa r.pauses.length r.pc, .int .i64 r.fw, .int .i64 r.fp, .int .i64 r.wh, .int .i64 r.pl] 44)), y.w.cell? ⟨x.w.heap.size + 1, 12, none⟩ = some (.int .i64 r.pl) := fun y => Since.cell (by simp [go_sem]) (by first | (simp; done) | (simp; omega)) y
  have hf1 : ∀ (y : Since ((x.w.alloc (.cells #[.int .i64 p.id, .int .i64 p.rd, .int .i64 p.f, .int .i64 p.t, .int .i64 p.n, .int .i64 p.s] 49)).alloc (.cells #[.int .i64 r.id, .int .i64 r.rd, .int .i64 r.s0, .int .i64 r.s1, .int .i64 r.e0, .int .i64 r.e1, .bool r.op, .slice r.la r.legs.length r.lc, .slice r.pa r.pauses.length r.pc, .int .i64 r.fw, .int .i64 r.fp, .int .i64 r.wh, .int .i64 r.pl] 44))) (o : Nat), y.w.frozen? ⟨x.w.heap.size + 1, o, none⟩ = false := fun y o => Since.free (by simp [go_sem]) (by first | (simp; done) | (simp; omega)) y
  have hWup : ∃ z : Since w, ((x.w.alloc (.cells #[.int .i64 p.id, .int .i64 p.rd, .int .i64 p.f, .int .i64 p.t, .int .i64 p.n, .int .i64 p.s] 49)).alloc (.cells #[.int .i64 r.id, .int .i64 r.rd, .int .i64 r.s0, .int .i64 r.s1, .int .i64 r.e0, .int .i64 r.e1, .bool r.op, .slice r.la r.legs.length r.lc, .slice r.pa r.pauses.length r.pc, .int .i64 r.fw, .int .i64 r.fp, .int .i64 r.wh, .int .i64 r.pl] 44)) = z.w := Since.allocs x [.cells #[.int .i64 p.id, .int .i64 p.rd, .int .i64 p.f, .int .i64 p.t, .int .i64 p.n, .int .i64 p.s] 49, .cells #[.int .i64 r.id, .int .i64 r.rd, .int .i64 r.s0, .int .i64 r.s1, .int .i64 r.e0, .int .i64 r.e1, .bool r.op, .slice r.la r.legs.length r.lc, .slice r.pa r.pauses.length r.pc, .int .i64 r.fw, .int .i64 r.fp, .int .i64 r.wh, .int .i64 r.pl] 44]
  obtain ⟨y0, hy0⟩ := Since.refl ((x.w.alloc (.cells #[.int .i64 p.id, .int .i64 p.rd, .int .i64 p.f, .int .i64 p.t, .int .i64 p.n, .int .i64 p.s] 49)).alloc (.cells #[.int .i64 r.id, .int .i64 r.rd, .int .i64 r.s0, .int .i64 r.s1, .int .i64 r.e0, .int .i64 r.e1, .bool r.op, .slice r.la r.legs.length r.lc, .slice r.pa r.pauses.length r.pc, .int .i64 r.fw, .int .i64 r.fp, .int .i64 r.wh, .int .i64 r.pl] 44))
  have Hbx := Lib.hid (And.intro x.b.size (show x.w.heap.size + 2 = ((x.w.alloc (.cells #[.int .i64 p.id, .int .i64 p.rd, .int .i64 p.f, .int .i64 p.t, .int .i64 p.n, .int .i64 p.s] 49)).alloc (.cells #[.int .i64 r.id, .int .i64 r.rd, .int .i64 r.s0, .int .i64 r.s1, .int .i64 r.e0, .int .i64 r.e1, .bool r.op, .slice r.la r.legs.length r.lc, .slice r.pa r.pauses.length r.pc, .int .i64 r.fw, .int .i64 r.fp, .int .i64 r.wh, .int .i64 r.pl] 44)).heap.size from by simp))
  generalize hW : ((x.w.alloc (.cells #[.int .i64 p.id, .int .i64 p.rd, .int .i64 p.f, .int .i64 p.t, .int .i64 p.n, .int .i64 p.s] 49)).alloc (.cells #[.int .i64 r.id, .int .i64 r.rd, .int .i64 r.s0, .int .i64 r.s1, .int .i64 r.e0, .int .i64 r.e1, .bool r.op, .slice r.la r.legs.length r.lc, .slice r.pa r.pauses.length r.pc, .int .i64 r.fw, .int .i64 r.fp, .int .i64 r.wh, .int .i64 r.pl] 44)) = W at *
  clear hW
  generalize x.w.heap.size = bx at *
  have Hup := Lib.hid (Since.up hWup)
  rw [hy0]
  clear hy0
  clear hWup
  clear hb0_0 hb0_4 hb0_5 hb1_0 hb1_3 hb1_4 hb1_5 hb1_6 hb1_7 hb1_8 hb1_9 hb1_10 hb1_11 hb1_12 hf0 hf1
  by_cases hrd : p.rd = r.rd
  · have hb : (p.rd == r.rd) = true := by simpa using hrd
    rw [decide_eq_true hrd, Bool.true_and] at HG
    clear hrd
    rcases (by omega : r.s0 / 86400 < p.f ∨ (p.f ≤ r.s0 / 86400 ∧ p.t ≤ r.s0 / 86400) ∨ (p.f ≤ r.s0 / 86400 ∧ r.s0 / 86400 < p.t)) with h | ⟨h, h'⟩ | ⟨h, h'⟩
    all_goals
      have Hr := Lib.hid (show vP p r = (decide (p.f ≤ r.s0 / 86400) && decide (r.s0 / 86400 < p.t)) from HG.out)
      clear HG
      go_wp2_with fail
      go_ret
      exact ⟨ret_bool (by rw [Hr.out]; simp; omega), Hup.out _⟩
  · have hb : (p.rd == r.rd) = false := by simpa using hrd
    have Hr := Lib.hid (show vP p r = false by rw [HG.out, decide_eq_false hrd]; rfl)
    clear hrd HG
    go_wp2_with fail
    go_ret
    exact ⟨ret_bool Hr.out.symm, Hup.out _⟩
/-- how many of the first m rides are of day d and paid by pass k -/
def cntTo (R : List Ride) (u : Nat → Int) (k d : Int) (m : Nat) : Nat := ((List.range m).filter fun j => decide (u j = k) && decide (day (rAt R j) = d)).length
theorem cntTo_next (R : List Ride) (u : Nat → Int) (k d : Int) (m : Nat) : cntTo R u k d (m + 1) = cntTo R u k d m + if u m = k ∧ day (rAt R m) = d then 1 else 0 := by
  unfold cntTo
  rw [List.range_succ, List.filter_append, List.length_append]
  congr 1
  by_cases h : u m = k ∧ day (rAt R m) = d
  · rw [if_pos h]; simp [List.filter_cons, h.1, h.2]
  · rw [if_neg h, List.filter_eq_nil_iff.2 (by
      intro j hj
      simp at hj; subst hj
      simpa using h)]
    rfl
theorem cntTo_le (R : List Ride) (u : Nat → Int) (k d : Int) (m : Nat) : cntTo R u k d m ≤ m := by
  have := List.length_filter_le (fun j => decide (u j = k) && decide (day (rAt R j) = d)) (List.range m)
  unfold cntTo; simpa using this
abbrev cntU (R : List Ride) (u : Nat → Int) (k d : Int) : Nat := cntTo R u k d R.length
abbrev FunRow (w : World) (a : Option Addr) (n : Nat) (u : Nat → Int) : Prop := Row w a n fun i => .int .i64 (u i)
set_option maxRecDepth 100000 in
set_option maxHeartbeats 4000000 in
theorem rpaid_calls (w : World) (x : Since w) (a : Option Addr) (R : List Ride) (c : Nat) (a2 : Option Addr) (n2 c2 : Nat) (u : Nat → Int) (kk d : Int) (h : RideRow w a R) (hu : FunRow w a2 n2 u) (hn : R.length ≤ n2) (hl : R.length ≤ 256) (hs0 : ∀ r ∈ R, 0 ≤ r.s0 ∧ r.s0 ≤ 4294943999) :
    Calls Try.prog 32 #[.slice a R.length c, .slice a2 n2 c2, .int .i64 kk, .int .i64 d] x.w fun o w' => o = .returned (.int .i64 (cntU R u kk d : Nat)) ∧ ∃ y : Since w, w' = y.w := by
  have HL := Lib.hid h
  have HU := Lib.hid hu
  have Hs0 := Lib.hid hs0
  clear h hu hs0
  go_enter Try.func32, Try.ntmps32
  go_wp2_with fail
  go_loopw [9, 10] (fun n i wr => ∃ (k : Nat) (y : Since w), k ≤ R.length ∧ i = .int .i64 k ∧ n = .int .i64 (cntTo R u kk d k : Nat) ∧ wr = y.w) (fun _ i _ => R.length - (intOf i).toNat)
  case atStart => exact ⟨0, _, by omega, rfl, rfl, rfl⟩
  case round =>
    obtain ⟨k, y, hk, rfl, rfl, rfl⟩ := hrel
    by_cases hlt : k < R.length
    · obtain ⟨e, he⟩ : ∃ e, R[k]? = some e := ⟨_, List.getElem?_eq_getElem hlt⟩
      obtain ⟨b1, off1, rfl, h1'⟩ := Els.ride HL.out.c he
      have ra2 := h1'.c2
      obtain ⟨b2, off2, rfl, hb2, hc2⟩ := HU.out k (by omega)
      have rb : ∀ y : Since w, y.w.cell? ⟨b2, off2 + k, none⟩ = some (.int .i64 (u k)) := Since.cell hc2 hb2
      have hk0 : (0 : Int) ≤ (k : Int) := by omega
      have hkl : (k : Int) < (R.length : Int) := by omega
      have hkn : (k : Int) < (n2 : Int) := by omega
      have Hx := Lib.hid (cntTo_next R u kk d k)
      rw [rAt_eq he] at Hx
      have Hle := Lib.hid (cntTo_le R u kk d k)
      obtain ⟨hs0, hs1⟩ := Hs0.out e (List.mem_of_getElem? he)
      have hc0 : 0 ≤ (cntTo R u kk d k : Int) := by omega
      have hc1 : (cntTo R u kk d k : Int) ≤ 256 := by have := Hle.out; omega
      clear h1' he hb2 hc2
      by_cases hu : u k = kk
      · have hub : (u k == kk) = true := by simpa using hu
        by_cases hd : e.s0 / 86400 = d
        · have hdb : (e.s0 / 86400 == d) = true := by simpa using hd
          have Hn := Lib.hid (show (cntTo R u kk d (k + 1) : Int) = cntTo R u kk d k + 1 by rw [Hx.out, if_pos ⟨hu, hd⟩]; rfl)
          clear hu hd Hx
          go_wp2_with fail
          go_roundw
          case rel => exact ⟨k + 1, y, by omega, by go_num, by rw [Hn.out], rfl⟩
          case measure => simp [intOf] <;> omega
        · have hdb : (e.s0 / 86400 == d) = false := by simpa using hd
          have Hn := Lib.hid (show cntTo R u kk d (k + 1) = cntTo R u kk d k by rw [Hx.out, if_neg (fun h => hd h.2)]; rfl)
          clear hu hd Hx
          go_wp2_with fail
          go_roundw
          case rel => exact ⟨k + 1, y, by omega, by go_num, by rw [Hn.out], rfl⟩
          case measure => simp [intOf] <;> omega
      · have hub : (u k == kk) = false := by simpa using hu
        have Hn := Lib.hid (show cntTo R u kk d (k + 1) = cntTo R u kk d k by rw [Hx.out, if_neg (fun h => hu h.1)]; rfl)
        clear hu Hx
        go_wp2_with fail
        go_roundw
        case rel => exact ⟨k + 1, y, by omega, by go_num, by rw [Hn.out], rfl⟩
        case measure => simp [intOf] <;> omega
    · obtain rfl : k = R.length := by omega
      go_wp2_with fail
      go_ret
      exact ⟨rfl, _, rfl⟩
set_option maxHeartbeats 4000000 in
theorem ints_calls (w : World) (x : Since w) (a : Option Addr) (us : List Int) (c : Nat) (a2 : Option Addr) (vs : List Int) (c2 : Nat) (h : IntRow w a us) (hv : IntRow w a2 vs) (hl : us.length ≤ 9223372036854775807) (hl2 : vs.length ≤ 9223372036854775807) :
    Calls Try.prog 15 #[.slice a us.length c, .slice a2 vs.length c2] x.w fun o w' => o = .returned (.bool (decide (us = vs))) ∧ ∃ y : Since w, w' = y.w := by
  have HU := Lib.hid h
  have HV := Lib.hid hv
  clear h hv
  by_cases hne : us.length = vs.length
  case neg =>
    have hb : ((us.length : Int) != (vs.length : Int)) = true := by simp; omega
    have Hr := Lib.hid (show decide (us = vs) = false from decide_eq_false fun h => hne (by rw [h]))
    clear hne
    go_enter Try.func15, Try.ntmps15
    go_wp2_with fail
    go_ret
    exact ⟨ret_bool Hr.out.symm, _, rfl⟩
  have hb : ((us.length : Int) != (vs.length : Int)) = false := by simp; omega
  have Hne := Lib.hid hne
  clear hne
  go_enter Try.func15, Try.ntmps15
  go_wp2_with fail
  go_loopw [5] (fun i wr => ∃ (k : Nat) (y : Since w), k ≤ us.length ∧ i = .int .i64 k ∧ wr = y.w ∧ ∀ j, j < k → at0 us j = at0 vs j) (fun i _ => us.length - (intOf i).toNat)
  case atStart => exact ⟨0, _, by omega, rfl, rfl, fun j hj => by omega⟩
  case round =>
    obtain ⟨k, y, hk, rfl, rfl, hok⟩ := hrel
    have Hok := Lib.hid hok; clear hok
    by_cases hlt : k < us.length
    · obtain ⟨b1, off1, rfl, hb1, hc1⟩ := HU.out k hlt
      obtain ⟨b2, off2, rfl, hb2, hc2⟩ := HV.out k (by have := Hne.out; omega)
      have ra : ∀ y : Since w, y.w.cell? ⟨b1, off1 + k, none⟩ = some (.int .i64 (at0 us k)) := Since.cell hc1 hb1
      have rb : ∀ y : Since w, y.w.cell? ⟨b2, off2 + k, none⟩ = some (.int .i64 (at0 vs k)) := Since.cell hc2 hb2
      have hk0 : (0 : Int) ≤ (k : Int) := by omega
      have hkl : (k : Int) < (us.length : Int) := by omega
      have hkn : (k : Int) < (vs.length : Int) := by have := Hne.out; omega
      clear hb1 hc1 hb2 hc2
      by_cases he : at0 us k = at0 vs k
      · have heb : (at0 us k != at0 vs k) = false := by simpa using he
        have Hok2 := Lib.hid (show ∀ j, j < k + 1 → at0 us j = at0 vs j from fun j hj => by
          by_cases hjk : j < k
          · exact Hok.out j hjk
          · obtain rfl : j = k := by omega
            exact he)
        clear he
        go_wp2_with fail
        refine wp_region_since (by kernel_rfl) (by kernel_rfl) ?_
        repeat (go_big_quiet_step (fail))
        refine wpQuiet_nil ?_
        rintro _ ⟨z, rfl⟩
        go_wp2_with fail
        go_roundw
        case rel => exact ⟨k + 1, z, by omega, by go_num, rfl, Hok2.out⟩
        case measure => simp [intOf] <;> omega
      · have heb : (at0 us k != at0 vs k) = true := by simpa using he
        have Hr := Lib.hid (show decide (us = vs) = false from decide_eq_false fun h => he (by rw [h]))
        clear he
        go_wp2_with fail
        refine wp_region_since (by kernel_rfl) (by kernel_rfl) ?_
        repeat (go_big_quiet_step (fail))
        refine wpQuiet_nil ?_
        rintro _ ⟨z, rfl⟩
        go_wp2_with fail
        go_ret
        exact ⟨ret_bool Hr.out.symm, _, rfl⟩
    · obtain rfl : k = us.length := by omega
      have Hr := Lib.hid (show decide (us = vs) = true from decide_eq_true (List.ext_getElem Hne.out fun i hi hj => by
        have := Hok.out i hi
        unfold at0 at this
        rw [List.getD_eq_getElem?_getD, List.getD_eq_getElem?_getD, List.getElem?_eq_getElem hi, List.getElem?_eq_getElem hj] at this
        exact this))
      go_wp2_with fail
      go_ret
      exact ⟨ret_bool Hr.out.symm, _, rfl⟩
end Go.Proofs.Ytbkfcdheckkjaaa
