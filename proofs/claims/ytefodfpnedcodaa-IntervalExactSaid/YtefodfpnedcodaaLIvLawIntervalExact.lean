/- The ride with exact moments, walked. -/
import Derived.Test.YtefodfpnedcodaaIvMf
import Derived.IntWalk
set_option linter.all false
namespace Go.Proofs.Ytefodfpnedcodaa
open Go.RowKit

theorem legX_one (x : Leg) : ∀ u ∈ x.cs, u.oneCell' = true := by
  intro u hu
  simp [Leg.cs] at hu
  rcases hu with h | h | h | h | h <;> subst h <;> rfl
theorem pseX_one (x : Pse) : ∀ u ∈ x.cs, u.oneCell' = true := by
  intro u hu
  simp [Pse.cs] at hu
  rcases hu with h | h | h | h <;> subst h <;> rfl
theorem sLegX : SliceOf Try.prog 24 60 (.agg #[.int .i64 0, .int .i64 0, .int .i64 0, .int .i64 0, .int .i64 0]) 5 40 := SliceOf.mk' Try.underlying24 (by kernel_rfl) rfl (by decide)
theorem sPseX : SliceOf Try.prog 25 52 (.agg #[.int .i64 0, .int .i64 0, .int .i64 0, .int .i64 0]) 4 32 := SliceOf.mk' Try.underlying25 (by kernel_rfl) rfl (by decide)
/-- the ride with exact moments -/
def ExRes (w : World) (r : Ride) (o : Ending) (w' : World) : Prop :=
  ∃ (la : Option Addr) (lc : Nat) (pa : Option Addr) (pc : Nat) (y : Since w), o = .returned (.agg #[.int .i64 r.id, .int .i64 r.rd, .int .i64 r.s0, .int .i64 r.s0, .int .i64 r.e0, .int .i64 r.e0, .bool r.op, .slice la r.legs.length lc, .slice pa r.pauses.length pc, .int .i64 r.fw, .int .i64 r.fp, .int .i64 r.wh, .int .i64 r.pl]) ∧ w' = y.w ∧ (exR r la lc pa pc).At y.w
set_option linter.unusedSimpArgs false in
set_option maxRecDepth 100000 in
set_option maxHeartbeats 16000000 in
theorem exact_calls (w : World) (x : Since w) (r : Ride) (h : r.At w) (hlm : r.legs.length ≤ 100) (hpm : r.pauses.length ≤ 100) :
    Calls Try.prog 32 #[.agg #[.int .i64 r.id, .int .i64 r.rd, .int .i64 r.s0, .int .i64 r.s1, .int .i64 r.e0, .int .i64 r.e1, .bool r.op, .slice r.la r.legs.length r.lc, .slice r.pa r.pauses.length r.pc, .int .i64 r.fw, .int .i64 r.fp, .int .i64 r.wh, .int .i64 r.pl]] x.w (ExRes w r) := by
  have H := Lib.hid h
  clear h
  have HP := Lib.hid (fun (la : Option Addr) (lc k j : Nat) (pa : Option Addr) (pc : Nat) (y : Since w) (hk : k = r.legs.length) (hj : j = r.pauses.length) (hl : Els Leg.cs 5 y.w la (r.legs.map exL)) (hp : Els Pse.cs 4 y.w pa (r.pauses.map exP)) => show ExRes w r (.returned (.agg #[.int .i64 r.id, .int .i64 r.rd, .int .i64 r.s0, .int .i64 r.s0, .int .i64 r.e0, .int .i64 r.e0, .bool r.op, .slice la k lc, .slice pa j pc, .int .i64 r.fw, .int .i64 r.fp, .int .i64 r.wh, .int .i64 r.pl])) y.w from by subst hk; subst hj; exact ⟨la, lc, pa, pc, y, rfl, rfl, hl, hp, by show (r.legs.map exL).length ≤ _; rw [List.length_map]; omega, by show (r.pauses.map exP).length ≤ _; rw [List.length_map]; omega⟩)
  generalize ExRes w r = PO at *
  go_enter Try.func32, Try.ntmps32
  go_upto_region 1 with fail
  have hb0_0 : ∀ y : Since ((x.w.alloc (.cells #[.int .i64 r.id, .int .i64 r.rd, .int .i64 r.s0, .int .i64 r.s1, .int .i64 r.e0, .int .i64 r.e1, .bool r.op, .slice r.la r.legs.length r.lc, .slice r.pa r.pauses.length r.pc, .int .i64 r.fw, .int .i64 r.fp, .int .i64 r.wh, .int .i64 r.pl] 27)).alloc (.cells #[.int .i64 0, .int .i64 0, .int .i64 0, .int .i64 0, .int .i64 0, .int .i64 0, .bool false, .slice none 0 0, .slice none 0 0, .int .i64 0, .int .i64 0, .int .i64 0, .int .i64 0] 27)), y.w.cell? ⟨x.w.heap.size, 0, none⟩ = some (.int .i64 r.id) := fun y => Since.cell (by simp [go_sem]) (by first | (simp; done) | (simp; omega)) y
  have hb0_1 : ∀ y : Since ((x.w.alloc (.cells #[.int .i64 r.id, .int .i64 r.rd, .int .i64 r.s0, .int .i64 r.s1, .int .i64 r.e0, .int .i64 r.e1, .bool r.op, .slice r.la r.legs.length r.lc, .slice r.pa r.pauses.length r.pc, .int .i64 r.fw, .int .i64 r.fp, .int .i64 r.wh, .int .i64 r.pl] 27)).alloc (.cells #[.int .i64 0, .int .i64 0, .int .i64 0, .int .i64 0, .int .i64 0, .int .i64 0, .bool false, .slice none 0 0, .slice none 0 0, .int .i64 0, .int .i64 0, .int .i64 0, .int .i64 0] 27)), y.w.cell? ⟨x.w.heap.size, 1, none⟩ = some (.int .i64 r.rd) := fun y => Since.cell (by simp [go_sem]) (by first | (simp; done) | (simp; omega)) y
  have hb0_2 : ∀ y : Since ((x.w.alloc (.cells #[.int .i64 r.id, .int .i64 r.rd, .int .i64 r.s0, .int .i64 r.s1, .int .i64 r.e0, .int .i64 r.e1, .bool r.op, .slice r.la r.legs.length r.lc, .slice r.pa r.pauses.length r.pc, .int .i64 r.fw, .int .i64 r.fp, .int .i64 r.wh, .int .i64 r.pl] 27)).alloc (.cells #[.int .i64 0, .int .i64 0, .int .i64 0, .int .i64 0, .int .i64 0, .int .i64 0, .bool false, .slice none 0 0, .slice none 0 0, .int .i64 0, .int .i64 0, .int .i64 0, .int .i64 0] 27)), y.w.cell? ⟨x.w.heap.size, 2, none⟩ = some (.int .i64 r.s0) := fun y => Since.cell (by simp [go_sem]) (by first | (simp; done) | (simp; omega)) y
  have hb0_3 : ∀ y : Since ((x.w.alloc (.cells #[.int .i64 r.id, .int .i64 r.rd, .int .i64 r.s0, .int .i64 r.s1, .int .i64 r.e0, .int .i64 r.e1, .bool r.op, .slice r.la r.legs.length r.lc, .slice r.pa r.pauses.length r.pc, .int .i64 r.fw, .int .i64 r.fp, .int .i64 r.wh, .int .i64 r.pl] 27)).alloc (.cells #[.int .i64 0, .int .i64 0, .int .i64 0, .int .i64 0, .int .i64 0, .int .i64 0, .bool false, .slice none 0 0, .slice none 0 0, .int .i64 0, .int .i64 0, .int .i64 0, .int .i64 0] 27)), y.w.cell? ⟨x.w.heap.size, 3, none⟩ = some (.int .i64 r.s1) := fun y => Since.cell (by simp [go_sem]) (by first | (simp; done) | (simp; omega)) y
  have hb0_4 : ∀ y : Since ((x.w.alloc (.cells #[.int .i64 r.id, .int .i64 r.rd, .int .i64 r.s0, .int .i64 r.s1, .int .i64 r.e0, .int .i64 r.e1, .bool r.op, .slice r.la r.legs.length r.lc, .slice r.pa r.pauses.length r.pc, .int .i64 r.fw, .int .i64 r.fp, .int .i64 r.wh, .int .i64 r.pl] 27)).alloc (.cells #[.int .i64 0, .int .i64 0, .int .i64 0, .int .i64 0, .int .i64 0, .int .i64 0, .bool false, .slice none 0 0, .slice none 0 0, .int .i64 0, .int .i64 0, .int .i64 0, .int .i64 0] 27)), y.w.cell? ⟨x.w.heap.size, 4, none⟩ = some (.int .i64 r.e0) := fun y => Since.cell (by simp [go_sem]) (by first | (simp; done) | (simp; omega)) y
  have hb0_5 : ∀ y : Since ((x.w.alloc (.cells #[.int .i64 r.id, .int .i64 r.rd, .int .i64 r.s0, .int .i64 r.s1, .int .i64 r.e0, .int .i64 r.e1, .bool r.op, .slice r.la r.legs.length r.lc, .slice r.pa r.pauses.length r.pc, .int .i64 r.fw, .int .i64 r.fp, .int .i64 r.wh, .int .i64 r.pl] 27)).alloc (.cells #[.int .i64 0, .int .i64 0, .int .i64 0, .int .i64 0, .int .i64 0, .int .i64 0, .bool false, .slice none 0 0, .slice none 0 0, .int .i64 0, .int .i64 0, .int .i64 0, .int .i64 0] 27)), y.w.cell? ⟨x.w.heap.size, 5, none⟩ = some (.int .i64 r.e1) := fun y => Since.cell (by simp [go_sem]) (by first | (simp; done) | (simp; omega)) y
  have hb0_6 : ∀ y : Since ((x.w.alloc (.cells #[.int .i64 r.id, .int .i64 r.rd, .int .i64 r.s0, .int .i64 r.s1, .int .i64 r.e0, .int .i64 r.e1, .bool r.op, .slice r.la r.legs.length r.lc, .slice r.pa r.pauses.length r.pc, .int .i64 r.fw, .int .i64 r.fp, .int .i64 r.wh, .int .i64 r.pl] 27)).alloc (.cells #[.int .i64 0, .int .i64 0, .int .i64 0, .int .i64 0, .int .i64 0, .int .i64 0, .bool false, .slice none 0 0, .slice none 0 0, .int .i64 0, .int .i64 0, .int .i64 0, .int .i64 0] 27)), y.w.cell? ⟨x.w.heap.size, 6, none⟩ = some (.bool r.op) := fun y => Since.cell (by simp [go_sem]) (by first | (simp; done) | (simp; omega)) y
  have hb0_7 : ∀ y : Since ((x.w.alloc (.cells #[.int .i64 r.id, .int .i64 r.rd, .int .i64 r.s0, .int .i64 r.s1, .int .i64 r.e0, .int .i64 r.e1, .bool r.op, .slice r.la r.legs.length r.lc, .slice r.pa r.pauses.length r.pc, .int .i64 r.fw, .int .i64 r.fp, .int .i64 r.wh, .int .i64 r.pl] 27)).alloc (.cells #[.int .i64 0, .int .i64 0, .int .i64 0, .int .i64 0, .int .i64 0, .int .i64 0, .bool false, .slice none 0 0, .slice none 0 0, .int .i64 0, .int .i64 0, .int .i64 0, .int .i64 0] 27)), y.w.cell? ⟨x.w.heap.size, 7, none⟩ = some (.slice r.la r.legs.length r.lc) := fun y => Since.cell (by simp [go_sem]) (by first | (simp; done) | (simp; omega)) y
  have hb0_8 : ∀ y : Since ((x.w.alloc (.cells #[.int .i64 r.id, .int .i64 r.rd, .int .i64 r.s0, .int .i64 r.s1, .int .i64 r.e0, .int .i64 r.e1, .bool r.op, .slice r.la r.legs.length r.lc, .slice r.pa r.pauses.length r.pc, .int .i64 r.fw, .int .i64 r.fp, .int .i64 r.wh, .int .i64 r.pl] 27)).alloc (.cells #[.int .i64 0, .int .i64 0, .int .i64 0, .int .i64 0, .int .i64 0, .int .i64 0, .bool false, .slice none 0 0, .slice none 0 0, .int .i64 0, .int .i64 0, .int .i64 0, .int .i64 0] 27)), y.w.cell? ⟨x.w.heap.size, 8, none⟩ = some (.slice r.pa r.pauses.length r.pc) := fun y => Since.cell (by simp [go_sem]) (by first | (simp; done) | (simp; omega)) y
  have hb0_9 : ∀ y : Since ((x.w.alloc (.cells #[.int .i64 r.id, .int .i64 r.rd, .int .i64 r.s0, .int .i64 r.s1, .int .i64 r.e0, .int .i64 r.e1, .bool r.op, .slice r.la r.legs.length r.lc, .slice r.pa r.pauses.length r.pc, .int .i64 r.fw, .int .i64 r.fp, .int .i64 r.wh, .int .i64 r.pl] 27)).alloc (.cells #[.int .i64 0, .int .i64 0, .int .i64 0, .int .i64 0, .int .i64 0, .int .i64 0, .bool false, .slice none 0 0, .slice none 0 0, .int .i64 0, .int .i64 0, .int .i64 0, .int .i64 0] 27)), y.w.cell? ⟨x.w.heap.size, 9, none⟩ = some (.int .i64 r.fw) := fun y => Since.cell (by simp [go_sem]) (by first | (simp; done) | (simp; omega)) y
  have hb0_10 : ∀ y : Since ((x.w.alloc (.cells #[.int .i64 r.id, .int .i64 r.rd, .int .i64 r.s0, .int .i64 r.s1, .int .i64 r.e0, .int .i64 r.e1, .bool r.op, .slice r.la r.legs.length r.lc, .slice r.pa r.pauses.length r.pc, .int .i64 r.fw, .int .i64 r.fp, .int .i64 r.wh, .int .i64 r.pl] 27)).alloc (.cells #[.int .i64 0, .int .i64 0, .int .i64 0, .int .i64 0, .int .i64 0, .int .i64 0, .bool false, .slice none 0 0, .slice none 0 0, .int .i64 0, .int .i64 0, .int .i64 0, .int .i64 0] 27)), y.w.cell? ⟨x.w.heap.size, 10, none⟩ = some (.int .i64 r.fp) := fun y => Since.cell (by simp [go_sem]) (by first | (simp; done) | (simp; omega)) y
  have hb0_11 : ∀ y : Since ((x.w.alloc (.cells #[.int .i64 r.id, .int .i64 r.rd, .int .i64 r.s0, .int .i64 r.s1, .int .i64 r.e0, .int .i64 r.e1, .bool r.op, .slice r.la r.legs.length r.lc, .slice r.pa r.pauses.length r.pc, .int .i64 r.fw, .int .i64 r.fp, .int .i64 r.wh, .int .i64 r.pl] 27)).alloc (.cells #[.int .i64 0, .int .i64 0, .int .i64 0, .int .i64 0, .int .i64 0, .int .i64 0, .bool false, .slice none 0 0, .slice none 0 0, .int .i64 0, .int .i64 0, .int .i64 0, .int .i64 0] 27)), y.w.cell? ⟨x.w.heap.size, 11, none⟩ = some (.int .i64 r.wh) := fun y => Since.cell (by simp [go_sem]) (by first | (simp; done) | (simp; omega)) y
  have hb0_12 : ∀ y : Since ((x.w.alloc (.cells #[.int .i64 r.id, .int .i64 r.rd, .int .i64 r.s0, .int .i64 r.s1, .int .i64 r.e0, .int .i64 r.e1, .bool r.op, .slice r.la r.legs.length r.lc, .slice r.pa r.pauses.length r.pc, .int .i64 r.fw, .int .i64 r.fp, .int .i64 r.wh, .int .i64 r.pl] 27)).alloc (.cells #[.int .i64 0, .int .i64 0, .int .i64 0, .int .i64 0, .int .i64 0, .int .i64 0, .bool false, .slice none 0 0, .slice none 0 0, .int .i64 0, .int .i64 0, .int .i64 0, .int .i64 0] 27)), y.w.cell? ⟨x.w.heap.size, 12, none⟩ = some (.int .i64 r.pl) := fun y => Since.cell (by simp [go_sem]) (by first | (simp; done) | (simp; omega)) y
  have hf0 : ∀ (y : Since ((x.w.alloc (.cells #[.int .i64 r.id, .int .i64 r.rd, .int .i64 r.s0, .int .i64 r.s1, .int .i64 r.e0, .int .i64 r.e1, .bool r.op, .slice r.la r.legs.length r.lc, .slice r.pa r.pauses.length r.pc, .int .i64 r.fw, .int .i64 r.fp, .int .i64 r.wh, .int .i64 r.pl] 27)).alloc (.cells #[.int .i64 0, .int .i64 0, .int .i64 0, .int .i64 0, .int .i64 0, .int .i64 0, .bool false, .slice none 0 0, .slice none 0 0, .int .i64 0, .int .i64 0, .int .i64 0, .int .i64 0] 27))) (o : Nat), y.w.frozen? ⟨x.w.heap.size, o, none⟩ = false := fun y o => Since.free (by simp [go_sem]) (by first | (simp; done) | (simp; omega)) y
  have hb1_0 : ∀ y : Since ((x.w.alloc (.cells #[.int .i64 r.id, .int .i64 r.rd, .int .i64 r.s0, .int .i64 r.s1, .int .i64 r.e0, .int .i64 r.e1, .bool r.op, .slice r.la r.legs.length r.lc, .slice r.pa r.pauses.length r.pc, .int .i64 r.fw, .int .i64 r.fp, .int .i64 r.wh, .int .i64 r.pl] 27)).alloc (.cells #[.int .i64 0, .int .i64 0, .int .i64 0, .int .i64 0, .int .i64 0, .int .i64 0, .bool false, .slice none 0 0, .slice none 0 0, .int .i64 0, .int .i64 0, .int .i64 0, .int .i64 0] 27)), y.w.cell? ⟨x.w.heap.size + 1, 0, none⟩ = some (.int .i64 0) := fun y => Since.cell (by simp [go_sem]) (by first | (simp; done) | (simp; omega)) y
  have hb1_1 : ∀ y : Since ((x.w.alloc (.cells #[.int .i64 r.id, .int .i64 r.rd, .int .i64 r.s0, .int .i64 r.s1, .int .i64 r.e0, .int .i64 r.e1, .bool r.op, .slice r.la r.legs.length r.lc, .slice r.pa r.pauses.length r.pc, .int .i64 r.fw, .int .i64 r.fp, .int .i64 r.wh, .int .i64 r.pl] 27)).alloc (.cells #[.int .i64 0, .int .i64 0, .int .i64 0, .int .i64 0, .int .i64 0, .int .i64 0, .bool false, .slice none 0 0, .slice none 0 0, .int .i64 0, .int .i64 0, .int .i64 0, .int .i64 0] 27)), y.w.cell? ⟨x.w.heap.size + 1, 1, none⟩ = some (.int .i64 0) := fun y => Since.cell (by simp [go_sem]) (by first | (simp; done) | (simp; omega)) y
  have hb1_2 : ∀ y : Since ((x.w.alloc (.cells #[.int .i64 r.id, .int .i64 r.rd, .int .i64 r.s0, .int .i64 r.s1, .int .i64 r.e0, .int .i64 r.e1, .bool r.op, .slice r.la r.legs.length r.lc, .slice r.pa r.pauses.length r.pc, .int .i64 r.fw, .int .i64 r.fp, .int .i64 r.wh, .int .i64 r.pl] 27)).alloc (.cells #[.int .i64 0, .int .i64 0, .int .i64 0, .int .i64 0, .int .i64 0, .int .i64 0, .bool false, .slice none 0 0, .slice none 0 0, .int .i64 0, .int .i64 0, .int .i64 0, .int .i64 0] 27)), y.w.cell? ⟨x.w.heap.size + 1, 2, none⟩ = some (.int .i64 0) := fun y => Since.cell (by simp [go_sem]) (by first | (simp; done) | (simp; omega)) y
  have hb1_3 : ∀ y : Since ((x.w.alloc (.cells #[.int .i64 r.id, .int .i64 r.rd, .int .i64 r.s0, .int .i64 r.s1, .int .i64 r.e0, .int .i64 r.e1, .bool r.op, .slice r.la r.legs.length r.lc, .slice r.pa r.pauses.length r.pc, .int .i64 r.fw, .int .i64 r.fp, .int .i64 r.wh, .int .i64 r.pl] 27)).alloc (.cells #[.int .i64 0, .int .i64 0, .int .i64 0, .int .i64 0, .int .i64 0, .int .i64 0, .bool false, .slice none 0 0, .slice none 0 0, .int .i64 0, .int .i64 0, .int .i64 0, .int .i64 0] 27)), y.w.cell? ⟨x.w.heap.size + 1, 3, none⟩ = some (.int .i64 0) := fun y => Since.cell (by simp [go_sem]) (by first | (simp; done) | (simp; omega)) y
  have hb1_4 : ∀ y : Since ((x.w.alloc (.cells #[.int .i64 r.id, .int .i64 r.rd, .int .i64 r.s0, .int .i64 r.s1, .int .i64 r.e0, .int .i64 r.e1, .bool r.op, .slice r.la r.legs.length r.lc, .slice r.pa r.pauses.length r.pc, .int .i64 r.fw, .int .i64 r.fp, .int .i64 r.wh, .int .i64 r.pl] 27)).alloc (.cells #[.int .i64 0, .int .i64 0, .int .i64 0, .int .i64 0, .int .i64 0, .int .i64 0, .bool false, .slice none 0 0, .slice none 0 0, .int .i64 0, .int .i64 0, .int .i64 0, .int .i64 0] 27)), y.w.cell? ⟨x.w.heap.size + 1, 4, none⟩ = some (.int .i64 0) := fun y => Since.cell (by simp [go_sem]) (by first | (simp; done) | (simp; omega)) y
  have hb1_5 : ∀ y : Since ((x.w.alloc (.cells #[.int .i64 r.id, .int .i64 r.rd, .int .i64 r.s0, .int .i64 r.s1, .int .i64 r.e0, .int .i64 r.e1, .bool r.op, .slice r.la r.legs.length r.lc, .slice r.pa r.pauses.length r.pc, .int .i64 r.fw, .int .i64 r.fp, .int .i64 r.wh, .int .i64 r.pl] 27)).alloc (.cells #[.int .i64 0, .int .i64 0, .int .i64 0, .int .i64 0, .int .i64 0, .int .i64 0, .bool false, .slice none 0 0, .slice none 0 0, .int .i64 0, .int .i64 0, .int .i64 0, .int .i64 0] 27)), y.w.cell? ⟨x.w.heap.size + 1, 5, none⟩ = some (.int .i64 0) := fun y => Since.cell (by simp [go_sem]) (by first | (simp; done) | (simp; omega)) y
  have hb1_6 : ∀ y : Since ((x.w.alloc (.cells #[.int .i64 r.id, .int .i64 r.rd, .int .i64 r.s0, .int .i64 r.s1, .int .i64 r.e0, .int .i64 r.e1, .bool r.op, .slice r.la r.legs.length r.lc, .slice r.pa r.pauses.length r.pc, .int .i64 r.fw, .int .i64 r.fp, .int .i64 r.wh, .int .i64 r.pl] 27)).alloc (.cells #[.int .i64 0, .int .i64 0, .int .i64 0, .int .i64 0, .int .i64 0, .int .i64 0, .bool false, .slice none 0 0, .slice none 0 0, .int .i64 0, .int .i64 0, .int .i64 0, .int .i64 0] 27)), y.w.cell? ⟨x.w.heap.size + 1, 6, none⟩ = some (.bool false) := fun y => Since.cell (by simp [go_sem]) (by first | (simp; done) | (simp; omega)) y
  have hb1_7 : ∀ y : Since ((x.w.alloc (.cells #[.int .i64 r.id, .int .i64 r.rd, .int .i64 r.s0, .int .i64 r.s1, .int .i64 r.e0, .int .i64 r.e1, .bool r.op, .slice r.la r.legs.length r.lc, .slice r.pa r.pauses.length r.pc, .int .i64 r.fw, .int .i64 r.fp, .int .i64 r.wh, .int .i64 r.pl] 27)).alloc (.cells #[.int .i64 0, .int .i64 0, .int .i64 0, .int .i64 0, .int .i64 0, .int .i64 0, .bool false, .slice none 0 0, .slice none 0 0, .int .i64 0, .int .i64 0, .int .i64 0, .int .i64 0] 27)), y.w.cell? ⟨x.w.heap.size + 1, 7, none⟩ = some (.slice none 0 0) := fun y => Since.cell (by simp [go_sem]) (by first | (simp; done) | (simp; omega)) y
  have hb1_8 : ∀ y : Since ((x.w.alloc (.cells #[.int .i64 r.id, .int .i64 r.rd, .int .i64 r.s0, .int .i64 r.s1, .int .i64 r.e0, .int .i64 r.e1, .bool r.op, .slice r.la r.legs.length r.lc, .slice r.pa r.pauses.length r.pc, .int .i64 r.fw, .int .i64 r.fp, .int .i64 r.wh, .int .i64 r.pl] 27)).alloc (.cells #[.int .i64 0, .int .i64 0, .int .i64 0, .int .i64 0, .int .i64 0, .int .i64 0, .bool false, .slice none 0 0, .slice none 0 0, .int .i64 0, .int .i64 0, .int .i64 0, .int .i64 0] 27)), y.w.cell? ⟨x.w.heap.size + 1, 8, none⟩ = some (.slice none 0 0) := fun y => Since.cell (by simp [go_sem]) (by first | (simp; done) | (simp; omega)) y
  have hb1_9 : ∀ y : Since ((x.w.alloc (.cells #[.int .i64 r.id, .int .i64 r.rd, .int .i64 r.s0, .int .i64 r.s1, .int .i64 r.e0, .int .i64 r.e1, .bool r.op, .slice r.la r.legs.length r.lc, .slice r.pa r.pauses.length r.pc, .int .i64 r.fw, .int .i64 r.fp, .int .i64 r.wh, .int .i64 r.pl] 27)).alloc (.cells #[.int .i64 0, .int .i64 0, .int .i64 0, .int .i64 0, .int .i64 0, .int .i64 0, .bool false, .slice none 0 0, .slice none 0 0, .int .i64 0, .int .i64 0, .int .i64 0, .int .i64 0] 27)), y.w.cell? ⟨x.w.heap.size + 1, 9, none⟩ = some (.int .i64 0) := fun y => Since.cell (by simp [go_sem]) (by first | (simp; done) | (simp; omega)) y
  have hb1_10 : ∀ y : Since ((x.w.alloc (.cells #[.int .i64 r.id, .int .i64 r.rd, .int .i64 r.s0, .int .i64 r.s1, .int .i64 r.e0, .int .i64 r.e1, .bool r.op, .slice r.la r.legs.length r.lc, .slice r.pa r.pauses.length r.pc, .int .i64 r.fw, .int .i64 r.fp, .int .i64 r.wh, .int .i64 r.pl] 27)).alloc (.cells #[.int .i64 0, .int .i64 0, .int .i64 0, .int .i64 0, .int .i64 0, .int .i64 0, .bool false, .slice none 0 0, .slice none 0 0, .int .i64 0, .int .i64 0, .int .i64 0, .int .i64 0] 27)), y.w.cell? ⟨x.w.heap.size + 1, 10, none⟩ = some (.int .i64 0) := fun y => Since.cell (by simp [go_sem]) (by first | (simp; done) | (simp; omega)) y
  have hb1_11 : ∀ y : Since ((x.w.alloc (.cells #[.int .i64 r.id, .int .i64 r.rd, .int .i64 r.s0, .int .i64 r.s1, .int .i64 r.e0, .int .i64 r.e1, .bool r.op, .slice r.la r.legs.length r.lc, .slice r.pa r.pauses.length r.pc, .int .i64 r.fw, .int .i64 r.fp, .int .i64 r.wh, .int .i64 r.pl] 27)).alloc (.cells #[.int .i64 0, .int .i64 0, .int .i64 0, .int .i64 0, .int .i64 0, .int .i64 0, .bool false, .slice none 0 0, .slice none 0 0, .int .i64 0, .int .i64 0, .int .i64 0, .int .i64 0] 27)), y.w.cell? ⟨x.w.heap.size + 1, 11, none⟩ = some (.int .i64 0) := fun y => Since.cell (by simp [go_sem]) (by first | (simp; done) | (simp; omega)) y
  have hb1_12 : ∀ y : Since ((x.w.alloc (.cells #[.int .i64 r.id, .int .i64 r.rd, .int .i64 r.s0, .int .i64 r.s1, .int .i64 r.e0, .int .i64 r.e1, .bool r.op, .slice r.la r.legs.length r.lc, .slice r.pa r.pauses.length r.pc, .int .i64 r.fw, .int .i64 r.fp, .int .i64 r.wh, .int .i64 r.pl] 27)).alloc (.cells #[.int .i64 0, .int .i64 0, .int .i64 0, .int .i64 0, .int .i64 0, .int .i64 0, .bool false, .slice none 0 0, .slice none 0 0, .int .i64 0, .int .i64 0, .int .i64 0, .int .i64 0] 27)), y.w.cell? ⟨x.w.heap.size + 1, 12, none⟩ = some (.int .i64 0) := fun y => Since.cell (by simp [go_sem]) (by first | (simp; done) | (simp; omega)) y
  have hf1 : ∀ (y : Since ((x.w.alloc (.cells #[.int .i64 r.id, .int .i64 r.rd, .int .i64 r.s0, .int .i64 r.s1, .int .i64 r.e0, .int .i64 r.e1, .bool r.op, .slice r.la r.legs.length r.lc, .slice r.pa r.pauses.length r.pc, .int .i64 r.fw, .int .i64 r.fp, .int .i64 r.wh, .int .i64 r.pl] 27)).alloc (.cells #[.int .i64 0, .int .i64 0, .int .i64 0, .int .i64 0, .int .i64 0, .int .i64 0, .bool false, .slice none 0 0, .slice none 0 0, .int .i64 0, .int .i64 0, .int .i64 0, .int .i64 0] 27))) (o : Nat), y.w.frozen? ⟨x.w.heap.size + 1, o, none⟩ = false := fun y o => Since.free (by simp [go_sem]) (by first | (simp; done) | (simp; omega)) y
  have hWup : ∃ z : Since w, ((x.w.alloc (.cells #[.int .i64 r.id, .int .i64 r.rd, .int .i64 r.s0, .int .i64 r.s1, .int .i64 r.e0, .int .i64 r.e1, .bool r.op, .slice r.la r.legs.length r.lc, .slice r.pa r.pauses.length r.pc, .int .i64 r.fw, .int .i64 r.fp, .int .i64 r.wh, .int .i64 r.pl] 27)).alloc (.cells #[.int .i64 0, .int .i64 0, .int .i64 0, .int .i64 0, .int .i64 0, .int .i64 0, .bool false, .slice none 0 0, .slice none 0 0, .int .i64 0, .int .i64 0, .int .i64 0, .int .i64 0] 27)) = z.w := Since.allocs x [.cells #[.int .i64 r.id, .int .i64 r.rd, .int .i64 r.s0, .int .i64 r.s1, .int .i64 r.e0, .int .i64 r.e1, .bool r.op, .slice r.la r.legs.length r.lc, .slice r.pa r.pauses.length r.pc, .int .i64 r.fw, .int .i64 r.fp, .int .i64 r.wh, .int .i64 r.pl] 27, .cells #[.int .i64 0, .int .i64 0, .int .i64 0, .int .i64 0, .int .i64 0, .int .i64 0, .bool false, .slice none 0 0, .slice none 0 0, .int .i64 0, .int .i64 0, .int .i64 0, .int .i64 0] 27]
  obtain ⟨y0, hy0⟩ := Since.refl ((x.w.alloc (.cells #[.int .i64 r.id, .int .i64 r.rd, .int .i64 r.s0, .int .i64 r.s1, .int .i64 r.e0, .int .i64 r.e1, .bool r.op, .slice r.la r.legs.length r.lc, .slice r.pa r.pauses.length r.pc, .int .i64 r.fw, .int .i64 r.fp, .int .i64 r.wh, .int .i64 r.pl] 27)).alloc (.cells #[.int .i64 0, .int .i64 0, .int .i64 0, .int .i64 0, .int .i64 0, .int .i64 0, .bool false, .slice none 0 0, .slice none 0 0, .int .i64 0, .int .i64 0, .int .i64 0, .int .i64 0] 27))
  have Hbx := Lib.hid (And.intro x.b.size (show x.w.heap.size + 2 = ((x.w.alloc (.cells #[.int .i64 r.id, .int .i64 r.rd, .int .i64 r.s0, .int .i64 r.s1, .int .i64 r.e0, .int .i64 r.e1, .bool r.op, .slice r.la r.legs.length r.lc, .slice r.pa r.pauses.length r.pc, .int .i64 r.fw, .int .i64 r.fp, .int .i64 r.wh, .int .i64 r.pl] 27)).alloc (.cells #[.int .i64 0, .int .i64 0, .int .i64 0, .int .i64 0, .int .i64 0, .int .i64 0, .bool false, .slice none 0 0, .slice none 0 0, .int .i64 0, .int .i64 0, .int .i64 0, .int .i64 0] 27)).heap.size from by simp))
  generalize hW : ((x.w.alloc (.cells #[.int .i64 r.id, .int .i64 r.rd, .int .i64 r.s0, .int .i64 r.s1, .int .i64 r.e0, .int .i64 r.e1, .bool r.op, .slice r.la r.legs.length r.lc, .slice r.pa r.pauses.length r.pc, .int .i64 r.fw, .int .i64 r.fp, .int .i64 r.wh, .int .i64 r.pl] 27)).alloc (.cells #[.int .i64 0, .int .i64 0, .int .i64 0, .int .i64 0, .int .i64 0, .int .i64 0, .bool false, .slice none 0 0, .slice none 0 0, .int .i64 0, .int .i64 0, .int .i64 0, .int .i64 0] 27)) = W at *
  clear hW
  generalize x.w.heap.size = bx at *
  have Hup := Lib.hid (Since.up hWup)
  rw [hy0]
  clear hy0
  replace H := Lib.hid (H.out.to hWup)
  clear hWup hf0
  go_upto_region 2 with fail
  have hx0 : (y0.w.alloc (.cells #[.int .i64 r.id, .int .i64 r.rd, .int .i64 r.s0, .int .i64 r.s1, .int .i64 r.e0, .int .i64 r.e1, .bool r.op, .slice r.la r.legs.length r.lc, .slice r.pa r.pauses.length r.pc, .int .i64 r.fw, .int .i64 r.fp, .int .i64 r.wh, .int .i64 r.pl] 27)).cell? ⟨y0.w.heap.size, 0, none⟩ = some (.int .i64 r.id) := by simp [go_sem]
  have hx1 : (y0.w.alloc (.cells #[.int .i64 r.id, .int .i64 r.rd, .int .i64 r.s0, .int .i64 r.s1, .int .i64 r.e0, .int .i64 r.e1, .bool r.op, .slice r.la r.legs.length r.lc, .slice r.pa r.pauses.length r.pc, .int .i64 r.fw, .int .i64 r.fp, .int .i64 r.wh, .int .i64 r.pl] 27)).cell? ⟨y0.w.heap.size, 1, none⟩ = some (.int .i64 r.rd) := by simp [go_sem]
  have hx2 : (y0.w.alloc (.cells #[.int .i64 r.id, .int .i64 r.rd, .int .i64 r.s0, .int .i64 r.s1, .int .i64 r.e0, .int .i64 r.e1, .bool r.op, .slice r.la r.legs.length r.lc, .slice r.pa r.pauses.length r.pc, .int .i64 r.fw, .int .i64 r.fp, .int .i64 r.wh, .int .i64 r.pl] 27)).cell? ⟨y0.w.heap.size, 2, none⟩ = some (.int .i64 r.s0) := by simp [go_sem]
  have hx3 : (y0.w.alloc (.cells #[.int .i64 r.id, .int .i64 r.rd, .int .i64 r.s0, .int .i64 r.s1, .int .i64 r.e0, .int .i64 r.e1, .bool r.op, .slice r.la r.legs.length r.lc, .slice r.pa r.pauses.length r.pc, .int .i64 r.fw, .int .i64 r.fp, .int .i64 r.wh, .int .i64 r.pl] 27)).cell? ⟨y0.w.heap.size, 3, none⟩ = some (.int .i64 r.s1) := by simp [go_sem]
  have hx4 : (y0.w.alloc (.cells #[.int .i64 r.id, .int .i64 r.rd, .int .i64 r.s0, .int .i64 r.s1, .int .i64 r.e0, .int .i64 r.e1, .bool r.op, .slice r.la r.legs.length r.lc, .slice r.pa r.pauses.length r.pc, .int .i64 r.fw, .int .i64 r.fp, .int .i64 r.wh, .int .i64 r.pl] 27)).cell? ⟨y0.w.heap.size, 4, none⟩ = some (.int .i64 r.e0) := by simp [go_sem]
  have hx5 : (y0.w.alloc (.cells #[.int .i64 r.id, .int .i64 r.rd, .int .i64 r.s0, .int .i64 r.s1, .int .i64 r.e0, .int .i64 r.e1, .bool r.op, .slice r.la r.legs.length r.lc, .slice r.pa r.pauses.length r.pc, .int .i64 r.fw, .int .i64 r.fp, .int .i64 r.wh, .int .i64 r.pl] 27)).cell? ⟨y0.w.heap.size, 5, none⟩ = some (.int .i64 r.e1) := by simp [go_sem]
  have hx6 : (y0.w.alloc (.cells #[.int .i64 r.id, .int .i64 r.rd, .int .i64 r.s0, .int .i64 r.s1, .int .i64 r.e0, .int .i64 r.e1, .bool r.op, .slice r.la r.legs.length r.lc, .slice r.pa r.pauses.length r.pc, .int .i64 r.fw, .int .i64 r.fp, .int .i64 r.wh, .int .i64 r.pl] 27)).cell? ⟨y0.w.heap.size, 6, none⟩ = some (.bool r.op) := by simp [go_sem]
  have hx7 : (y0.w.alloc (.cells #[.int .i64 r.id, .int .i64 r.rd, .int .i64 r.s0, .int .i64 r.s1, .int .i64 r.e0, .int .i64 r.e1, .bool r.op, .slice r.la r.legs.length r.lc, .slice r.pa r.pauses.length r.pc, .int .i64 r.fw, .int .i64 r.fp, .int .i64 r.wh, .int .i64 r.pl] 27)).cell? ⟨y0.w.heap.size, 7, none⟩ = some (.slice r.la r.legs.length r.lc) := by simp [go_sem]
  have hx8 : (y0.w.alloc (.cells #[.int .i64 r.id, .int .i64 r.rd, .int .i64 r.s0, .int .i64 r.s1, .int .i64 r.e0, .int .i64 r.e1, .bool r.op, .slice r.la r.legs.length r.lc, .slice r.pa r.pauses.length r.pc, .int .i64 r.fw, .int .i64 r.fp, .int .i64 r.wh, .int .i64 r.pl] 27)).cell? ⟨y0.w.heap.size, 8, none⟩ = some (.slice r.pa r.pauses.length r.pc) := by simp [go_sem]
  have hx9 : (y0.w.alloc (.cells #[.int .i64 r.id, .int .i64 r.rd, .int .i64 r.s0, .int .i64 r.s1, .int .i64 r.e0, .int .i64 r.e1, .bool r.op, .slice r.la r.legs.length r.lc, .slice r.pa r.pauses.length r.pc, .int .i64 r.fw, .int .i64 r.fp, .int .i64 r.wh, .int .i64 r.pl] 27)).cell? ⟨y0.w.heap.size, 9, none⟩ = some (.int .i64 r.fw) := by simp [go_sem]
  have hx10 : (y0.w.alloc (.cells #[.int .i64 r.id, .int .i64 r.rd, .int .i64 r.s0, .int .i64 r.s1, .int .i64 r.e0, .int .i64 r.e1, .bool r.op, .slice r.la r.legs.length r.lc, .slice r.pa r.pauses.length r.pc, .int .i64 r.fw, .int .i64 r.fp, .int .i64 r.wh, .int .i64 r.pl] 27)).cell? ⟨y0.w.heap.size, 10, none⟩ = some (.int .i64 r.fp) := by simp [go_sem]
  have hx11 : (y0.w.alloc (.cells #[.int .i64 r.id, .int .i64 r.rd, .int .i64 r.s0, .int .i64 r.s1, .int .i64 r.e0, .int .i64 r.e1, .bool r.op, .slice r.la r.legs.length r.lc, .slice r.pa r.pauses.length r.pc, .int .i64 r.fw, .int .i64 r.fp, .int .i64 r.wh, .int .i64 r.pl] 27)).cell? ⟨y0.w.heap.size, 11, none⟩ = some (.int .i64 r.wh) := by simp [go_sem]
  have hx12 : (y0.w.alloc (.cells #[.int .i64 r.id, .int .i64 r.rd, .int .i64 r.s0, .int .i64 r.s1, .int .i64 r.e0, .int .i64 r.e1, .bool r.op, .slice r.la r.legs.length r.lc, .slice r.pa r.pauses.length r.pc, .int .i64 r.fw, .int .i64 r.fp, .int .i64 r.wh, .int .i64 r.pl] 27)).cell? ⟨y0.w.heap.size, 12, none⟩ = some (.int .i64 r.pl) := by simp [go_sem]
  have hxf : ∀ o, (y0.w.alloc (.cells #[.int .i64 r.id, .int .i64 r.rd, .int .i64 r.s0, .int .i64 r.s1, .int .i64 r.e0, .int .i64 r.e1, .bool r.op, .slice r.la r.legs.length r.lc, .slice r.pa r.pauses.length r.pc, .int .i64 r.fw, .int .i64 r.fp, .int .i64 r.wh, .int .i64 r.pl] 27)).frozen? ⟨y0.w.heap.size, o, none⟩ = false := fun o => by simp [go_sem]
  have hlt0 : y0.w.heap.size < (y0.w.alloc (.cells #[.int .i64 r.id, .int .i64 r.rd, .int .i64 r.s0, .int .i64 r.s1, .int .i64 r.e0, .int .i64 r.e1, .bool r.op, .slice r.la r.legs.length r.lc, .slice r.pa r.pauses.length r.pc, .int .i64 r.fw, .int .i64 r.fp, .int .i64 r.wh, .int .i64 r.pl] 27)).heap.size := by simp
  have hst0 : ∃ zz : Since y0.w, (y0.w.alloc (.cells #[.int .i64 r.id, .int .i64 r.rd, .int .i64 r.s0, .int .i64 r.s1, .int .i64 r.e0, .int .i64 r.e1, .bool r.op, .slice r.la r.legs.length r.lc, .slice r.pa r.pauses.length r.pc, .int .i64 r.fw, .int .i64 r.fp, .int .i64 r.wh, .int .i64 r.pl] 27)) = zz.w := IsSince.alloc (IsSince.self _) _
  have hsz0 := y0.b.size
  obtain ⟨y1, e2⟩ := IsSince.alloc (IsSince.of y0) (.cells #[.int .i64 r.id, .int .i64 r.rd, .int .i64 r.s0, .int .i64 r.s1, .int .i64 r.e0, .int .i64 r.e1, .bool r.op, .slice r.la r.legs.length r.lc, .slice r.pa r.pauses.length r.pc, .int .i64 r.fw, .int .i64 r.fp, .int .i64 r.wh, .int .i64 r.pl] 27)
  rw [e2] at hx0 hx1 hx2 hx3 hx4 hx5 hx6 hx7 hx8 hx9 hx10 hx11 hx12 hxf hlt0 hst0 ⊢
  (have hbx := BoxIs.new y0.w [.int .i64 r.id, .int .i64 r.rd, .int .i64 r.s0, .int .i64 r.s1, .int .i64 r.e0, .int .i64 r.e1, .bool r.op, .slice r.la r.legs.length r.lc, .slice r.pa r.pauses.length r.pc, .int .i64 r.fw, .int .i64 r.fp, .int .i64 r.wh, .int .i64 r.pl] 27; rw [e2] at hbx)
  clear e2 hst0
  generalize y0.w.heap.size = gx at *
  have Hhx0 : ∀ q : Since y1.w, q.w.cell? ⟨gx, 0, none⟩ = some (.int .i64 r.id) := fun q => Since.cell hx0 (by omega) q
  have Hhx1 : ∀ q : Since y1.w, q.w.cell? ⟨gx, 1, none⟩ = some (.int .i64 r.rd) := fun q => Since.cell hx1 (by omega) q
  have Hhx2 : ∀ q : Since y1.w, q.w.cell? ⟨gx, 2, none⟩ = some (.int .i64 r.s0) := fun q => Since.cell hx2 (by omega) q
  have Hhx3 : ∀ q : Since y1.w, q.w.cell? ⟨gx, 3, none⟩ = some (.int .i64 r.s1) := fun q => Since.cell hx3 (by omega) q
  have Hhx4 : ∀ q : Since y1.w, q.w.cell? ⟨gx, 4, none⟩ = some (.int .i64 r.e0) := fun q => Since.cell hx4 (by omega) q
  have Hhx5 : ∀ q : Since y1.w, q.w.cell? ⟨gx, 5, none⟩ = some (.int .i64 r.e1) := fun q => Since.cell hx5 (by omega) q
  have Hhx6 : ∀ q : Since y1.w, q.w.cell? ⟨gx, 6, none⟩ = some (.bool r.op) := fun q => Since.cell hx6 (by omega) q
  have Hhx7 : ∀ q : Since y1.w, q.w.cell? ⟨gx, 7, none⟩ = some (.slice r.la r.legs.length r.lc) := fun q => Since.cell hx7 (by omega) q
  have Hhx8 : ∀ q : Since y1.w, q.w.cell? ⟨gx, 8, none⟩ = some (.slice r.pa r.pauses.length r.pc) := fun q => Since.cell hx8 (by omega) q
  have Hhx9 : ∀ q : Since y1.w, q.w.cell? ⟨gx, 9, none⟩ = some (.int .i64 r.fw) := fun q => Since.cell hx9 (by omega) q
  have Hhx10 : ∀ q : Since y1.w, q.w.cell? ⟨gx, 10, none⟩ = some (.int .i64 r.fp) := fun q => Since.cell hx10 (by omega) q
  have Hhx11 : ∀ q : Since y1.w, q.w.cell? ⟨gx, 11, none⟩ = some (.int .i64 r.wh) := fun q => Since.cell hx11 (by omega) q
  have Hhx12 : ∀ q : Since y1.w, q.w.cell? ⟨gx, 12, none⟩ = some (.int .i64 r.pl) := fun q => Since.cell hx12 (by omega) q
  have Hhxf : ∀ (q : Since y1.w) (o : Nat), q.w.frozen? ⟨gx, o, none⟩ = false := fun q o => Since.free (hxf o) (by omega) q
  have Hhxg := Lib.hid (And.intro hsz0 hlt0)
  clear hlt0 hsz0
  have HX := Lib.hid hbx
  have Hgx := Lib.hid Hhxg.out.1
  clear hbx hx0 Hhx0 hx1 Hhx1 hx2 Hhx2 hx3 Hhx3 hx4 Hhx4 hx5 Hhx5 hx6 Hhx6 hx7 Hhx7 hx8 Hhx8 hx9 Hhx9 hx10 Hhx10 hx11 Hhx11 hx12 Hhx12 hxf Hhxf
  have hxf2 := HX.out.f
  go_upto_region 3 with (go_at_call 48; ((with_reducible refine (least_s (W := W) _ (IsSince.of y1) r.s0 r.s1).mono ?_); rintro _ _ ⟨rfl, y2, rfl, hz⟩; replace HX := Lib.hid (HX.out.to hz); have hxf3 := HX.out.f; have hxc2 := HX.out.c 2 _ rfl; have hxc3 := HX.out.c 3 _ rfl; clear hz))
  clear hxf2 hxf3 hxc2 hxc3
  have hX9 := (HX.out.setj (j := 2) (by simp) (.int .i64 r.s0)).setj (j := 3) (by simp) (.int .i64 r.s0)
  obtain ⟨z1, h1⟩ := y2.set ⟨gx, 2, none⟩ Hgx.out (.int .i64 r.s0)
  obtain ⟨y3, h2⟩ := z1.set ⟨gx, 3, none⟩ Hgx.out (.int .i64 r.s0)
  rw [← h1] at h2
  rw [h2] at hX9 ⊢
  replace HX := Lib.hid hX9
  clear hX9 h1 h2
  have hxf2 := HX.out.f
  go_upto_region 4 with (go_at_call 48; ((with_reducible refine (least_s (W := W) _ (IsSince.of y3) r.e0 r.e1).mono ?_); rintro _ _ ⟨rfl, y4, rfl, hz⟩; replace HX := Lib.hid (HX.out.to hz); have hxf3 := HX.out.f; have hxc2 := HX.out.c 4 _ rfl; have hxc3 := HX.out.c 5 _ rfl; clear hz))
  clear hxf2 hxf3 hxc2 hxc3
  have hX9 := (HX.out.setj (j := 4) (by simp) (.int .i64 r.e0)).setj (j := 5) (by simp) (.int .i64 r.e0)
  obtain ⟨z1, h1⟩ := y4.set ⟨gx, 4, none⟩ Hgx.out (.int .i64 r.e0)
  obtain ⟨y5, h2⟩ := z1.set ⟨gx, 5, none⟩ Hgx.out (.int .i64 r.e0)
  rw [← h1] at h2
  rw [h2] at hX9 ⊢
  replace HX := Lib.hid hX9
  clear hX9 h1 h2
  have hxf2 := HX.out.f
  have hxc2 := HX.out.c 7 _ rfl
  go_upto_region 5 with fail
  clear hxf2 hxc2
  have hX9 := HX.out.setj (j := 7) (by simp) (.slice none 0 0)
  obtain ⟨y6, h2⟩ := y5.set ⟨gx, 7, none⟩ Hgx.out (.slice none 0 0)
  rw [h2] at hX9 ⊢
  replace HX := Lib.hid hX9
  clear hX9 h2
  have hxf2 := HX.out.f
  have hxc2 := HX.out.c 8 _ rfl
  go_upto_region 6 with fail
  clear hxf2 hxc2
  have hX9 := HX.out.setj (j := 8) (by simp) (.slice none 0 0)
  obtain ⟨y7, h2⟩ := y6.set ⟨gx, 8, none⟩ Hgx.out (.slice none 0 0)
  rw [h2] at hX9 ⊢
  replace HX := Lib.hid hX9
  clear hX9 h2
  replace HX := Lib.hid (show BoxIs y7.w gx [.int .i64 r.id, .int .i64 r.rd, .int .i64 r.s0, .int .i64 r.s0, .int .i64 r.e0, .int .i64 r.e0, .bool r.op, .slice none 0 0, .slice none 0 0, .int .i64 r.fw, .int .i64 r.fp, .int .i64 r.wh, .int .i64 r.pl] from HX.out)
  obtain ⟨n, hn⟩ : ∃ n, n = r.legs.length := ⟨_, rfl⟩
  rw [← hn] at hlm hb0_7
  have Hn := Lib.hid hn
  clear hn Hhxg
  go_wp2_with fail
  go_loopw [4] (fun si wr => ∃ (k : Nat) (v : Value) (y : Since W), k ≤ n ∧ si = .int .i64 (k : Int) ∧ wr = y.w ∧ BoxIs y.w gx [.int .i64 r.id, .int .i64 r.rd, .int .i64 r.s0, .int .i64 r.s0, .int .i64 r.e0, .int .i64 r.e0, .bool r.op, v, .slice none 0 0, .int .i64 r.fw, .int .i64 r.fp, .int .i64 r.wh, .int .i64 r.pl] ∧ y.w.ownsRow W.heap.size 60 5 v k (flat Leg.cs ((r.legs.take k).map exL)) ∧ (∀ b, v.ownBlock = some b → b ≠ gx)) (fun si _ => n - (intOf si).toNat)
  case atStart => exact ⟨0, .slice none 0 0, y7, by omega, rfl, rfl, HX.out, ⟨rfl, .inl ⟨rfl, rfl⟩⟩, fun b hb => by cases hb⟩
  case round =>
    obtain ⟨k, v, y, hk, rfl, rfl, hX, hown, hdis⟩ := hrel
    replace HX := Lib.hid hX
    have Hown := Lib.hid hown
    have Hdis := Lib.hid hdis
    clear hX hown hdis
    by_cases hlt : k < n
    · have hk0 : (0 : Int) ≤ (k : Int) := by omega
      have hkl : (k : Int) < (n : Int) := by omega
      obtain ⟨e, he⟩ : ∃ e, r.legs[k]? = some e := ⟨_, List.getElem?_eq_getElem (by have := Hn.out; omega)⟩
      obtain ⟨b1, off1, hal, h1'⟩ := Els.leg H.out.l he
      have Htk := Lib.hid (show r.legs.take (k + 1) = r.legs.take k ++ [e] by rw [List.take_add_one, he]; rfl)
      rw [hal] at hb0_7
      have ra0 := h1'.c0
      have ra1 := h1'.c1
      have ra2 := h1'.c2
      have ra3 := h1'.c3
      have ra4 := h1'.c4
      clear h1' he hal
      have k7 := fun w' (h : IsSince W w') => IsSince.cell hb0_7 h
      have j0 := fun w' (h : IsSince W w') => IsSince.cell ra0 h
      have j1 := fun w' (h : IsSince W w') => IsSince.cell ra1 h
      have j2 := fun w' (h : IsSince W w') => IsSince.cell ra2 h
      have j3 := fun w' (h : IsSince W w') => IsSince.cell ra3 h
      have j4 := fun w' (h : IsSince W w') => IsSince.cell ra4 h
      clear ra0 ra1 ra2 ra3 ra4
      go_wp2_with fail
      clear hb0_7
      have hxc := HX.out.c 7 _ rfl
      refine wp_region_M (fun w' => IsSince W w' ∧ w'.cell? ⟨gx, 7, none⟩ = some v) 26 (by kernel_rfl) ⟨IsSince.drew' (IsSince.of y), hxc⟩ (fun hS => ?_)
      refine wpAnyM_take (i := 0) (v := ?_) rfl (by kernel_rfl) (by kernel_rfl) (by kernel_rfl) (by kernel_rfl) (fun _ _ _ h => h) hS (Or.inl ⟨by rfl, ?_⟩) ?_
      rotate_left
      · (intro w hSw; (try dsimp only at hSw); go_split_ands; go_simp; try (with_reducible rfl))
      (try simp only [Act.put, List.setIfInBounds_toArray, List.set_cons_zero, List.set_cons_succ])
      refine wpAnyM_take (i := 1) (v := ?_) rfl (by kernel_rfl) (by kernel_rfl) (by kernel_rfl) (by kernel_rfl) (fun _ _ _ h => h) hS (Or.inl ⟨by rfl, ?_⟩) ?_
      rotate_left
      · (intro w hSw; (try dsimp only at hSw); go_split_ands; go_simp; try (with_reducible rfl))
      (try simp only [Act.put, List.setIfInBounds_toArray, List.set_cons_zero, List.set_cons_succ])
      refine wpAnyM_take (i := 2) (v := ?_) rfl (by kernel_rfl) (by kernel_rfl) (by kernel_rfl) (by kernel_rfl) (fun _ _ _ h => h) hS (Or.inl ⟨by rfl, ?_⟩) ?_
      rotate_left
      · (intro w hSw; (try dsimp only at hSw); go_split_ands; go_simp; try (with_reducible rfl))
      (try simp only [Act.put, List.setIfInBounds_toArray, List.set_cons_zero, List.set_cons_succ])
      refine wpAnyM_take (i := 3) (v := ?_) rfl (by kernel_rfl) (by kernel_rfl) (by kernel_rfl) (by kernel_rfl) (fun _ _ _ h => h) hS (Or.inl ⟨by rfl, ?_⟩) ?_
      rotate_left
      · (intro w hSw; (try dsimp only at hSw); go_split_ands; go_simp; try (with_reducible rfl))
      (try simp only [Act.put, List.setIfInBounds_toArray, List.set_cons_zero, List.set_cons_succ])
      refine wpAnyM_take (i := 4) (v := ?_) rfl (by kernel_rfl) (by kernel_rfl) (by kernel_rfl) (by kernel_rfl) (fun _ _ _ h => h) hS (Or.inl ⟨by rfl, ?_⟩) ?_
      rotate_left
      · (intro w hSw; (try dsimp only at hSw); go_split_ands; go_simp; try (with_reducible rfl))
      (try simp only [Act.put, List.setIfInBounds_toArray, List.set_cons_zero, List.set_cons_succ])
      refine wpAnyM_take (i := 5) (v := ?_) rfl (by kernel_rfl) (by kernel_rfl) (by kernel_rfl) (by kernel_rfl) (fun _ _ _ h => h) hS (Or.inl ⟨by rfl, ?_⟩) ?_
      rotate_left
      · (intro w hSw; (try dsimp only at hSw); go_split_ands; go_simp; try (with_reducible rfl))
      (try simp only [Act.put, List.setIfInBounds_toArray, List.set_cons_zero, List.set_cons_succ])
      refine wpAnyM_take (i := 6) (v := ?_) rfl (by kernel_rfl) (by kernel_rfl) (by kernel_rfl) (by kernel_rfl) (fun _ _ _ h => h) hS (Or.inl ⟨by rfl, ?_⟩) ?_
      rotate_left
      · (intro w hSw; (try dsimp only at hSw); go_split_ands; go_simp; try (with_reducible rfl))
      (try simp only [Act.put, List.setIfInBounds_toArray, List.set_cons_zero, List.set_cons_succ])
      refine wpAnyM_take (i := 7) (v := ?_) rfl (by kernel_rfl) (by kernel_rfl) (by kernel_rfl) (by kernel_rfl) (fun _ _ _ h => h) hS (Or.inl ⟨by rfl, ?_⟩) ?_
      rotate_left
      · (intro w hSw; (try dsimp only at hSw); go_split_ands; go_simp; try (with_reducible rfl))
      (try simp only [Act.put, List.setIfInBounds_toArray, List.set_cons_zero, List.set_cons_succ])
      refine wpAnyM_take (i := 8) (v := ?_) rfl (by kernel_rfl) (by kernel_rfl) (by kernel_rfl) (by kernel_rfl) (fun _ _ _ h => h) hS (Or.inl ⟨by rfl, ?_⟩) ?_
      rotate_left
      · (intro w hSw; (try dsimp only at hSw); go_split_ands; go_simp; try (with_reducible rfl))
      (try simp only [Act.put, List.setIfInBounds_toArray, List.set_cons_zero, List.set_cons_succ])
      refine wpAnyM_take (i := 9) (v := ?_) rfl (by kernel_rfl) (by kernel_rfl) (by kernel_rfl) (by kernel_rfl) (fun _ _ _ h => h) hS (Or.inl ⟨by rfl, ?_⟩) ?_
      rotate_left
      · (intro w hSw; (try dsimp only at hSw); go_split_ands; go_simp; try (with_reducible rfl))
      (try simp only [Act.put, List.setIfInBounds_toArray, List.set_cons_zero, List.set_cons_succ])
      refine wpAnyM_take (i := 10) (v := ?_) rfl (by kernel_rfl) (by kernel_rfl) (by kernel_rfl) (by kernel_rfl) (fun _ _ _ h => h) hS (Or.inl ⟨by rfl, ?_⟩) ?_
      rotate_left
      · (intro w hSw; (try dsimp only at hSw); go_split_ands; go_simp; try (with_reducible rfl))
      (try simp only [Act.put, List.setIfInBounds_toArray, List.set_cons_zero, List.set_cons_succ])
      refine wpAnyM_take (i := 11) (v := ?_) rfl (by kernel_rfl) (by kernel_rfl) (by kernel_rfl) (by kernel_rfl) (fun _ _ _ h => h) hS (Or.inl ⟨by rfl, ?_⟩) ?_
      rotate_left
      · (intro w hSw; (try dsimp only at hSw); go_split_ands; go_simp; try (with_reducible rfl))
      (try simp only [Act.put, List.setIfInBounds_toArray, List.set_cons_zero, List.set_cons_succ])
      refine wpAnyM_take (i := 12) (v := ?_) rfl (by kernel_rfl) (by kernel_rfl) (by kernel_rfl) (by kernel_rfl) (fun _ _ _ h => h) hS (Or.inl ⟨by rfl, ?_⟩) ?_
      rotate_left
      · (intro w hSw; (try dsimp only at hSw); go_split_ands; go_simp; try (with_reducible rfl))
      (try simp only [Act.put, List.setIfInBounds_toArray, List.set_cons_zero, List.set_cons_succ])
      refine wpAnyM_take (i := 13) (v := ?_) rfl (by kernel_rfl) (by kernel_rfl) (by kernel_rfl) (by kernel_rfl) (fun _ _ _ h => h) hS (Or.inl ⟨by rfl, ?_⟩) ?_
      rotate_left
      · (intro w hSw; (try dsimp only at hSw); go_split_ands; go_simp; try (with_reducible rfl))
      (try simp only [Act.put, List.setIfInBounds_toArray, List.set_cons_zero, List.set_cons_succ])
      refine wpAnyM_take (i := 15) (v := ?_) rfl (by kernel_rfl) (by kernel_rfl) (by kernel_rfl) (by kernel_rfl) (fun _ _ _ h => h) hS (Or.inl ⟨by rfl, ?_⟩) ?_
      rotate_left
      · (intro w hSw; (try dsimp only at hSw); go_split_ands; go_simp; try (with_reducible rfl))
      (try simp only [Act.put, List.setIfInBounds_toArray, List.set_cons_zero, List.set_cons_succ])
      refine wpAnyM_take (i := 16) (v := ?_) rfl (by kernel_rfl) (by kernel_rfl) (by kernel_rfl) (by kernel_rfl) (fun _ _ _ h => h) hS (Or.inl ⟨by rfl, ?_⟩) ?_
      rotate_left
      · (intro w hSw; (try dsimp only at hSw); go_split_ands; go_simp; try (with_reducible rfl))
      (try simp only [Act.put, List.setIfInBounds_toArray, List.set_cons_zero, List.set_cons_succ])
      refine wpAnyM_take (i := 17) (v := ?_) rfl (by kernel_rfl) (by kernel_rfl) (by kernel_rfl) (by kernel_rfl) (fun _ _ _ h => h) hS (Or.inl ⟨by rfl, ?_⟩) ?_
      rotate_left
      · (intro w hSw; (try dsimp only at hSw); go_split_ands; go_simp; try (with_reducible rfl))
      (try simp only [Act.put, List.setIfInBounds_toArray, List.set_cons_zero, List.set_cons_succ])
      refine wpAnyM_take (i := 18) (v := ?_) rfl (by kernel_rfl) (by kernel_rfl) (by kernel_rfl) (by kernel_rfl) (fun _ _ _ h => h) hS (Or.inl ⟨by rfl, ?_⟩) ?_
      rotate_left
      · (intro w hSw; (try dsimp only at hSw); go_split_ands; go_simp; try (with_reducible rfl))
      (try simp only [Act.put, List.setIfInBounds_toArray, List.set_cons_zero, List.set_cons_succ])
      refine wpAnyM_take (i := 19) (v := ?_) rfl (by kernel_rfl) (by kernel_rfl) (by kernel_rfl) (by kernel_rfl) (fun _ _ _ h => h) hS (Or.inl ⟨by rfl, ?_⟩) ?_
      rotate_left
      · (intro w hSw; (try dsimp only at hSw); go_split_ands; go_simp; try (with_reducible rfl))
      (try simp only [Act.put, List.setIfInBounds_toArray, List.set_cons_zero, List.set_cons_succ])
      refine wpAnyM_take (i := 20) (v := ?_) rfl (by kernel_rfl) (by kernel_rfl) (by kernel_rfl) (by kernel_rfl) (fun _ _ _ h => h) hS (Or.inl ⟨by rfl, ?_⟩) ?_
      rotate_left
      · (intro w hSw; (try dsimp only at hSw); go_split_ands; go_simp; try (with_reducible rfl))
      (try simp only [Act.put, List.setIfInBounds_toArray, List.set_cons_zero, List.set_cons_succ])
      refine wpAnyM_one (i := 14) (by kernel_rfl) rfl (fun K hK => ?_)
      (go_simp; (with_reducible refine (least_s (W := W) _ hS.1 e.f0 e.f1).mono ?_); rintro _ _ ⟨rfl, z1, rfl, hz1⟩; have hA := HX.out.drew.to hz1; have hO := own_to (own_to Hown.out (IsSince.drew' (IsSince.self _))) hz1)
      refine hK.out _ _ (Or.inr (⟨IsSince.of z1, hA.c 7 _ rfl⟩)) (fun hS' => ?_)
      replace hS := hS'.resolve_left (by decide)
      clear hK K hS'
      (try simp only [Act.put, List.setIfInBounds_toArray, List.set_cons_zero, List.set_cons_succ])
      refine wpAnyM_one (i := 21) (by kernel_rfl) rfl (fun K hK => ?_)
      (go_simp; (with_reducible refine (least_s (W := W) _ hS.1 e.t0 e.t1).mono ?_); rintro _ _ ⟨rfl, z2, rfl, hz2⟩; replace hA := hA.to hz2; replace hO := own_to hO hz2)
      refine hK.out _ _ (Or.inr (⟨IsSince.of z2, hA.c 7 _ rfl⟩)) (fun hS' => ?_)
      replace hS := hS'.resolve_left (by decide)
      clear hK K hS'
      (try simp only [Act.put, List.setIfInBounds_toArray, List.set_cons_zero, List.set_cons_succ])
      refine wpAnyM_take (i := 22) (v := ?_) rfl (by kernel_rfl) (by kernel_rfl) (by kernel_rfl) (by kernel_rfl) (fun _ _ _ h => h) hS (Or.inl ⟨by rfl, ?_⟩) ?_
      rotate_left
      · (intro w hSw; (try dsimp only at hSw); go_split_ands; go_simp; try (with_reducible rfl))
      (try simp only [Act.put, List.setIfInBounds_toArray, List.set_cons_zero, List.set_cons_succ])
      refine wpAnyM_one (i := 23) (by kernel_rfl) rfl (fun K hK => ?_)
      go_simp
      refine hK.out _ _ (Or.inr (⟨IsSince.alloc (IsSince.of z2) _, (hA.up _).c 7 _ rfl⟩)) (fun hS' => ?_)
      replace hS := hS'.resolve_left (by decide)
      clear hK K hS'
      (try simp only [Act.put, List.setIfInBounds_toArray, List.set_cons_zero, List.set_cons_succ])
      refine wpAnyM_one (i := 24) (by kernel_rfl) rfl (fun K hK => ?_)
      (refine step_appL (k := 5) (w0 := W) hS.1 rfl _ _ 24 rfl W.heap.size (Nat.le_refl _) (IsSince.size hS.1) 60 (.agg #[.int .i64 0, .int .i64 0, .int .i64 0, .int .i64 0, .int .i64 0]) 40 sLegX v k (flat Leg.cs ((r.legs.take k).map exL)) rfl (own_up hO) ⟨z2.w.heap.size, 0, none⟩ 1 1 (exL e).cs rfl rfl (blk_cells _ _ rfl) (legX_one _) Nat.one_pos (by unfold maxLen; omega) (by omega) ?_; intro v2 q2 hown2 hg2 hl2; obtain ⟨a2, n2, c2, rfl⟩ := own_slice hown2; have hX2 := (hA.up _).grown hg2 (fun h => Hdis.out gx h.symm rfl); have hxc2 := hX2.c 7 _ rfl; have hxf2 := hX2.f)
      refine hK.out _ _ (Or.inr (⟨IsSince.of q2, hxc2⟩)) (fun hS' => ?_)
      replace hS := hS'.resolve_left (by decide)
      clear hK K hS'
      (try simp only [Act.put, List.setIfInBounds_toArray, List.set_cons_zero, List.set_cons_succ])
      refine wpAnyM_take (i := 25) (v := ?_) rfl (by kernel_rfl) (by kernel_rfl) (by kernel_rfl) (by kernel_rfl) (fun _ _ _ h => h) hS (Or.inl ⟨by rfl, ?_⟩) ?_
      rotate_left
      · (intro w hSw; (try dsimp only at hSw); go_split_ands; go_simp; try (with_reducible rfl))
      (try simp only [Act.put, List.setIfInBounds_toArray, List.set_cons_zero, List.set_cons_succ])
      refine wpAnyM_one (i := 26) (by kernel_rfl) rfl (fun K hK => ?_)
      go_simp
      refine hK.out _ _ (Or.inl rfl) (fun _ => ?_)
      clear hK K hS
      (try simp only [Act.put, List.setIfInBounds_toArray, List.set_cons_zero, List.set_cons_succ])
      refine wpAnyM_done (by kernel_rfl) ?_
      obtain ⟨y3, h3⟩ := q2.set ⟨gx, 7, none⟩ Hgx.out (.slice a2 n2 c2)
      have hX3 := hX2.setj (j := 7) (by simp) (.slice a2 n2 c2)
      have hd2 : ∀ b, (Value.slice a2 n2 c2).ownBlock = some b → b ≠ gx := fun b hb => by
        rcases hl2 b hb with h1 | h1
        · exact Hdis.out b h1
        · have := hA.lt; simp at h1; omega
      have hO3 := own_setB hown2 ⟨gx, 7, none⟩ (.slice a2 n2 c2) hd2
      rw [h3] at hX3 hO3 ⊢
      have HX3 := Lib.hid (show BoxIs y3.w gx [.int .i64 r.id, .int .i64 r.rd, .int .i64 r.s0, .int .i64 r.s0, .int .i64 r.e0, .int .i64 r.e0, .bool r.op, .slice a2 n2 c2, .slice none 0 0, .int .i64 r.fw, .int .i64 r.fp, .int .i64 r.wh, .int .i64 r.pl] from hX3)
      have HO3 := Lib.hid (show y3.w.ownsRow W.heap.size 60 5 (.slice a2 n2 c2) (k + 1) (flat Leg.cs ((r.legs.take (k + 1)).map exL)) by rw [Htk.out, List.map_append, flat_append]; simp only [List.map_cons, List.map_nil, flat_one]; exact hO3)
      have Hd2 := Lib.hid hd2
      clear hX3 hO3 h3 hd2 hX2 hxc2 hxf2 hown2 hg2 hl2 hA hO hz1 hz2 hxc k7 j0 j1 j2 j3 j4 Htk
      go_wp2_with fail
      go_roundw
      case rel => exact ⟨k + 1, .slice a2 n2 c2, y3, by omega, by go_num, rfl, HX3.out, HO3.out, Hd2.out⟩
      case measure => simp [intOf] <;> omega
    · obtain rfl : k = n := by omega
      obtain ⟨hx1, al, cl, rfl, hx2, hx3, hx4, hx5⟩ := own_els (l := (r.legs.take k).map exL) Leg.len (by decide) Hown.out
      have hlk : ((r.legs.take k).map exL).length = k := by rw [List.length_map, List.length_take]; have := Hn.out; omega
      rw [hlk] at HX Hown Hdis hx2 hx5
      clear hx1 hx2 hx3 hx4 hx5 hlk
      have HownL := Lib.hid Hown.out
      have HdisL := Lib.hid Hdis.out
      clear Hown Hdis
      obtain ⟨n2, hn2⟩ : ∃ n2, n2 = r.pauses.length := ⟨_, rfl⟩
      rw [← hn2] at hpm hb0_8
      have Hn2 := Lib.hid hn2
      clear hn2 hlt
      have hdone : ¬ (k : Int) < (k : Int) := by omega
      go_wp2_with fail
      clear hdone
      go_loopw [5] (fun si wr => ∃ (j : Nat) (v : Value) (z : Since W), j ≤ n2 ∧ si = .int .i64 (j : Int) ∧ wr = z.w ∧ BoxIs z.w gx [.int .i64 r.id, .int .i64 r.rd, .int .i64 r.s0, .int .i64 r.s0, .int .i64 r.e0, .int .i64 r.e0, .bool r.op, .slice al k cl, v, .int .i64 r.fw, .int .i64 r.fp, .int .i64 r.wh, .int .i64 r.pl] ∧ z.w.ownsRow W.heap.size 52 4 v j (flat Pse.cs ((r.pauses.take j).map exP)) ∧ (∀ b, v.ownBlock = some b → b ≠ gx) ∧ z.w.ownsRow W.heap.size 60 5 (.slice al k cl) k (flat Leg.cs ((r.legs.take k).map exL))) (fun si _ => n2 - (intOf si).toNat)
      case atStart => exact ⟨0, .slice none 0 0, y, by omega, rfl, rfl, HX.out, ⟨rfl, .inl ⟨rfl, rfl⟩⟩, (fun b hb => by cases hb), HownL.out⟩
      case round =>
        obtain ⟨j, v, z, hj, rfl, rfl, hX, hown, hdis, hownL⟩ := hrel
        replace HX := Lib.hid hX
        have Hown := Lib.hid hown
        have Hdis := Lib.hid hdis
        replace HownL := Lib.hid hownL
        clear hX hown hdis hownL
        by_cases hlt : j < n2
        · have hk0 : (0 : Int) ≤ (j : Int) := by omega
          have hkl : (j : Int) < (n2 : Int) := by omega
          obtain ⟨e, he⟩ : ∃ e, r.pauses[j]? = some e := ⟨_, List.getElem?_eq_getElem (by have := Hn2.out; omega)⟩
          obtain ⟨b1, off1, hal, h1'⟩ := Els.pse H.out.p he
          have Htk := Lib.hid (show r.pauses.take (j + 1) = r.pauses.take j ++ [e] by rw [List.take_add_one, he]; rfl)
          rw [hal] at hb0_8
          have ra0 := h1'.c0
          have ra1 := h1'.c1
          have ra2 := h1'.c2
          have ra3 := h1'.c3
          clear h1' he hal
          have k8 := fun w' (h : IsSince W w') => IsSince.cell hb0_8 h
          have j0 := fun w' (h : IsSince W w') => IsSince.cell ra0 h
          have j1 := fun w' (h : IsSince W w') => IsSince.cell ra1 h
          have j2 := fun w' (h : IsSince W w') => IsSince.cell ra2 h
          have j3 := fun w' (h : IsSince W w') => IsSince.cell ra3 h
          clear ra0 ra1 ra2 ra3
          go_wp2_with fail
          clear hb0_8
          have hxc := HX.out.c 8 _ rfl
          refine wp_region_M (fun w' => IsSince W w' ∧ w'.cell? ⟨gx, 8, none⟩ = some v) 20 (by kernel_rfl) ⟨IsSince.drew' (IsSince.of z), hxc⟩ (fun hS => ?_)
          refine wpAnyM_take (i := 0) (v := ?_) rfl (by kernel_rfl) (by kernel_rfl) (by kernel_rfl) (by kernel_rfl) (fun _ _ _ h => h) hS (Or.inl ⟨by rfl, ?_⟩) ?_
          rotate_left
          · (intro w hSw; (try dsimp only at hSw); go_split_ands; go_simp; try (with_reducible rfl))
          (try simp only [Act.put, List.setIfInBounds_toArray, List.set_cons_zero, List.set_cons_succ])
          refine wpAnyM_take (i := 1) (v := ?_) rfl (by kernel_rfl) (by kernel_rfl) (by kernel_rfl) (by kernel_rfl) (fun _ _ _ h => h) hS (Or.inl ⟨by rfl, ?_⟩) ?_
          rotate_left
          · (intro w hSw; (try dsimp only at hSw); go_split_ands; go_simp; try (with_reducible rfl))
          (try simp only [Act.put, List.setIfInBounds_toArray, List.set_cons_zero, List.set_cons_succ])
          refine wpAnyM_take (i := 2) (v := ?_) rfl (by kernel_rfl) (by kernel_rfl) (by kernel_rfl) (by kernel_rfl) (fun _ _ _ h => h) hS (Or.inl ⟨by rfl, ?_⟩) ?_
          rotate_left
          · (intro w hSw; (try dsimp only at hSw); go_split_ands; go_simp; try (with_reducible rfl))
          (try simp only [Act.put, List.setIfInBounds_toArray, List.set_cons_zero, List.set_cons_succ])
          refine wpAnyM_take (i := 3) (v := ?_) rfl (by kernel_rfl) (by kernel_rfl) (by kernel_rfl) (by kernel_rfl) (fun _ _ _ h => h) hS (Or.inl ⟨by rfl, ?_⟩) ?_
          rotate_left
          · (intro w hSw; (try dsimp only at hSw); go_split_ands; go_simp; try (with_reducible rfl))
          (try simp only [Act.put, List.setIfInBounds_toArray, List.set_cons_zero, List.set_cons_succ])
          refine wpAnyM_take (i := 4) (v := ?_) rfl (by kernel_rfl) (by kernel_rfl) (by kernel_rfl) (by kernel_rfl) (fun _ _ _ h => h) hS (Or.inl ⟨by rfl, ?_⟩) ?_
          rotate_left
          · (intro w hSw; (try dsimp only at hSw); go_split_ands; go_simp; try (with_reducible rfl))
          (try simp only [Act.put, List.setIfInBounds_toArray, List.set_cons_zero, List.set_cons_succ])
          refine wpAnyM_take (i := 5) (v := ?_) rfl (by kernel_rfl) (by kernel_rfl) (by kernel_rfl) (by kernel_rfl) (fun _ _ _ h => h) hS (Or.inl ⟨by rfl, ?_⟩) ?_
          rotate_left
          · (intro w hSw; (try dsimp only at hSw); go_split_ands; go_simp; try (with_reducible rfl))
          (try simp only [Act.put, List.setIfInBounds_toArray, List.set_cons_zero, List.set_cons_succ])
          refine wpAnyM_take (i := 6) (v := ?_) rfl (by kernel_rfl) (by kernel_rfl) (by kernel_rfl) (by kernel_rfl) (fun _ _ _ h => h) hS (Or.inl ⟨by rfl, ?_⟩) ?_
          rotate_left
          · (intro w hSw; (try dsimp only at hSw); go_split_ands; go_simp; try (with_reducible rfl))
          (try simp only [Act.put, List.setIfInBounds_toArray, List.set_cons_zero, List.set_cons_succ])
          refine wpAnyM_take (i := 7) (v := ?_) rfl (by kernel_rfl) (by kernel_rfl) (by kernel_rfl) (by kernel_rfl) (fun _ _ _ h => h) hS (Or.inl ⟨by rfl, ?_⟩) ?_
          rotate_left
          · (intro w hSw; (try dsimp only at hSw); go_split_ands; go_simp; try (with_reducible rfl))
          (try simp only [Act.put, List.setIfInBounds_toArray, List.set_cons_zero, List.set_cons_succ])
          refine wpAnyM_take (i := 9) (v := ?_) rfl (by kernel_rfl) (by kernel_rfl) (by kernel_rfl) (by kernel_rfl) (fun _ _ _ h => h) hS (Or.inl ⟨by rfl, ?_⟩) ?_
          rotate_left
          · (intro w hSw; (try dsimp only at hSw); go_split_ands; go_simp; try (with_reducible rfl))
          (try simp only [Act.put, List.setIfInBounds_toArray, List.set_cons_zero, List.set_cons_succ])
          refine wpAnyM_take (i := 10) (v := ?_) rfl (by kernel_rfl) (by kernel_rfl) (by kernel_rfl) (by kernel_rfl) (fun _ _ _ h => h) hS (Or.inl ⟨by rfl, ?_⟩) ?_
          rotate_left
          · (intro w hSw; (try dsimp only at hSw); go_split_ands; go_simp; try (with_reducible rfl))
          (try simp only [Act.put, List.setIfInBounds_toArray, List.set_cons_zero, List.set_cons_succ])
          refine wpAnyM_take (i := 11) (v := ?_) rfl (by kernel_rfl) (by kernel_rfl) (by kernel_rfl) (by kernel_rfl) (fun _ _ _ h => h) hS (Or.inl ⟨by rfl, ?_⟩) ?_
          rotate_left
          · (intro w hSw; (try dsimp only at hSw); go_split_ands; go_simp; try (with_reducible rfl))
          (try simp only [Act.put, List.setIfInBounds_toArray, List.set_cons_zero, List.set_cons_succ])
          refine wpAnyM_take (i := 12) (v := ?_) rfl (by kernel_rfl) (by kernel_rfl) (by kernel_rfl) (by kernel_rfl) (fun _ _ _ h => h) hS (Or.inl ⟨by rfl, ?_⟩) ?_
          rotate_left
          · (intro w hSw; (try dsimp only at hSw); go_split_ands; go_simp; try (with_reducible rfl))
          (try simp only [Act.put, List.setIfInBounds_toArray, List.set_cons_zero, List.set_cons_succ])
          refine wpAnyM_take (i := 13) (v := ?_) rfl (by kernel_rfl) (by kernel_rfl) (by kernel_rfl) (by kernel_rfl) (fun _ _ _ h => h) hS (Or.inl ⟨by rfl, ?_⟩) ?_
          rotate_left
          · (intro w hSw; (try dsimp only at hSw); go_split_ands; go_simp; try (with_reducible rfl))
          (try simp only [Act.put, List.setIfInBounds_toArray, List.set_cons_zero, List.set_cons_succ])
          refine wpAnyM_take (i := 14) (v := ?_) rfl (by kernel_rfl) (by kernel_rfl) (by kernel_rfl) (by kernel_rfl) (fun _ _ _ h => h) hS (Or.inl ⟨by rfl, ?_⟩) ?_
          rotate_left
          · (intro w hSw; (try dsimp only at hSw); go_split_ands; go_simp; try (with_reducible rfl))
          (try simp only [Act.put, List.setIfInBounds_toArray, List.set_cons_zero, List.set_cons_succ])
          refine wpAnyM_one (i := 8) (by kernel_rfl) rfl (fun K hK => ?_)
          (go_simp; (with_reducible refine (least_s (W := W) _ hS.1 e.f0 e.f1).mono ?_); rintro _ _ ⟨rfl, z1, rfl, hz1⟩; have hA := HX.out.drew.to hz1; have hO := own_to (own_to Hown.out (IsSince.drew' (IsSince.self _))) hz1; have hOL := own_to (own_to HownL.out (IsSince.drew' (IsSince.self _))) hz1)
          refine hK.out _ _ (Or.inr (⟨IsSince.of z1, hA.c 8 _ rfl⟩)) (fun hS' => ?_)
          replace hS := hS'.resolve_left (by decide)
          clear hK K hS'
          (try simp only [Act.put, List.setIfInBounds_toArray, List.set_cons_zero, List.set_cons_succ])
          refine wpAnyM_one (i := 15) (by kernel_rfl) rfl (fun K hK => ?_)
          (go_simp; (with_reducible refine (least_s (W := W) _ hS.1 e.t0 e.t1).mono ?_); rintro _ _ ⟨rfl, z2, rfl, hz2⟩; replace hA := hA.to hz2; replace hO := own_to hO hz2; replace hOL := own_to hOL hz2)
          refine hK.out _ _ (Or.inr (⟨IsSince.of z2, hA.c 8 _ rfl⟩)) (fun hS' => ?_)
          replace hS := hS'.resolve_left (by decide)
          clear hK K hS'
          (try simp only [Act.put, List.setIfInBounds_toArray, List.set_cons_zero, List.set_cons_succ])
          refine wpAnyM_take (i := 16) (v := ?_) rfl (by kernel_rfl) (by kernel_rfl) (by kernel_rfl) (by kernel_rfl) (fun _ _ _ h => h) hS (Or.inl ⟨by rfl, ?_⟩) ?_
          rotate_left
          · (intro w hSw; (try dsimp only at hSw); go_split_ands; go_simp; try (with_reducible rfl))
          (try simp only [Act.put, List.setIfInBounds_toArray, List.set_cons_zero, List.set_cons_succ])
          refine wpAnyM_one (i := 17) (by kernel_rfl) rfl (fun K hK => ?_)
          go_simp
          refine hK.out _ _ (Or.inr (⟨IsSince.alloc (IsSince.of z2) _, (hA.up _).c 8 _ rfl⟩)) (fun hS' => ?_)
          replace hS := hS'.resolve_left (by decide)
          clear hK K hS'
          (try simp only [Act.put, List.setIfInBounds_toArray, List.set_cons_zero, List.set_cons_succ])
          refine wpAnyM_one (i := 18) (by kernel_rfl) rfl (fun K hK => ?_)
          (refine step_appL (k := 4) (w0 := W) hS.1 rfl _ _ 25 rfl W.heap.size (Nat.le_refl _) (IsSince.size hS.1) 52 (.agg #[.int .i64 0, .int .i64 0, .int .i64 0, .int .i64 0]) 32 sPseX v j (flat Pse.cs ((r.pauses.take j).map exP)) rfl (own_up hO) ⟨z2.w.heap.size, 0, none⟩ 1 1 (exP e).cs rfl rfl (blk_cells _ _ rfl) (pseX_one _) Nat.one_pos (by unfold maxLen; omega) (by omega) ?_; intro v2 q2 hown2 hg2 hl2; obtain ⟨a2, n3, c2, rfl⟩ := own_slice hown2; have hX2 := (hA.up _).grown hg2 (fun h => Hdis.out gx h.symm rfl); have hOL2 := own_otherB (own_up hOL) hg2 (own_up hO) (by decide); have hxc2 := hX2.c 8 _ rfl; have hxf2 := hX2.f)
          refine hK.out _ _ (Or.inr (⟨IsSince.of q2, hxc2⟩)) (fun hS' => ?_)
          replace hS := hS'.resolve_left (by decide)
          clear hK K hS'
          (try simp only [Act.put, List.setIfInBounds_toArray, List.set_cons_zero, List.set_cons_succ])
          refine wpAnyM_take (i := 19) (v := ?_) rfl (by kernel_rfl) (by kernel_rfl) (by kernel_rfl) (by kernel_rfl) (fun _ _ _ h => h) hS (Or.inl ⟨by rfl, ?_⟩) ?_
          rotate_left
          · (intro w hSw; (try dsimp only at hSw); go_split_ands; go_simp; try (with_reducible rfl))
          (try simp only [Act.put, List.setIfInBounds_toArray, List.set_cons_zero, List.set_cons_succ])
          refine wpAnyM_one (i := 20) (by kernel_rfl) rfl (fun K hK => ?_)
          go_simp
          refine hK.out _ _ (Or.inl rfl) (fun _ => ?_)
          clear hK K hS
          (try simp only [Act.put, List.setIfInBounds_toArray, List.set_cons_zero, List.set_cons_succ])
          refine wpAnyM_done (by kernel_rfl) ?_
          obtain ⟨y3, h3⟩ := q2.set ⟨gx, 8, none⟩ Hgx.out (.slice a2 n3 c2)
          have hX3 := hX2.setj (j := 8) (by simp) (.slice a2 n3 c2)
          have hd2 : ∀ b, (Value.slice a2 n3 c2).ownBlock = some b → b ≠ gx := fun b hb => by
            rcases hl2 b hb with h1 | h1
            · exact Hdis.out b h1
            · have := hA.lt; simp at h1; omega
          have hO3 := own_setB hown2 ⟨gx, 8, none⟩ (.slice a2 n3 c2) hd2
          have hOL3 := own_setB hOL2 ⟨gx, 8, none⟩ (.slice a2 n3 c2) HdisL.out
          rw [h3] at hX3 hO3 hOL3 ⊢
          have HX3 := Lib.hid (show BoxIs y3.w gx [.int .i64 r.id, .int .i64 r.rd, .int .i64 r.s0, .int .i64 r.s0, .int .i64 r.e0, .int .i64 r.e0, .bool r.op, .slice al k cl, .slice a2 n3 c2, .int .i64 r.fw, .int .i64 r.fp, .int .i64 r.wh, .int .i64 r.pl] from hX3)
          have HO3 := Lib.hid (show y3.w.ownsRow W.heap.size 52 4 (.slice a2 n3 c2) (j + 1) (flat Pse.cs ((r.pauses.take (j + 1)).map exP)) by rw [Htk.out, List.map_append, flat_append]; simp only [List.map_cons, List.map_nil, flat_one]; exact hO3)
          have HOL3 := Lib.hid hOL3
          have Hd2 := Lib.hid hd2
          clear hX3 hO3 hOL3 hOL2 hOL h3 hd2 hX2 hxc2 hxf2 hown2 hg2 hl2 hA hO hz1 hz2 hxc k8 j0 j1 j2 j3 Htk
          go_wp2_with fail
          go_roundw
          case rel => exact ⟨j + 1, .slice a2 n3 c2, y3, by omega, by go_num, rfl, HX3.out, HO3.out, Hd2.out, HOL3.out⟩
          case measure => simp [intOf] <;> omega
        · obtain rfl : j = n2 := by omega
          obtain ⟨hx1, ap, cp, rfl, hx2, hx3, hx4, hx5⟩ := own_els (l := (r.pauses.take j).map exP) Pse.len (by decide) Hown.out
          have hpk : ((r.pauses.take j).map exP).length = j := by rw [List.length_map, List.length_take]; have := Hn2.out; omega
          rw [hpk] at HX Hown Hdis hx2 hx5
          clear hx1 hx2 hx3 hx4 hx5 hpk
          have m0 := HX.out.c 0 _ rfl
          have m1 := HX.out.c 1 _ rfl
          have m2 := HX.out.c 2 _ rfl
          have m3 := HX.out.c 3 _ rfl
          have m4 := HX.out.c 4 _ rfl
          have m5 := HX.out.c 5 _ rfl
          have m6 := HX.out.c 6 _ rfl
          have m7 := HX.out.c 7 _ rfl
          have m8 := HX.out.c 8 _ rfl
          have m9 := HX.out.c 9 _ rfl
          have m10 := HX.out.c 10 _ rfl
          have m11 := HX.out.c 11 _ rfl
          have m12 := HX.out.c 12 _ rfl
          have HoL := Lib.hid (own_setsB (bx + 1) [.int .i64 r.id, .int .i64 r.rd, .int .i64 r.s0, .int .i64 r.s0, .int .i64 r.e0, .int .i64 r.e0, .bool r.op, .slice al k cl, .slice ap j cp, .int .i64 r.fw, .int .i64 r.fp, .int .i64 r.wh, .int .i64 r.pl] 0 _ HownL.out (fun b hb => by have h1 := own_block HownL.out b hb; have h2 := Hbx.out; omega))
          have HoP := Lib.hid (own_setsB (bx + 1) [.int .i64 r.id, .int .i64 r.rd, .int .i64 r.s0, .int .i64 r.s0, .int .i64 r.e0, .int .i64 r.e0, .bool r.op, .slice al k cl, .slice ap j cp, .int .i64 r.fw, .int .i64 r.fp, .int .i64 r.wh, .int .i64 r.pl] 0 _ Hown.out (fun b hb => by have h1 := own_block Hown.out b hb; have h2 := Hbx.out; omega))
          have hdone : ¬ (j : Int) < (j : Int) := by omega
          go_wp2_with fail
          have hsm : ∀ j, j < 13 → (z.w.cell? ⟨bx + 1, j, none⟩).isSome = true := fun j hj => by
            match j, hj with
            | 0, _ => rw [hb1_0 z]; rfl
            | 1, _ => rw [hb1_1 z]; rfl
            | 2, _ => rw [hb1_2 z]; rfl
            | 3, _ => rw [hb1_3 z]; rfl
            | 4, _ => rw [hb1_4 z]; rfl
            | 5, _ => rw [hb1_5 z]; rfl
            | 6, _ => rw [hb1_6 z]; rfl
            | 7, _ => rw [hb1_7 z]; rfl
            | 8, _ => rw [hb1_8 z]; rfl
            | 9, _ => rw [hb1_9 z]; rfl
            | 10, _ => rw [hb1_10 z]; rfl
            | 11, _ => rw [hb1_11 z]; rfl
            | 12, _ => rw [hb1_12 z]; rfl
          obtain ⟨Z, hz, hc⟩ := set_many z (g := bx + 1) [.int .i64 r.id, .int .i64 r.rd, .int .i64 r.s0, .int .i64 r.s0, .int .i64 r.e0, .int .i64 r.e0, .bool r.op, .slice al k cl, .slice ap j cp, .int .i64 r.fw, .int .i64 r.fp, .int .i64 r.wh, .int .i64 r.pl] hsm (Hup.out z) (by have := Hbx.out; omega)
          simp only [World.setCells, Nat.reduceAdd] at hz
          rw [hz]
          have hc0 := hc 0 _ rfl
          have hc1 := hc 1 _ rfl
          have hc2 := hc 2 _ rfl
          have hc3 := hc 3 _ rfl
          have hc4 := hc 4 _ rfl
          have hc5 := hc 5 _ rfl
          have hc6 := hc 6 _ rfl
          have hc7 := hc 7 _ rfl
          have hc8 := hc 8 _ rfl
          have hc9 := hc 9 _ rfl
          have hc10 := hc 10 _ rfl
          have hc11 := hc 11 _ rfl
          have hc12 := hc 12 _ rfl
          have hkn : r.legs.take k = r.legs := List.take_of_length_le (by have := Hn.out; omega)
          have hjn : r.pauses.take j = r.pauses := List.take_of_length_le (by have := Hn2.out; omega)
          have hoL := HoL.out
          have hoP := HoP.out
          rw [hkn] at hoL
          rw [hjn] at hoP
          obtain ⟨hk1, a3, c3, he3, _, hE3, _, _⟩ := own_els Leg.len (by decide) hoL
          obtain ⟨hj1, a4, c4, he4, _, hE4, _, _⟩ := own_els Pse.len (by decide) hoP
          simp only [Value.slice.injEq] at he3 he4
          obtain ⟨rfl, _, rfl⟩ := he3
          obtain ⟨rfl, _, rfl⟩ := he4
          simp only [World.setCells, Nat.reduceAdd] at hE3 hE4
          rw [hz] at hE3 hE4
          exact bodyPost_ret (v := .agg #[.int .i64 r.id, .int .i64 r.rd, .int .i64 r.s0, .int .i64 r.s0, .int .i64 r.e0, .int .i64 r.e0, .bool r.op, .slice al k cl, .slice ap j cp, .int .i64 r.fw, .int .i64 r.fp, .int .i64 r.wh, .int .i64 r.pl]) (by simp [results, Try.results32, go_sem, hc0, hc1, hc2, hc3, hc4, hc5, hc6, hc7, hc8, hc9, hc10, hc11, hc12]) rfl (HP.out al cl k j ap cp Z Hn.out Hn2.out hE3 hE4)
end Go.Proofs.Ytefodfpnedcodaa
/- The law IntervalExact, walked. -/
namespace Go.Proofs.Ytefodfpnedcodaa
open Go.RowKit

/-- what is known of the ride with exact moments -/
structure ExOf (r X : Ride) : Prop where
  e : ivE X = 0
  s : sureW X = ⟨r.s0, r.e0⟩
  d : doubtV X = 0
  m : secR X + secP X = r.e0 - r.s0 ∧ 0 ≤ secR X ∧ 0 ≤ secP X
theorem exact_x (w : World) (x : Since w) (r : Ride) (h : r.At w) (he : ivE r = 0) (hl : r.legs.length ≤ 100) (hp : r.pauses.length ≤ 100) :
    Calls Try.prog 32 #[.agg #[.int .i64 r.id, .int .i64 r.rd, .int .i64 r.s0, .int .i64 r.s1, .int .i64 r.e0, .int .i64 r.e1, .bool r.op, .slice r.la r.legs.length r.lc, .slice r.pa r.pauses.length r.pc, .int .i64 r.fw, .int .i64 r.fp, .int .i64 r.wh, .int .i64 r.pl]] x.w fun o w' => ∃ (X : Ride) (y : Since w), o = .returned (.agg #[.int .i64 X.id, .int .i64 X.rd, .int .i64 X.s0, .int .i64 X.s1, .int .i64 X.e0, .int .i64 X.e1, .bool X.op, .slice X.la X.legs.length X.lc, .slice X.pa X.pauses.length X.pc, .int .i64 X.fw, .int .i64 X.fp, .int .i64 X.wh, .int .i64 X.pl]) ∧ w' = y.w ∧ X.At y.w ∧ ExOf r X := by
  refine (exact_calls w x r h hl hp).mono ?_
  rintro _ _ ⟨la, lc, pa, pc, y, rfl, rfl, hX⟩
  refine ⟨exR r la lc pa pc, y, ?_, rfl, hX, ex_ok he .., (ex_sure he ..).1, (ex_sure he ..).2, ex_secs he ..⟩
  show Ending.returned _ = Ending.returned (.agg #[.int .i64 r.id, .int .i64 r.rd, .int .i64 r.s0, .int .i64 r.s0, .int .i64 r.e0, .int .i64 r.e0, .bool r.op, .slice la (r.legs.map exL).length lc, .slice pa (r.pauses.map exP).length pc, .int .i64 r.fw, .int .i64 r.fp, .int .i64 r.wh, .int .i64 r.pl])
  rw [List.length_map, List.length_map]
set_option maxRecDepth 100000 in
set_option maxHeartbeats 8000000 in
theorem intervalExact_calls (w : World) (x : Since w) (r : Ride) (h : r.At w) :
    Calls Try.prog 8 #[.agg #[.int .i64 r.id, .int .i64 r.rd, .int .i64 r.s0, .int .i64 r.s1, .int .i64 r.e0, .int .i64 r.e1, .bool r.op, .slice r.la r.legs.length r.lc, .slice r.pa r.pauses.length r.pc, .int .i64 r.fw, .int .i64 r.fp, .int .i64 r.wh, .int .i64 r.pl]] x.w fun o w' => o = .returned (.bool true) ∧ ∃ y : Since w, w' = y.w := by
  have H := Lib.hid h
  clear h
  have Hf := Lib.hid (fun (w : World) (x : Since w) (h : r.At w) => few23_calls w x r h)
  have Hk := Lib.hid (fun (w : World) (x : Since w) (h : r.At w) => rcheck23_calls w x r h)
  have Hfew := Lib.hid (show few23 r = (decide (r.legs.length ≤ 100) && decide (r.pauses.length ≤ 100)) from rfl)
  cases hfw : few23 r with
  | false =>
    rw [hfw] at Hf
    clear hfw Hk
    go_enter Try.func8, Try.ntmps8
    go_upto_region 1 with fail
    have hb0_0 : ∀ y : Since (x.w.alloc (.cells #[.int .i64 r.id, .int .i64 r.rd, .int .i64 r.s0, .int .i64 r.s1, .int .i64 r.e0, .int .i64 r.e1, .bool r.op, .slice r.la r.legs.length r.lc, .slice r.pa r.pauses.length r.pc, .int .i64 r.fw, .int .i64 r.fp, .int .i64 r.wh, .int .i64 r.pl] 27)), y.w.cell? ⟨x.w.heap.size, 0, none⟩ = some (.int .i64 r.id) := fun y => Since.cell (by simp [go_sem]) (by first | (simp; done) | (simp; omega)) y
    have hb0_1 : ∀ y : Since (x.w.alloc (.cells #[.int .i64 r.id, .int .i64 r.rd, .int .i64 r.s0, .int .i64 r.s1, .int .i64 r.e0, .int .i64 r.e1, .bool r.op, .slice r.la r.legs.length r.lc, .slice r.pa r.pauses.length r.pc, .int .i64 r.fw, .int .i64 r.fp, .int .i64 r.wh, .int .i64 r.pl] 27)), y.w.cell? ⟨x.w.heap.size, 1, none⟩ = some (.int .i64 r.rd) := fun y => Since.cell (by simp [go_sem]) (by first | (simp; done) | (simp; omega)) y
    have hb0_2 : ∀ y : Since (x.w.alloc (.cells #[.int .i64 r.id, .int .i64 r.rd, .int .i64 r.s0, .int .i64 r.s1, .int .i64 r.e0, .int .i64 r.e1, .bool r.op, .slice r.la r.legs.length r.lc, .slice r.pa r.pauses.length r.pc, .int .i64 r.fw, .int .i64 r.fp, .int .i64 r.wh, .int .i64 r.pl] 27)), y.w.cell? ⟨x.w.heap.size, 2, none⟩ = some (.int .i64 r.s0) := fun y => Since.cell (by simp [go_sem]) (by first | (simp; done) | (simp; omega)) y
    have hb0_3 : ∀ y : Since (x.w.alloc (.cells #[.int .i64 r.id, .int .i64 r.rd, .int .i64 r.s0, .int .i64 r.s1, .int .i64 r.e0, .int .i64 r.e1, .bool r.op, .slice r.la r.legs.length r.lc, .slice r.pa r.pauses.length r.pc, .int .i64 r.fw, .int .i64 r.fp, .int .i64 r.wh, .int .i64 r.pl] 27)), y.w.cell? ⟨x.w.heap.size, 3, none⟩ = some (.int .i64 r.s1) := fun y => Since.cell (by simp [go_sem]) (by first | (simp; done) | (simp; omega)) y
    have hb0_4 : ∀ y : Since (x.w.alloc (.cells #[.int .i64 r.id, .int .i64 r.rd, .int .i64 r.s0, .int .i64 r.s1, .int .i64 r.e0, .int .i64 r.e1, .bool r.op, .slice r.la r.legs.length r.lc, .slice r.pa r.pauses.length r.pc, .int .i64 r.fw, .int .i64 r.fp, .int .i64 r.wh, .int .i64 r.pl] 27)), y.w.cell? ⟨x.w.heap.size, 4, none⟩ = some (.int .i64 r.e0) := fun y => Since.cell (by simp [go_sem]) (by first | (simp; done) | (simp; omega)) y
    have hb0_5 : ∀ y : Since (x.w.alloc (.cells #[.int .i64 r.id, .int .i64 r.rd, .int .i64 r.s0, .int .i64 r.s1, .int .i64 r.e0, .int .i64 r.e1, .bool r.op, .slice r.la r.legs.length r.lc, .slice r.pa r.pauses.length r.pc, .int .i64 r.fw, .int .i64 r.fp, .int .i64 r.wh, .int .i64 r.pl] 27)), y.w.cell? ⟨x.w.heap.size, 5, none⟩ = some (.int .i64 r.e1) := fun y => Since.cell (by simp [go_sem]) (by first | (simp; done) | (simp; omega)) y
    have hb0_6 : ∀ y : Since (x.w.alloc (.cells #[.int .i64 r.id, .int .i64 r.rd, .int .i64 r.s0, .int .i64 r.s1, .int .i64 r.e0, .int .i64 r.e1, .bool r.op, .slice r.la r.legs.length r.lc, .slice r.pa r.pauses.length r.pc, .int .i64 r.fw, .int .i64 r.fp, .int .i64 r.wh, .int .i64 r.pl] 27)), y.w.cell? ⟨x.w.heap.size, 6, none⟩ = some (.bool r.op) := fun y => Since.cell (by simp [go_sem]) (by first | (simp; done) | (simp; omega)) y
    have hb0_7 : ∀ y : Since (x.w.alloc (.cells #[.int .i64 r.id, .int .i64 r.rd, .int .i64 r.s0, .int .i64 r.s1, .int .i64 r.e0, .int .i64 r.e1, .bool r.op, .slice r.la r.legs.length r.lc, .slice r.pa r.pauses.length r.pc, .int .i64 r.fw, .int .i64 r.fp, .int .i64 r.wh, .int .i64 r.pl] 27)), y.w.cell? ⟨x.w.heap.size, 7, none⟩ = some (.slice r.la r.legs.length r.lc) := fun y => Since.cell (by simp [go_sem]) (by first | (simp; done) | (simp; omega)) y
    have hb0_8 : ∀ y : Since (x.w.alloc (.cells #[.int .i64 r.id, .int .i64 r.rd, .int .i64 r.s0, .int .i64 r.s1, .int .i64 r.e0, .int .i64 r.e1, .bool r.op, .slice r.la r.legs.length r.lc, .slice r.pa r.pauses.length r.pc, .int .i64 r.fw, .int .i64 r.fp, .int .i64 r.wh, .int .i64 r.pl] 27)), y.w.cell? ⟨x.w.heap.size, 8, none⟩ = some (.slice r.pa r.pauses.length r.pc) := fun y => Since.cell (by simp [go_sem]) (by first | (simp; done) | (simp; omega)) y
    have hb0_9 : ∀ y : Since (x.w.alloc (.cells #[.int .i64 r.id, .int .i64 r.rd, .int .i64 r.s0, .int .i64 r.s1, .int .i64 r.e0, .int .i64 r.e1, .bool r.op, .slice r.la r.legs.length r.lc, .slice r.pa r.pauses.length r.pc, .int .i64 r.fw, .int .i64 r.fp, .int .i64 r.wh, .int .i64 r.pl] 27)), y.w.cell? ⟨x.w.heap.size, 9, none⟩ = some (.int .i64 r.fw) := fun y => Since.cell (by simp [go_sem]) (by first | (simp; done) | (simp; omega)) y
    have hb0_10 : ∀ y : Since (x.w.alloc (.cells #[.int .i64 r.id, .int .i64 r.rd, .int .i64 r.s0, .int .i64 r.s1, .int .i64 r.e0, .int .i64 r.e1, .bool r.op, .slice r.la r.legs.length r.lc, .slice r.pa r.pauses.length r.pc, .int .i64 r.fw, .int .i64 r.fp, .int .i64 r.wh, .int .i64 r.pl] 27)), y.w.cell? ⟨x.w.heap.size, 10, none⟩ = some (.int .i64 r.fp) := fun y => Since.cell (by simp [go_sem]) (by first | (simp; done) | (simp; omega)) y
    have hb0_11 : ∀ y : Since (x.w.alloc (.cells #[.int .i64 r.id, .int .i64 r.rd, .int .i64 r.s0, .int .i64 r.s1, .int .i64 r.e0, .int .i64 r.e1, .bool r.op, .slice r.la r.legs.length r.lc, .slice r.pa r.pauses.length r.pc, .int .i64 r.fw, .int .i64 r.fp, .int .i64 r.wh, .int .i64 r.pl] 27)), y.w.cell? ⟨x.w.heap.size, 11, none⟩ = some (.int .i64 r.wh) := fun y => Since.cell (by simp [go_sem]) (by first | (simp; done) | (simp; omega)) y
    have hb0_12 : ∀ y : Since (x.w.alloc (.cells #[.int .i64 r.id, .int .i64 r.rd, .int .i64 r.s0, .int .i64 r.s1, .int .i64 r.e0, .int .i64 r.e1, .bool r.op, .slice r.la r.legs.length r.lc, .slice r.pa r.pauses.length r.pc, .int .i64 r.fw, .int .i64 r.fp, .int .i64 r.wh, .int .i64 r.pl] 27)), y.w.cell? ⟨x.w.heap.size, 12, none⟩ = some (.int .i64 r.pl) := fun y => Since.cell (by simp [go_sem]) (by first | (simp; done) | (simp; omega)) y
    have hf0 : ∀ (y : Since (x.w.alloc (.cells #[.int .i64 r.id, .int .i64 r.rd, .int .i64 r.s0, .int .i64 r.s1, .int .i64 r.e0, .int .i64 r.e1, .bool r.op, .slice r.la r.legs.length r.lc, .slice r.pa r.pauses.length r.pc, .int .i64 r.fw, .int .i64 r.fp, .int .i64 r.wh, .int .i64 r.pl] 27))) (o : Nat), y.w.frozen? ⟨x.w.heap.size, o, none⟩ = false := fun y o => Since.free (by simp [go_sem]) (by first | (simp; done) | (simp; omega)) y
    have hWup : ∃ z : Since w, (x.w.alloc (.cells #[.int .i64 r.id, .int .i64 r.rd, .int .i64 r.s0, .int .i64 r.s1, .int .i64 r.e0, .int .i64 r.e1, .bool r.op, .slice r.la r.legs.length r.lc, .slice r.pa r.pauses.length r.pc, .int .i64 r.fw, .int .i64 r.fp, .int .i64 r.wh, .int .i64 r.pl] 27)) = z.w := x.alloc _
    obtain ⟨y0, hy0⟩ := Since.refl (x.w.alloc (.cells #[.int .i64 r.id, .int .i64 r.rd, .int .i64 r.s0, .int .i64 r.s1, .int .i64 r.e0, .int .i64 r.e1, .bool r.op, .slice r.la r.legs.length r.lc, .slice r.pa r.pauses.length r.pc, .int .i64 r.fw, .int .i64 r.fp, .int .i64 r.wh, .int .i64 r.pl] 27))
    have Hbx := Lib.hid (And.intro x.b.size (show x.w.heap.size + 1 = (x.w.alloc (.cells #[.int .i64 r.id, .int .i64 r.rd, .int .i64 r.s0, .int .i64 r.s1, .int .i64 r.e0, .int .i64 r.e1, .bool r.op, .slice r.la r.legs.length r.lc, .slice r.pa r.pauses.length r.pc, .int .i64 r.fw, .int .i64 r.fp, .int .i64 r.wh, .int .i64 r.pl] 27)).heap.size from by simp))
    generalize hW : (x.w.alloc (.cells #[.int .i64 r.id, .int .i64 r.rd, .int .i64 r.s0, .int .i64 r.s1, .int .i64 r.e0, .int .i64 r.e1, .bool r.op, .slice r.la r.legs.length r.lc, .slice r.pa r.pauses.length r.pc, .int .i64 r.fw, .int .i64 r.fp, .int .i64 r.wh, .int .i64 r.pl] 27)) = W at *
    clear hW
    generalize x.w.heap.size = bx at *
    have Hup := Lib.hid (Since.up hWup)
    rw [hy0]
    clear hy0
    replace H := Lib.hid (H.out.to hWup)
    clear hWup
    go_wp2_with (first | (go_at_call 10; ((with_reducible refine (Hf.out W y0 H.out).mono ?_); rintro _ _ ⟨rfl, y1, rfl⟩)) | (go_at_call 11; ((with_reducible refine (awake_calls W y1).mono ?_); rintro _ _ ⟨rfl, yz, rfl⟩)))
    go_ret
    exact ⟨rfl, Hup.out yz⟩
  | true =>
    rw [hfw] at Hf
    have hpl : r.pauses.length ≤ 100 := by
      rw [Hfew.out, Bool.and_eq_true, decide_eq_true_eq, decide_eq_true_eq] at hfw; exact hfw.2
    have hll : r.legs.length ≤ 100 := by
      rw [Hfew.out, Bool.and_eq_true, decide_eq_true_eq, decide_eq_true_eq] at hfw; exact hfw.1
    clear hfw Hfew
    by_cases he : ivE r = 0
    case neg =>
      have hez : (ivE r != 0) = true := by simpa using he
      clear he
      go_enter Try.func8, Try.ntmps8
      go_upto_region 1 with fail
      have hb0_0 : ∀ y : Since (x.w.alloc (.cells #[.int .i64 r.id, .int .i64 r.rd, .int .i64 r.s0, .int .i64 r.s1, .int .i64 r.e0, .int .i64 r.e1, .bool r.op, .slice r.la r.legs.length r.lc, .slice r.pa r.pauses.length r.pc, .int .i64 r.fw, .int .i64 r.fp, .int .i64 r.wh, .int .i64 r.pl] 27)), y.w.cell? ⟨x.w.heap.size, 0, none⟩ = some (.int .i64 r.id) := fun y => Since.cell (by simp [go_sem]) (by first | (simp; done) | (simp; omega)) y
      have hb0_1 : ∀ y : Since (x.w.alloc (.cells #[.int .i64 r.id, .int .i64 r.rd, .int .i64 r.s0, .int .i64 r.s1, .int .i64 r.e0, .int .i64 r.e1, .bool r.op, .slice r.la r.legs.length r.lc, .slice r.pa r.pauses.length r.pc, .int .i64 r.fw, .int .i64 r.fp, .int .i64 r.wh, .int .i64 r.pl] 27)), y.w.cell? ⟨x.w.heap.size, 1, none⟩ = some (.int .i64 r.rd) := fun y => Since.cell (by simp [go_sem]) (by first | (simp; done) | (simp; omega)) y
      have hb0_2 : ∀ y : Since (x.w.alloc (.cells #[.int .i64 r.id, .int .i64 r.rd, .int .i64 r.s0, .int .i64 r.s1, .int .i64 r.e0, .int .i64 r.e1, .bool r.op, .slice r.la r.legs.length r.lc, .slice r.pa r.pauses.length r.pc, .int .i64 r.fw, .int .i64 r.fp, .int .i64 r.wh, .int .i64 r.pl] 27)), y.w.cell? ⟨x.w.heap.size, 2, none⟩ = some (.int .i64 r.s0) := fun y => Since.cell (by simp [go_sem]) (by first | (simp; done) | (simp; omega)) y
      have hb0_3 : ∀ y : Since (x.w.alloc (.cells #[.int .i64 r.id, .int .i64 r.rd, .int .i64 r.s0, .int .i64 r.s1, .int .i64 r.e0, .int .i64 r.e1, .bool r.op, .slice r.la r.legs.length r.lc, .slice r.pa r.pauses.length r.pc, .int .i64 r.fw, .int .i64 r.fp, .int .i64 r.wh, .int .i64 r.pl] 27)), y.w.cell? ⟨x.w.heap.size, 3, none⟩ = some (.int .i64 r.s1) := fun y => Since.cell (by simp [go_sem]) (by first | (simp; done) | (simp; omega)) y
      have hb0_4 : ∀ y : Since (x.w.alloc (.cells #[.int .i64 r.id, .int .i64 r.rd, .int .i64 r.s0, .int .i64 r.s1, .int .i64 r.e0, .int .i64 r.e1, .bool r.op, .slice r.la r.legs.length r.lc, .slice r.pa r.pauses.length r.pc, .int .i64 r.fw, .int .i64 r.fp, .int .i64 r.wh, .int .i64 r.pl] 27)), y.w.cell? ⟨x.w.heap.size, 4, none⟩ = some (.int .i64 r.e0) := fun y => Since.cell (by simp [go_sem]) (by first | (simp; done) | (simp; omega)) y
      have hb0_5 : ∀ y : Since (x.w.alloc (.cells #[.int .i64 r.id, .int .i64 r.rd, .int .i64 r.s0, .int .i64 r.s1, .int .i64 r.e0, .int .i64 r.e1, .bool r.op, .slice r.la r.legs.length r.lc, .slice r.pa r.pauses.length r.pc, .int .i64 r.fw, .int .i64 r.fp, .int .i64 r.wh, .int .i64 r.pl] 27)), y.w.cell? ⟨x.w.heap.size, 5, none⟩ = some (.int .i64 r.e1) := fun y => Since.cell (by simp [go_sem]) (by first | (simp; done) | (simp; omega)) y
      have hb0_6 : ∀ y : Since (x.w.alloc (.cells #[.int .i64 r.id, .int .i64 r.rd, .int .i64 r.s0, .int .i64 r.s1, .int .i64 r.e0, .int .i64 r.e1, .bool r.op, .slice r.la r.legs.length r.lc, .slice r.pa r.pauses.length r.pc, .int .i64 r.fw, .int .i64 r.fp, .int .i64 r.wh, .int .i64 r.pl] 27)), y.w.cell? ⟨x.w.heap.size, 6, none⟩ = some (.bool r.op) := fun y => Since.cell (by simp [go_sem]) (by first | (simp; done) | (simp; omega)) y
      have hb0_7 : ∀ y : Since (x.w.alloc (.cells #[.int .i64 r.id, .int .i64 r.rd, .int .i64 r.s0, .int .i64 r.s1, .int .i64 r.e0, .int .i64 r.e1, .bool r.op, .slice r.la r.legs.length r.lc, .slice r.pa r.pauses.length r.pc, .int .i64 r.fw, .int .i64 r.fp, .int .i64 r.wh, .int .i64 r.pl] 27)), y.w.cell? ⟨x.w.heap.size, 7, none⟩ = some (.slice r.la r.legs.length r.lc) := fun y => Since.cell (by simp [go_sem]) (by first | (simp; done) | (simp; omega)) y
      have hb0_8 : ∀ y : Since (x.w.alloc (.cells #[.int .i64 r.id, .int .i64 r.rd, .int .i64 r.s0, .int .i64 r.s1, .int .i64 r.e0, .int .i64 r.e1, .bool r.op, .slice r.la r.legs.length r.lc, .slice r.pa r.pauses.length r.pc, .int .i64 r.fw, .int .i64 r.fp, .int .i64 r.wh, .int .i64 r.pl] 27)), y.w.cell? ⟨x.w.heap.size, 8, none⟩ = some (.slice r.pa r.pauses.length r.pc) := fun y => Since.cell (by simp [go_sem]) (by first | (simp; done) | (simp; omega)) y
      have hb0_9 : ∀ y : Since (x.w.alloc (.cells #[.int .i64 r.id, .int .i64 r.rd, .int .i64 r.s0, .int .i64 r.s1, .int .i64 r.e0, .int .i64 r.e1, .bool r.op, .slice r.la r.legs.length r.lc, .slice r.pa r.pauses.length r.pc, .int .i64 r.fw, .int .i64 r.fp, .int .i64 r.wh, .int .i64 r.pl] 27)), y.w.cell? ⟨x.w.heap.size, 9, none⟩ = some (.int .i64 r.fw) := fun y => Since.cell (by simp [go_sem]) (by first | (simp; done) | (simp; omega)) y
      have hb0_10 : ∀ y : Since (x.w.alloc (.cells #[.int .i64 r.id, .int .i64 r.rd, .int .i64 r.s0, .int .i64 r.s1, .int .i64 r.e0, .int .i64 r.e1, .bool r.op, .slice r.la r.legs.length r.lc, .slice r.pa r.pauses.length r.pc, .int .i64 r.fw, .int .i64 r.fp, .int .i64 r.wh, .int .i64 r.pl] 27)), y.w.cell? ⟨x.w.heap.size, 10, none⟩ = some (.int .i64 r.fp) := fun y => Since.cell (by simp [go_sem]) (by first | (simp; done) | (simp; omega)) y
      have hb0_11 : ∀ y : Since (x.w.alloc (.cells #[.int .i64 r.id, .int .i64 r.rd, .int .i64 r.s0, .int .i64 r.s1, .int .i64 r.e0, .int .i64 r.e1, .bool r.op, .slice r.la r.legs.length r.lc, .slice r.pa r.pauses.length r.pc, .int .i64 r.fw, .int .i64 r.fp, .int .i64 r.wh, .int .i64 r.pl] 27)), y.w.cell? ⟨x.w.heap.size, 11, none⟩ = some (.int .i64 r.wh) := fun y => Since.cell (by simp [go_sem]) (by first | (simp; done) | (simp; omega)) y
      have hb0_12 : ∀ y : Since (x.w.alloc (.cells #[.int .i64 r.id, .int .i64 r.rd, .int .i64 r.s0, .int .i64 r.s1, .int .i64 r.e0, .int .i64 r.e1, .bool r.op, .slice r.la r.legs.length r.lc, .slice r.pa r.pauses.length r.pc, .int .i64 r.fw, .int .i64 r.fp, .int .i64 r.wh, .int .i64 r.pl] 27)), y.w.cell? ⟨x.w.heap.size, 12, none⟩ = some (.int .i64 r.pl) := fun y => Since.cell (by simp [go_sem]) (by first | (simp; done) | (simp; omega)) y
      have hf0 : ∀ (y : Since (x.w.alloc (.cells #[.int .i64 r.id, .int .i64 r.rd, .int .i64 r.s0, .int .i64 r.s1, .int .i64 r.e0, .int .i64 r.e1, .bool r.op, .slice r.la r.legs.length r.lc, .slice r.pa r.pauses.length r.pc, .int .i64 r.fw, .int .i64 r.fp, .int .i64 r.wh, .int .i64 r.pl] 27))) (o : Nat), y.w.frozen? ⟨x.w.heap.size, o, none⟩ = false := fun y o => Since.free (by simp [go_sem]) (by first | (simp; done) | (simp; omega)) y
      have hWup : ∃ z : Since w, (x.w.alloc (.cells #[.int .i64 r.id, .int .i64 r.rd, .int .i64 r.s0, .int .i64 r.s1, .int .i64 r.e0, .int .i64 r.e1, .bool r.op, .slice r.la r.legs.length r.lc, .slice r.pa r.pauses.length r.pc, .int .i64 r.fw, .int .i64 r.fp, .int .i64 r.wh, .int .i64 r.pl] 27)) = z.w := x.alloc _
      obtain ⟨y0, hy0⟩ := Since.refl (x.w.alloc (.cells #[.int .i64 r.id, .int .i64 r.rd, .int .i64 r.s0, .int .i64 r.s1, .int .i64 r.e0, .int .i64 r.e1, .bool r.op, .slice r.la r.legs.length r.lc, .slice r.pa r.pauses.length r.pc, .int .i64 r.fw, .int .i64 r.fp, .int .i64 r.wh, .int .i64 r.pl] 27))
      have Hbx := Lib.hid (And.intro x.b.size (show x.w.heap.size + 1 = (x.w.alloc (.cells #[.int .i64 r.id, .int .i64 r.rd, .int .i64 r.s0, .int .i64 r.s1, .int .i64 r.e0, .int .i64 r.e1, .bool r.op, .slice r.la r.legs.length r.lc, .slice r.pa r.pauses.length r.pc, .int .i64 r.fw, .int .i64 r.fp, .int .i64 r.wh, .int .i64 r.pl] 27)).heap.size from by simp))
      generalize hW : (x.w.alloc (.cells #[.int .i64 r.id, .int .i64 r.rd, .int .i64 r.s0, .int .i64 r.s1, .int .i64 r.e0, .int .i64 r.e1, .bool r.op, .slice r.la r.legs.length r.lc, .slice r.pa r.pauses.length r.pc, .int .i64 r.fw, .int .i64 r.fp, .int .i64 r.wh, .int .i64 r.pl] 27)) = W at *
      clear hW
      generalize x.w.heap.size = bx at *
      have Hup := Lib.hid (Since.up hWup)
      rw [hy0]
      clear hy0
      replace H := Lib.hid (H.out.to hWup)
      clear hWup
      go_wp2_with (first | (go_at_call 10; ((with_reducible refine (Hf.out W y0 H.out).mono ?_); rintro _ _ ⟨rfl, y1, rfl⟩)) | (go_at_call 25; ((with_reducible refine (Hk.out W y1 H.out).mono ?_); rintro _ _ ⟨rfl, y2, rfl⟩)) | (go_at_call 11; ((with_reducible refine (awake_calls W y2).mono ?_); rintro _ _ ⟨rfl, yz, rfl⟩)))
      go_ret
      exact ⟨rfl, Hup.out yz⟩
    case pos =>
      have He := Lib.hid he
      rw [he] at Hk
      clear he
      have Hex := Lib.hid (fun (w : World) (x : Since w) (h : r.At w) => exact_x w x r h He.out hll hpl)
      go_enter Try.func8, Try.ntmps8
      go_upto_region 1 with fail
      have hb0_0 : ∀ y : Since (x.w.alloc (.cells #[.int .i64 r.id, .int .i64 r.rd, .int .i64 r.s0, .int .i64 r.s1, .int .i64 r.e0, .int .i64 r.e1, .bool r.op, .slice r.la r.legs.length r.lc, .slice r.pa r.pauses.length r.pc, .int .i64 r.fw, .int .i64 r.fp, .int .i64 r.wh, .int .i64 r.pl] 27)), y.w.cell? ⟨x.w.heap.size, 0, none⟩ = some (.int .i64 r.id) := fun y => Since.cell (by simp [go_sem]) (by first | (simp; done) | (simp; omega)) y
      have hb0_1 : ∀ y : Since (x.w.alloc (.cells #[.int .i64 r.id, .int .i64 r.rd, .int .i64 r.s0, .int .i64 r.s1, .int .i64 r.e0, .int .i64 r.e1, .bool r.op, .slice r.la r.legs.length r.lc, .slice r.pa r.pauses.length r.pc, .int .i64 r.fw, .int .i64 r.fp, .int .i64 r.wh, .int .i64 r.pl] 27)), y.w.cell? ⟨x.w.heap.size, 1, none⟩ = some (.int .i64 r.rd) := fun y => Since.cell (by simp [go_sem]) (by first | (simp; done) | (simp; omega)) y
      have hb0_2 : ∀ y : Since (x.w.alloc (.cells #[.int .i64 r.id, .int .i64 r.rd, .int .i64 r.s0, .int .i64 r.s1, .int .i64 r.e0, .int .i64 r.e1, .bool r.op, .slice r.la r.legs.length r.lc, .slice r.pa r.pauses.length r.pc, .int .i64 r.fw, .int .i64 r.fp, .int .i64 r.wh, .int .i64 r.pl] 27)), y.w.cell? ⟨x.w.heap.size, 2, none⟩ = some (.int .i64 r.s0) := fun y => Since.cell (by simp [go_sem]) (by first | (simp; done) | (simp; omega)) y
      have hb0_3 : ∀ y : Since (x.w.alloc (.cells #[.int .i64 r.id, .int .i64 r.rd, .int .i64 r.s0, .int .i64 r.s1, .int .i64 r.e0, .int .i64 r.e1, .bool r.op, .slice r.la r.legs.length r.lc, .slice r.pa r.pauses.length r.pc, .int .i64 r.fw, .int .i64 r.fp, .int .i64 r.wh, .int .i64 r.pl] 27)), y.w.cell? ⟨x.w.heap.size, 3, none⟩ = some (.int .i64 r.s1) := fun y => Since.cell (by simp [go_sem]) (by first | (simp; done) | (simp; omega)) y
      have hb0_4 : ∀ y : Since (x.w.alloc (.cells #[.int .i64 r.id, .int .i64 r.rd, .int .i64 r.s0, .int .i64 r.s1, .int .i64 r.e0, .int .i64 r.e1, .bool r.op, .slice r.la r.legs.length r.lc, .slice r.pa r.pauses.length r.pc, .int .i64 r.fw, .int .i64 r.fp, .int .i64 r.wh, .int .i64 r.pl] 27)), y.w.cell? ⟨x.w.heap.size, 4, none⟩ = some (.int .i64 r.e0) := fun y => Since.cell (by simp [go_sem]) (by first | (simp; done) | (simp; omega)) y
      have hb0_5 : ∀ y : Since (x.w.alloc (.cells #[.int .i64 r.id, .int .i64 r.rd, .int .i64 r.s0, .int .i64 r.s1, .int .i64 r.e0, .int .i64 r.e1, .bool r.op, .slice r.la r.legs.length r.lc, .slice r.pa r.pauses.length r.pc, .int .i64 r.fw, .int .i64 r.fp, .int .i64 r.wh, .int .i64 r.pl] 27)), y.w.cell? ⟨x.w.heap.size, 5, none⟩ = some (.int .i64 r.e1) := fun y => Since.cell (by simp [go_sem]) (by first | (simp; done) | (simp; omega)) y
      have hb0_6 : ∀ y : Since (x.w.alloc (.cells #[.int .i64 r.id, .int .i64 r.rd, .int .i64 r.s0, .int .i64 r.s1, .int .i64 r.e0, .int .i64 r.e1, .bool r.op, .slice r.la r.legs.length r.lc, .slice r.pa r.pauses.length r.pc, .int .i64 r.fw, .int .i64 r.fp, .int .i64 r.wh, .int .i64 r.pl] 27)), y.w.cell? ⟨x.w.heap.size, 6, none⟩ = some (.bool r.op) := fun y => Since.cell (by simp [go_sem]) (by first | (simp; done) | (simp; omega)) y
      have hb0_7 : ∀ y : Since (x.w.alloc (.cells #[.int .i64 r.id, .int .i64 r.rd, .int .i64 r.s0, .int .i64 r.s1, .int .i64 r.e0, .int .i64 r.e1, .bool r.op, .slice r.la r.legs.length r.lc, .slice r.pa r.pauses.length r.pc, .int .i64 r.fw, .int .i64 r.fp, .int .i64 r.wh, .int .i64 r.pl] 27)), y.w.cell? ⟨x.w.heap.size, 7, none⟩ = some (.slice r.la r.legs.length r.lc) := fun y => Since.cell (by simp [go_sem]) (by first | (simp; done) | (simp; omega)) y
      have hb0_8 : ∀ y : Since (x.w.alloc (.cells #[.int .i64 r.id, .int .i64 r.rd, .int .i64 r.s0, .int .i64 r.s1, .int .i64 r.e0, .int .i64 r.e1, .bool r.op, .slice r.la r.legs.length r.lc, .slice r.pa r.pauses.length r.pc, .int .i64 r.fw, .int .i64 r.fp, .int .i64 r.wh, .int .i64 r.pl] 27)), y.w.cell? ⟨x.w.heap.size, 8, none⟩ = some (.slice r.pa r.pauses.length r.pc) := fun y => Since.cell (by simp [go_sem]) (by first | (simp; done) | (simp; omega)) y
      have hb0_9 : ∀ y : Since (x.w.alloc (.cells #[.int .i64 r.id, .int .i64 r.rd, .int .i64 r.s0, .int .i64 r.s1, .int .i64 r.e0, .int .i64 r.e1, .bool r.op, .slice r.la r.legs.length r.lc, .slice r.pa r.pauses.length r.pc, .int .i64 r.fw, .int .i64 r.fp, .int .i64 r.wh, .int .i64 r.pl] 27)), y.w.cell? ⟨x.w.heap.size, 9, none⟩ = some (.int .i64 r.fw) := fun y => Since.cell (by simp [go_sem]) (by first | (simp; done) | (simp; omega)) y
      have hb0_10 : ∀ y : Since (x.w.alloc (.cells #[.int .i64 r.id, .int .i64 r.rd, .int .i64 r.s0, .int .i64 r.s1, .int .i64 r.e0, .int .i64 r.e1, .bool r.op, .slice r.la r.legs.length r.lc, .slice r.pa r.pauses.length r.pc, .int .i64 r.fw, .int .i64 r.fp, .int .i64 r.wh, .int .i64 r.pl] 27)), y.w.cell? ⟨x.w.heap.size, 10, none⟩ = some (.int .i64 r.fp) := fun y => Since.cell (by simp [go_sem]) (by first | (simp; done) | (simp; omega)) y
      have hb0_11 : ∀ y : Since (x.w.alloc (.cells #[.int .i64 r.id, .int .i64 r.rd, .int .i64 r.s0, .int .i64 r.s1, .int .i64 r.e0, .int .i64 r.e1, .bool r.op, .slice r.la r.legs.length r.lc, .slice r.pa r.pauses.length r.pc, .int .i64 r.fw, .int .i64 r.fp, .int .i64 r.wh, .int .i64 r.pl] 27)), y.w.cell? ⟨x.w.heap.size, 11, none⟩ = some (.int .i64 r.wh) := fun y => Since.cell (by simp [go_sem]) (by first | (simp; done) | (simp; omega)) y
      have hb0_12 : ∀ y : Since (x.w.alloc (.cells #[.int .i64 r.id, .int .i64 r.rd, .int .i64 r.s0, .int .i64 r.s1, .int .i64 r.e0, .int .i64 r.e1, .bool r.op, .slice r.la r.legs.length r.lc, .slice r.pa r.pauses.length r.pc, .int .i64 r.fw, .int .i64 r.fp, .int .i64 r.wh, .int .i64 r.pl] 27)), y.w.cell? ⟨x.w.heap.size, 12, none⟩ = some (.int .i64 r.pl) := fun y => Since.cell (by simp [go_sem]) (by first | (simp; done) | (simp; omega)) y
      have hf0 : ∀ (y : Since (x.w.alloc (.cells #[.int .i64 r.id, .int .i64 r.rd, .int .i64 r.s0, .int .i64 r.s1, .int .i64 r.e0, .int .i64 r.e1, .bool r.op, .slice r.la r.legs.length r.lc, .slice r.pa r.pauses.length r.pc, .int .i64 r.fw, .int .i64 r.fp, .int .i64 r.wh, .int .i64 r.pl] 27))) (o : Nat), y.w.frozen? ⟨x.w.heap.size, o, none⟩ = false := fun y o => Since.free (by simp [go_sem]) (by first | (simp; done) | (simp; omega)) y
      have hWup : ∃ z : Since w, (x.w.alloc (.cells #[.int .i64 r.id, .int .i64 r.rd, .int .i64 r.s0, .int .i64 r.s1, .int .i64 r.e0, .int .i64 r.e1, .bool r.op, .slice r.la r.legs.length r.lc, .slice r.pa r.pauses.length r.pc, .int .i64 r.fw, .int .i64 r.fp, .int .i64 r.wh, .int .i64 r.pl] 27)) = z.w := x.alloc _
      obtain ⟨y0, hy0⟩ := Since.refl (x.w.alloc (.cells #[.int .i64 r.id, .int .i64 r.rd, .int .i64 r.s0, .int .i64 r.s1, .int .i64 r.e0, .int .i64 r.e1, .bool r.op, .slice r.la r.legs.length r.lc, .slice r.pa r.pauses.length r.pc, .int .i64 r.fw, .int .i64 r.fp, .int .i64 r.wh, .int .i64 r.pl] 27))
      have Hbx := Lib.hid (And.intro x.b.size (show x.w.heap.size + 1 = (x.w.alloc (.cells #[.int .i64 r.id, .int .i64 r.rd, .int .i64 r.s0, .int .i64 r.s1, .int .i64 r.e0, .int .i64 r.e1, .bool r.op, .slice r.la r.legs.length r.lc, .slice r.pa r.pauses.length r.pc, .int .i64 r.fw, .int .i64 r.fp, .int .i64 r.wh, .int .i64 r.pl] 27)).heap.size from by simp))
      generalize hW : (x.w.alloc (.cells #[.int .i64 r.id, .int .i64 r.rd, .int .i64 r.s0, .int .i64 r.s1, .int .i64 r.e0, .int .i64 r.e1, .bool r.op, .slice r.la r.legs.length r.lc, .slice r.pa r.pauses.length r.pc, .int .i64 r.fw, .int .i64 r.fp, .int .i64 r.wh, .int .i64 r.pl] 27)) = W at *
      clear hW
      generalize x.w.heap.size = bx at *
      have Hup := Lib.hid (Since.up hWup)
      rw [hy0]
      clear hy0
      replace H := Lib.hid (H.out.to hWup)
      have HW := Lib.hid hWup
      have HU := Lib.hid (show IsSince w W from hWup)
      clear hWup hf0 Hbx Hup
      go_upto_region 3 with (first | (go_at_call 10; ((with_reducible refine (Hf.out W y0 H.out).mono ?_); rintro _ _ ⟨rfl, y1, rfl⟩)) | (go_at_call 25; ((with_reducible refine (Hk.out W y1 H.out).mono ?_); rintro _ _ ⟨rfl, y2, rfl⟩)))
      clear Hf Hk
      have hef : (ivE r != 0) = false := by have := He.out; simpa using this
      go_upto_region 4 with (go_at_call 32; ((with_reducible refine (Hex.out W y2 H.out).mono ?_); rintro _ _ ⟨X, y3, rfl, rfl, hat, hX⟩; have HT := Lib.hid hat; have HX := Lib.hid hX; clear hat hX))
      have hV0 : (y3.w.alloc (.cells #[.int .i64 X.id, .int .i64 X.rd, .int .i64 X.s0, .int .i64 X.s1, .int .i64 X.e0, .int .i64 X.e1, .bool X.op, .slice X.la X.legs.length X.lc, .slice X.pa X.pauses.length X.pc, .int .i64 X.fw, .int .i64 X.fp, .int .i64 X.wh, .int .i64 X.pl] 27)).cell? ⟨y3.w.heap.size, 0, none⟩ = some (.int .i64 X.id) := by simp [go_sem]
      have hV1 : (y3.w.alloc (.cells #[.int .i64 X.id, .int .i64 X.rd, .int .i64 X.s0, .int .i64 X.s1, .int .i64 X.e0, .int .i64 X.e1, .bool X.op, .slice X.la X.legs.length X.lc, .slice X.pa X.pauses.length X.pc, .int .i64 X.fw, .int .i64 X.fp, .int .i64 X.wh, .int .i64 X.pl] 27)).cell? ⟨y3.w.heap.size, 1, none⟩ = some (.int .i64 X.rd) := by simp [go_sem]
      have hV2 : (y3.w.alloc (.cells #[.int .i64 X.id, .int .i64 X.rd, .int .i64 X.s0, .int .i64 X.s1, .int .i64 X.e0, .int .i64 X.e1, .bool X.op, .slice X.la X.legs.length X.lc, .slice X.pa X.pauses.length X.pc, .int .i64 X.fw, .int .i64 X.fp, .int .i64 X.wh, .int .i64 X.pl] 27)).cell? ⟨y3.w.heap.size, 2, none⟩ = some (.int .i64 X.s0) := by simp [go_sem]
      have hV3 : (y3.w.alloc (.cells #[.int .i64 X.id, .int .i64 X.rd, .int .i64 X.s0, .int .i64 X.s1, .int .i64 X.e0, .int .i64 X.e1, .bool X.op, .slice X.la X.legs.length X.lc, .slice X.pa X.pauses.length X.pc, .int .i64 X.fw, .int .i64 X.fp, .int .i64 X.wh, .int .i64 X.pl] 27)).cell? ⟨y3.w.heap.size, 3, none⟩ = some (.int .i64 X.s1) := by simp [go_sem]
      have hV4 : (y3.w.alloc (.cells #[.int .i64 X.id, .int .i64 X.rd, .int .i64 X.s0, .int .i64 X.s1, .int .i64 X.e0, .int .i64 X.e1, .bool X.op, .slice X.la X.legs.length X.lc, .slice X.pa X.pauses.length X.pc, .int .i64 X.fw, .int .i64 X.fp, .int .i64 X.wh, .int .i64 X.pl] 27)).cell? ⟨y3.w.heap.size, 4, none⟩ = some (.int .i64 X.e0) := by simp [go_sem]
      have hV5 : (y3.w.alloc (.cells #[.int .i64 X.id, .int .i64 X.rd, .int .i64 X.s0, .int .i64 X.s1, .int .i64 X.e0, .int .i64 X.e1, .bool X.op, .slice X.la X.legs.length X.lc, .slice X.pa X.pauses.length X.pc, .int .i64 X.fw, .int .i64 X.fp, .int .i64 X.wh, .int .i64 X.pl] 27)).cell? ⟨y3.w.heap.size, 5, none⟩ = some (.int .i64 X.e1) := by simp [go_sem]
      have hV6 : (y3.w.alloc (.cells #[.int .i64 X.id, .int .i64 X.rd, .int .i64 X.s0, .int .i64 X.s1, .int .i64 X.e0, .int .i64 X.e1, .bool X.op, .slice X.la X.legs.length X.lc, .slice X.pa X.pauses.length X.pc, .int .i64 X.fw, .int .i64 X.fp, .int .i64 X.wh, .int .i64 X.pl] 27)).cell? ⟨y3.w.heap.size, 6, none⟩ = some (.bool X.op) := by simp [go_sem]
      have hV7 : (y3.w.alloc (.cells #[.int .i64 X.id, .int .i64 X.rd, .int .i64 X.s0, .int .i64 X.s1, .int .i64 X.e0, .int .i64 X.e1, .bool X.op, .slice X.la X.legs.length X.lc, .slice X.pa X.pauses.length X.pc, .int .i64 X.fw, .int .i64 X.fp, .int .i64 X.wh, .int .i64 X.pl] 27)).cell? ⟨y3.w.heap.size, 7, none⟩ = some (.slice X.la X.legs.length X.lc) := by simp [go_sem]
      have hV8 : (y3.w.alloc (.cells #[.int .i64 X.id, .int .i64 X.rd, .int .i64 X.s0, .int .i64 X.s1, .int .i64 X.e0, .int .i64 X.e1, .bool X.op, .slice X.la X.legs.length X.lc, .slice X.pa X.pauses.length X.pc, .int .i64 X.fw, .int .i64 X.fp, .int .i64 X.wh, .int .i64 X.pl] 27)).cell? ⟨y3.w.heap.size, 8, none⟩ = some (.slice X.pa X.pauses.length X.pc) := by simp [go_sem]
      have hV9 : (y3.w.alloc (.cells #[.int .i64 X.id, .int .i64 X.rd, .int .i64 X.s0, .int .i64 X.s1, .int .i64 X.e0, .int .i64 X.e1, .bool X.op, .slice X.la X.legs.length X.lc, .slice X.pa X.pauses.length X.pc, .int .i64 X.fw, .int .i64 X.fp, .int .i64 X.wh, .int .i64 X.pl] 27)).cell? ⟨y3.w.heap.size, 9, none⟩ = some (.int .i64 X.fw) := by simp [go_sem]
      have hV10 : (y3.w.alloc (.cells #[.int .i64 X.id, .int .i64 X.rd, .int .i64 X.s0, .int .i64 X.s1, .int .i64 X.e0, .int .i64 X.e1, .bool X.op, .slice X.la X.legs.length X.lc, .slice X.pa X.pauses.length X.pc, .int .i64 X.fw, .int .i64 X.fp, .int .i64 X.wh, .int .i64 X.pl] 27)).cell? ⟨y3.w.heap.size, 10, none⟩ = some (.int .i64 X.fp) := by simp [go_sem]
      have hV11 : (y3.w.alloc (.cells #[.int .i64 X.id, .int .i64 X.rd, .int .i64 X.s0, .int .i64 X.s1, .int .i64 X.e0, .int .i64 X.e1, .bool X.op, .slice X.la X.legs.length X.lc, .slice X.pa X.pauses.length X.pc, .int .i64 X.fw, .int .i64 X.fp, .int .i64 X.wh, .int .i64 X.pl] 27)).cell? ⟨y3.w.heap.size, 11, none⟩ = some (.int .i64 X.wh) := by simp [go_sem]
      have hV12 : (y3.w.alloc (.cells #[.int .i64 X.id, .int .i64 X.rd, .int .i64 X.s0, .int .i64 X.s1, .int .i64 X.e0, .int .i64 X.e1, .bool X.op, .slice X.la X.legs.length X.lc, .slice X.pa X.pauses.length X.pc, .int .i64 X.fw, .int .i64 X.fp, .int .i64 X.wh, .int .i64 X.pl] 27)).cell? ⟨y3.w.heap.size, 12, none⟩ = some (.int .i64 X.pl) := by simp [go_sem]
      have hVf : ∀ o, (y3.w.alloc (.cells #[.int .i64 X.id, .int .i64 X.rd, .int .i64 X.s0, .int .i64 X.s1, .int .i64 X.e0, .int .i64 X.e1, .bool X.op, .slice X.la X.legs.length X.lc, .slice X.pa X.pauses.length X.pc, .int .i64 X.fw, .int .i64 X.fp, .int .i64 X.wh, .int .i64 X.pl] 27)).frozen? ⟨y3.w.heap.size, o, none⟩ = false := fun o => by simp [go_sem]
      have hlt0 : y3.w.heap.size < (y3.w.alloc (.cells #[.int .i64 X.id, .int .i64 X.rd, .int .i64 X.s0, .int .i64 X.s1, .int .i64 X.e0, .int .i64 X.e1, .bool X.op, .slice X.la X.legs.length X.lc, .slice X.pa X.pauses.length X.pc, .int .i64 X.fw, .int .i64 X.fp, .int .i64 X.wh, .int .i64 X.pl] 27)).heap.size := by simp
      have hst0 : ∃ zz : Since y3.w, (y3.w.alloc (.cells #[.int .i64 X.id, .int .i64 X.rd, .int .i64 X.s0, .int .i64 X.s1, .int .i64 X.e0, .int .i64 X.e1, .bool X.op, .slice X.la X.legs.length X.lc, .slice X.pa X.pauses.length X.pc, .int .i64 X.fw, .int .i64 X.fp, .int .i64 X.wh, .int .i64 X.pl] 27)) = zz.w := IsSince.alloc (IsSince.self _) _
      have hsz0 := y3.b.size
      obtain ⟨y4, e2⟩ := IsSince.alloc (IsSince.of y3) (.cells #[.int .i64 X.id, .int .i64 X.rd, .int .i64 X.s0, .int .i64 X.s1, .int .i64 X.e0, .int .i64 X.e1, .bool X.op, .slice X.la X.legs.length X.lc, .slice X.pa X.pauses.length X.pc, .int .i64 X.fw, .int .i64 X.fp, .int .i64 X.wh, .int .i64 X.pl] 27)
      rw [e2] at hV0 hV1 hV2 hV3 hV4 hV5 hV6 hV7 hV8 hV9 hV10 hV11 hV12 hVf hlt0 hst0 ⊢
      (replace HT := Lib.hid (HT.out.to hst0))
      clear e2 hst0
      generalize y3.w.heap.size = gX at *
      have HhV0 : ∀ q : Since y4.w, q.w.cell? ⟨gX, 0, none⟩ = some (.int .i64 X.id) := fun q => Since.cell hV0 (by omega) q
      have HhV1 : ∀ q : Since y4.w, q.w.cell? ⟨gX, 1, none⟩ = some (.int .i64 X.rd) := fun q => Since.cell hV1 (by omega) q
      have HhV2 : ∀ q : Since y4.w, q.w.cell? ⟨gX, 2, none⟩ = some (.int .i64 X.s0) := fun q => Since.cell hV2 (by omega) q
      have HhV3 : ∀ q : Since y4.w, q.w.cell? ⟨gX, 3, none⟩ = some (.int .i64 X.s1) := fun q => Since.cell hV3 (by omega) q
      have HhV4 : ∀ q : Since y4.w, q.w.cell? ⟨gX, 4, none⟩ = some (.int .i64 X.e0) := fun q => Since.cell hV4 (by omega) q
      have HhV5 : ∀ q : Since y4.w, q.w.cell? ⟨gX, 5, none⟩ = some (.int .i64 X.e1) := fun q => Since.cell hV5 (by omega) q
      have HhV6 : ∀ q : Since y4.w, q.w.cell? ⟨gX, 6, none⟩ = some (.bool X.op) := fun q => Since.cell hV6 (by omega) q
      have HhV7 : ∀ q : Since y4.w, q.w.cell? ⟨gX, 7, none⟩ = some (.slice X.la X.legs.length X.lc) := fun q => Since.cell hV7 (by omega) q
      have HhV8 : ∀ q : Since y4.w, q.w.cell? ⟨gX, 8, none⟩ = some (.slice X.pa X.pauses.length X.pc) := fun q => Since.cell hV8 (by omega) q
      have HhV9 : ∀ q : Since y4.w, q.w.cell? ⟨gX, 9, none⟩ = some (.int .i64 X.fw) := fun q => Since.cell hV9 (by omega) q
      have HhV10 : ∀ q : Since y4.w, q.w.cell? ⟨gX, 10, none⟩ = some (.int .i64 X.fp) := fun q => Since.cell hV10 (by omega) q
      have HhV11 : ∀ q : Since y4.w, q.w.cell? ⟨gX, 11, none⟩ = some (.int .i64 X.wh) := fun q => Since.cell hV11 (by omega) q
      have HhV12 : ∀ q : Since y4.w, q.w.cell? ⟨gX, 12, none⟩ = some (.int .i64 X.pl) := fun q => Since.cell hV12 (by omega) q
      have HhVf : ∀ (q : Since y4.w) (o : Nat), q.w.frozen? ⟨gX, o, none⟩ = false := fun q o => Since.free (hVf o) (by omega) q
      have HhVg := Lib.hid (And.intro hsz0 hlt0)
      clear hlt0 hsz0
      clear hV0 hV1 hV2 hV3 hV4 hV5 hV6 hV7 hV8 hV9 hV10 hV11 hV12 hVf HhVf Hex
      replace H := Lib.hid (H.out.to ⟨y4, rfl⟩)
      replace HU := Lib.hid (HU.out.trans (IsSince.of y4))
      replace hb0_0 := Since.cellTo ⟨y4, rfl⟩ hb0_0
      replace hb0_1 := Since.cellTo ⟨y4, rfl⟩ hb0_1
      replace hb0_2 := Since.cellTo ⟨y4, rfl⟩ hb0_2
      replace hb0_3 := Since.cellTo ⟨y4, rfl⟩ hb0_3
      replace hb0_4 := Since.cellTo ⟨y4, rfl⟩ hb0_4
      replace hb0_5 := Since.cellTo ⟨y4, rfl⟩ hb0_5
      replace hb0_6 := Since.cellTo ⟨y4, rfl⟩ hb0_6
      replace hb0_7 := Since.cellTo ⟨y4, rfl⟩ hb0_7
      replace hb0_8 := Since.cellTo ⟨y4, rfl⟩ hb0_8
      replace hb0_9 := Since.cellTo ⟨y4, rfl⟩ hb0_9
      replace hb0_10 := Since.cellTo ⟨y4, rfl⟩ hb0_10
      replace hb0_11 := Since.cellTo ⟨y4, rfl⟩ hb0_11
      replace hb0_12 := Since.cellTo ⟨y4, rfl⟩ hb0_12
      obtain ⟨q4, hq0⟩ := Since.refl y4.w
      rw [hq0]
      clear hq0
      have Hck := Lib.hid (fun (W : World) (h : X.At W) (w' : World) (hw : IsSince W w') => show Calls Try.prog 25 #[.agg #[.int .i64 X.id, .int .i64 X.rd, .int .i64 X.s0, .int .i64 X.s1, .int .i64 X.e0, .int .i64 X.e1, .bool X.op, .slice X.la X.legs.length X.lc, .slice X.pa X.pauses.length X.pc, .int .i64 X.fw, .int .i64 X.fp, .int .i64 X.wh, .int .i64 X.pl]] w' (Ends W w' (fun o => o = .returned (.int .i64 (ivE X)))) from later hw fun x => rcheck23_calls w' x X (h.to hw))
      have Hsu := Lib.hid (fun (W : World) (h : X.At W) (w' : World) (hw : IsSince W w') => sure_s (W := W) w' hw X h)
      have Hse := Lib.hid (fun (W : World) (h : X.At W) (w' : World) (hw : IsSince W w') => seconds_s (W := W) w' hw X h)
      have Hdo := Lib.hid (fun (W : World) (h : X.At W) (w' : World) (hw : IsSince W w') => doubt_s (W := W) w' hw X h)
      rw [HX.out.e] at Hck
      rw [HX.out.e, HX.out.s] at Hsu
      rw [HX.out.e] at Hse
      rw [HX.out.e, HX.out.d] at Hdo
      have hmn := HX.out.m
      generalize secR X = m at *
      generalize secP X = n at *
      obtain ⟨m1, m2, m3⟩ := hmn
      obtain ⟨s1, s2, s3⟩ := (rideOk_of He.out).s
      obtain ⟨e1, e2, e3⟩ := (rideOk_of He.out).e
      have w1 : IntKind.i64.wrap (m + n) = m + n := IntWalk.i64_in _ (by omega)
      have w2 : IntKind.i64.wrap (r.e0 - r.s0) = r.e0 - r.s0 := IntWalk.i64_in _ (by omega)
      have w3 : (m + n == r.e0 - r.s0) = true := by simpa using m1
      have Hq := Lib.hid (fun w => show (Op.equalIn 10000 31 (.agg #[.int .i64 r.s0, .int .i64 r.e0]) (.agg #[.int .i64 r.s0, .int .i64 r.e0])).run Try.prog w = .ok true w by rw [win_equal]; simp)
      clear m1
      go_upto_region 6 with (go_at_call 25; ((with_reducible refine (Hck.out y4.w HT.out _ (IsSince.of q4)).mono ?_); rintro _ _ ⟨rfl, y5, rfl, _⟩))
      go_upto_region 7 with (go_at_call 12; ((with_reducible refine (Hsu.out y4.w HT.out _ (IsSince.of y5)).mono ?_); rintro _ _ ⟨rfl, y6, rfl, _⟩))
      have hs0 : (y6.w.alloc (.cells #[.int .i64 r.s0, .int .i64 r.e0] 31)).cell? ⟨y6.w.heap.size, 0, none⟩ = some (.int .i64 r.s0) := by simp [go_sem]
      have hs1 : (y6.w.alloc (.cells #[.int .i64 r.s0, .int .i64 r.e0] 31)).cell? ⟨y6.w.heap.size, 1, none⟩ = some (.int .i64 r.e0) := by simp [go_sem]
      have hsf : ∀ o, (y6.w.alloc (.cells #[.int .i64 r.s0, .int .i64 r.e0] 31)).frozen? ⟨y6.w.heap.size, o, none⟩ = false := fun o => by simp [go_sem]
      have hlt0 : y6.w.heap.size < (y6.w.alloc (.cells #[.int .i64 r.s0, .int .i64 r.e0] 31)).heap.size := by simp
      have hst0 : ∃ zz : Since y6.w, (y6.w.alloc (.cells #[.int .i64 r.s0, .int .i64 r.e0] 31)) = zz.w := IsSince.alloc (IsSince.self _) _
      have hsz0 := y6.b.size
      obtain ⟨y7, e2⟩ := IsSince.alloc (IsSince.of y6) (.cells #[.int .i64 r.s0, .int .i64 r.e0] 31)
      rw [e2] at hs0 hs1 hsf hlt0 hst0 ⊢
      skip
      clear e2 hst0
      generalize y6.w.heap.size = gw at *
      have Hhs0 : ∀ q : Since y7.w, q.w.cell? ⟨gw, 0, none⟩ = some (.int .i64 r.s0) := fun q => Since.cell hs0 (by omega) q
      have Hhs1 : ∀ q : Since y7.w, q.w.cell? ⟨gw, 1, none⟩ = some (.int .i64 r.e0) := fun q => Since.cell hs1 (by omega) q
      have Hhsf : ∀ (q : Since y7.w) (o : Nat), q.w.frozen? ⟨gw, o, none⟩ = false := fun q o => Since.free (hsf o) (by omega) q
      have Hhsg := Lib.hid (And.intro hsz0 hlt0)
      clear hlt0 hsz0
      clear hs0 hs1 hsf Hhsf
      replace HT := Lib.hid (HT.out.to ⟨y7, rfl⟩)
      replace HU := Lib.hid (HU.out.trans (IsSince.of y7))
      replace hb0_0 := Since.cellTo ⟨y7, rfl⟩ hb0_0
      replace hb0_1 := Since.cellTo ⟨y7, rfl⟩ hb0_1
      replace hb0_2 := Since.cellTo ⟨y7, rfl⟩ hb0_2
      replace hb0_3 := Since.cellTo ⟨y7, rfl⟩ hb0_3
      replace hb0_4 := Since.cellTo ⟨y7, rfl⟩ hb0_4
      replace hb0_5 := Since.cellTo ⟨y7, rfl⟩ hb0_5
      replace hb0_6 := Since.cellTo ⟨y7, rfl⟩ hb0_6
      replace hb0_7 := Since.cellTo ⟨y7, rfl⟩ hb0_7
      replace hb0_8 := Since.cellTo ⟨y7, rfl⟩ hb0_8
      replace hb0_9 := Since.cellTo ⟨y7, rfl⟩ hb0_9
      replace hb0_10 := Since.cellTo ⟨y7, rfl⟩ hb0_10
      replace hb0_11 := Since.cellTo ⟨y7, rfl⟩ hb0_11
      replace hb0_12 := Since.cellTo ⟨y7, rfl⟩ hb0_12
      replace HhV0 := Since.cellTo ⟨y7, rfl⟩ HhV0
      replace HhV1 := Since.cellTo ⟨y7, rfl⟩ HhV1
      replace HhV2 := Since.cellTo ⟨y7, rfl⟩ HhV2
      replace HhV3 := Since.cellTo ⟨y7, rfl⟩ HhV3
      replace HhV4 := Since.cellTo ⟨y7, rfl⟩ HhV4
      replace HhV5 := Since.cellTo ⟨y7, rfl⟩ HhV5
      replace HhV6 := Since.cellTo ⟨y7, rfl⟩ HhV6
      replace HhV7 := Since.cellTo ⟨y7, rfl⟩ HhV7
      replace HhV8 := Since.cellTo ⟨y7, rfl⟩ HhV8
      replace HhV9 := Since.cellTo ⟨y7, rfl⟩ HhV9
      replace HhV10 := Since.cellTo ⟨y7, rfl⟩ HhV10
      replace HhV11 := Since.cellTo ⟨y7, rfl⟩ HhV11
      replace HhV12 := Since.cellTo ⟨y7, rfl⟩ HhV12
      obtain ⟨q7, hq0⟩ := Since.refl y7.w
      rw [hq0]
      clear hq0
      go_upto_region 8 with (go_at_call 21; ((with_reducible refine (Hse.out y7.w HT.out _ (IsSince.of q7)).mono ?_); rintro _ _ ⟨rfl, y8, rfl, _⟩))
      go_upto_region 9 with (go_at_call 23; ((with_reducible refine (Hdo.out y7.w HT.out _ (IsSince.of y8)).mono ?_); rintro _ _ ⟨rfl, y9, rfl, _⟩))
      have hq := Hq.out
      have hgd := win_guard
      go_wp2_with (go_at_call 11; ((with_reducible refine (awake_calls _ y9).mono ?_); rintro _ _ ⟨rfl, yz, rfl⟩))
      go_ret
      exact ⟨rfl, HU.out.trans (IsSince.of yz)⟩
end Go.Proofs.Ytefodfpnedcodaa
