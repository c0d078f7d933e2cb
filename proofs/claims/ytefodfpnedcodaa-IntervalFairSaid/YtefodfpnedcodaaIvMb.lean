/- The frame of the laws about rides: opening rides. -/
import Derived.Test.YtefodfpnedcodaaIvMa
import Derived.Test.YtefodfpnedcodaaProg
import Derived.IntWalk
import Derived.Shelf.Lay
import Derived.Shelf.SlGeneric
import Derived.Shelf.SlSortCmp.NoneTotal
import Derived.Shelf.SlicesQ.IndexFunc
import Derived.Ground.SlsfProg
import Derived.Ground.SlgfProg
set_option linter.all false
namespace Go.Proofs.Ytefodfpnedcodaa
open Go.ChangeShapes Go.WideShapes Go.ChangeAt Go.RowKit

theorem own : ownKnob Try.prog.godebug = none := by kernel_rfl
theorem laidOut : laidOutB Try.prog = true := by kernel_rfl
theorem cInt : Try.prog.cellsOf 3 = 1 := by kernel_rfl
theorem cBool : Try.prog.cellsOf 4 = 1 := by kernel_rfl
theorem cSpan : Try.prog.cellsOf 23 = 2 := by kernel_rfl
theorem cLeg : Try.prog.cellsOf 60 = 5 := by kernel_rfl
theorem cPause : Try.prog.cellsOf 52 = 4 := by kernel_rfl
theorem cRide : Try.prog.cellsOf 27 = 13 := by kernel_rfl
theorem cLegs : Try.prog.cellsOf 24 = 1 := by kernel_rfl
theorem cPauses : Try.prog.cellsOf 25 = 1 := by kernel_rfl
section
variable {H : Type} {enc : TypeId × Value → H} {w : World} {base fuel : Nat} {spare : Nat → Bool} {held : Bool} {cs : List Value} {y : DataW H × List MemPlace}
noncomputable def spanF : Array Field := Try.prog.fieldsOf 23
theorem uSpan : Try.prog.underlying 23 = some (.struct spanF) := by kernel_rfl
theorem spanL : (spanF.toList.map fun f => (f.offset, f.type)) = [(0, 3), (1, 3)] := by kernel_rfl
noncomputable def legF : Array Field := Try.prog.fieldsOf 60
theorem uLeg : Try.prog.underlying 60 = some (.struct legF) := by kernel_rfl
theorem legL : (legF.toList.map fun f => (f.offset, f.type)) = [(0, 3), (1, 23), (3, 23)] := by kernel_rfl
noncomputable def pauseF : Array Field := Try.prog.fieldsOf 52
theorem uPause : Try.prog.underlying 52 = some (.struct pauseF) := by kernel_rfl
theorem pauseL : (pauseF.toList.map fun f => (f.offset, f.type)) = [(0, 23), (2, 23)] := by kernel_rfl
noncomputable def rideF : Array Field := Try.prog.fieldsOf 27
theorem uRide : Try.prog.underlying 27 = some (.struct rideF) := by kernel_rfl
theorem rideFL : (rideF.toList.map fun f => (f.offset, f.type)) = [(0, 3), (1, 3), (2, 23), (4, 23), (6, 4), (7, 24), (8, 25), (9, 3), (10, 3), (11, 3), (12, 3)] := by kernel_rfl
theorem int1 {c : Value} (h : DataW.trod enc Try.prog w base spare held fuel 3 [c] = some y) : ∃ n : Int, c = .int .i64 n ∧ I64 n := by
  obtain ⟨k, hcs, _, hwf⟩ := DataW.trod_int Try.underlying3 h
  simp at hcs
  exact ⟨k, hcs, wf_i64 hwf⟩
theorem span1 {c d : Value} (h : DataW.trod enc Try.prog w base spare held fuel 23 [c, d] = some y) : ∃ m n : Int, c = .int .i64 m ∧ d = .int .i64 n ∧ I64 m ∧ I64 n := by
  obtain ⟨_, hf⟩ := trod_fields uSpan spanL h
  obtain ⟨_, _, h0⟩ := hf 0 _ rfl
  obtain ⟨_, _, h1⟩ := hf 1 _ rfl
  simp only [cInt] at h0 h1
  obtain ⟨m, rfl, hm⟩ := int1 h0
  obtain ⟨n, rfl, hn⟩ := int1 h1
  exact ⟨m, n, rfl, rfl, hm, hn⟩
def Leg.I (x : Leg) : Prop := I64 x.b ∧ I64 x.f0 ∧ I64 x.f1 ∧ I64 x.t0 ∧ I64 x.t1
def Pse.I (x : Pse) : Prop := I64 x.f0 ∧ I64 x.f1 ∧ I64 x.t0 ∧ I64 x.t1
def Ride.I (x : Ride) : Prop := I64 x.id ∧ I64 x.rd ∧ I64 x.s0 ∧ I64 x.s1 ∧ I64 x.e0 ∧ I64 x.e1 ∧ I64 x.fw ∧ I64 x.fp ∧ I64 x.wh ∧ I64 x.pl ∧ (∀ l ∈ x.legs, l.I) ∧ (∀ p ∈ x.pauses, p.I)
set_option maxRecDepth 20000 in
theorem leg1 (h : DataW.trod enc Try.prog w base spare held fuel 60 cs = some y) : ∃ x : Leg, cs = x.cs ∧ x.I := by
  obtain ⟨hl, hf⟩ := trod_fields uLeg legL h
  rw [cLeg] at hl
  match cs, hl with
  | [c0, c1, c2, c3, c4], _ =>
    obtain ⟨_, _, h0⟩ := hf 0 _ rfl
    obtain ⟨_, _, h1⟩ := hf 1 _ rfl
    obtain ⟨_, _, h2⟩ := hf 2 _ rfl
    simp only [cInt, cSpan] at h0 h1 h2
    obtain ⟨b, rfl, i0⟩ := int1 h0
    obtain ⟨f0, f1, rfl, rfl, i1, i2⟩ := span1 h1
    obtain ⟨t0, t1, rfl, rfl, i3, i4⟩ := span1 h2
    exact ⟨⟨b, f0, f1, t0, t1⟩, rfl, i0, i1, i2, i3, i4⟩
set_option maxRecDepth 20000 in
theorem pause1 (h : DataW.trod enc Try.prog w base spare held fuel 52 cs = some y) : ∃ x : Pse, cs = x.cs ∧ x.I := by
  obtain ⟨hl, hf⟩ := trod_fields uPause pauseL h
  rw [cPause] at hl
  match cs, hl with
  | [c1, c2, c3, c4], _ =>
    obtain ⟨_, _, h1⟩ := hf 0 _ rfl
    obtain ⟨_, _, h2⟩ := hf 1 _ rfl
    simp only [cSpan] at h1 h2
    obtain ⟨f0, f1, rfl, rfl, i1, i2⟩ := span1 h1
    obtain ⟨t0, t1, rfl, rfl, i3, i4⟩ := span1 h2
    exact ⟨⟨f0, f1, t0, t1⟩, rfl, i1, i2, i3, i4⟩
/-- a ride that came in -/
def RideIn (w : World) (x : Ride) : Prop := x.At w ∧ x.I ∧ (x.la = none → x.lc = 0) ∧ (x.pa = none → x.pc = 0) ∧ x.legs.length ≤ x.lc ∧ x.lc ≤ 9223372036854775807 ∧ x.pauses.length ≤ x.pc ∧ x.pc ≤ 9223372036854775807
set_option maxRecDepth 20000 in
theorem ride1 (h : DataW.trod enc Try.prog w base spare held fuel 27 cs = some y) : ∃ x : Ride, cs = x.cs ∧ RideIn w x := by
  obtain ⟨hl, hf⟩ := trod_fields uRide rideFL h
  rw [cRide] at hl
  match cs, hl with
  | [c0, c1, c2, c3, c4, c5, c6, c7, c8, c9, c10, c11, c12], _ =>
    obtain ⟨_, _, h0⟩ := hf 0 _ rfl
    obtain ⟨_, _, h1⟩ := hf 1 _ rfl
    obtain ⟨_, _, h2⟩ := hf 2 _ rfl
    obtain ⟨_, _, h3⟩ := hf 3 _ rfl
    obtain ⟨_, _, h4⟩ := hf 4 _ rfl
    obtain ⟨_, _, h5⟩ := hf 5 _ rfl
    obtain ⟨_, _, h6⟩ := hf 6 _ rfl
    obtain ⟨_, _, h7⟩ := hf 7 _ rfl
    obtain ⟨_, _, h8⟩ := hf 8 _ rfl
    obtain ⟨_, _, h9⟩ := hf 9 _ rfl
    obtain ⟨_, _, h10⟩ := hf 10 _ rfl
    simp only [cInt, cSpan, cBool, cLegs, cPauses] at h0 h1 h2 h3 h4 h5 h6 h7 h8 h9 h10
    obtain ⟨id, rfl, i0⟩ := int1 h0
    obtain ⟨rd, rfl, i1⟩ := int1 h1
    obtain ⟨s0, s1, rfl, rfl, i2, i3⟩ := span1 h2
    obtain ⟨e0, e1, rfl, rfl, i4, i5⟩ := span1 h3
    obtain ⟨op, ho, _⟩ := DataW.trod_bool Try.underlying4 h4
    have ho : c6 = .bool op := by simpa using ho
    subst ho
    obtain ⟨la, legs, lc, hlc, l1, l2, l3, l4, l5⟩ := open_sliceG (encA := Leg.cs) (Q := Leg.I) Try.underlying24 cLeg (by decide) Leg.len (fun _ _ _ h => leg1 h) h5
    subst hlc
    obtain ⟨pa, pauses, pc, hpc, p1, p2, p3, p4, p5⟩ := open_sliceG (encA := Pse.cs) (Q := Pse.I) Try.underlying25 cPause (by decide) Pse.len (fun _ _ _ h => pause1 h) h6
    subst hpc
    obtain ⟨fw, rfl, i6⟩ := int1 h7
    obtain ⟨fp, rfl, i7⟩ := int1 h8
    obtain ⟨wh, rfl, i8⟩ := int1 h9
    obtain ⟨pl, rfl, i9⟩ := int1 h10
    exact ⟨⟨id, rd, s0, s1, e0, e1, op, la, legs, lc, pa, pauses, pc, fw, fp, wh, pl⟩, rfl, ⟨l4, p4, by show legs.length ≤ _; omega, by show pauses.length ≤ _; omega⟩, ⟨i0, i1, i2, i3, i4, i5, i6, i7, i8, i9, l5, p5⟩, l3, p3, l1, l2, p1, p2⟩
end
section
variable {H : Type} {enc : TypeId × Value → H} {w : World} {b0 : Nat} {r : Reach} {held : Bool} {v : Value} {d : DataW H} {p : List MemPlace}
set_option maxRecDepth 20000 in
theorem open_ride (hv : Value.okWide Try.prog w r b0 27 v) (h : DataW.Trod enc Try.prog w 0 (fun _ => true) held 27 v d p) :
    ∃ x : Ride, v = x.ag ∧ RideIn w x := by
  obtain ⟨cs, rfl, hsz⟩ := okWide_struct uRide hv
  obtain ⟨l⟩ := cs
  obtain ⟨fuel, hf⟩ := h
  obtain ⟨x, hx, hi⟩ := ride1 (show DataW.trod enc Try.prog w 0 (fun _ => true) held fuel 27 l = some (d, p) from hf)
  subst hx
  exact ⟨x, rfl, hi⟩
end
end Go.Proofs.Ytefodfpnedcodaa
/- The walks of the program's check of a ride, first part: intervals, ranges. -/
namespace Go.Proofs.Ytefodfpnedcodaa
open Go.RowKit

set_option maxHeartbeats 1000000 in
theorem vld_calls (w : World) (x : Since w) (lo hi : Int) :
    Calls Try.prog 60 #[.agg #[.int .i64 lo, .int .i64 hi]] x.w fun o w' => o = .returned (.bool (vldS lo hi)) ∧ ∃ y : Since w, w' = y.w := by
  rcases (by omega : lo < 0 ∨ (0 ≤ lo ∧ hi < lo) ∨ (0 ≤ lo ∧ lo ≤ hi ∧ 4294943999 < hi) ∨ (0 ≤ lo ∧ lo ≤ hi ∧ hi ≤ 4294943999)) with h1 | ⟨h1, h2⟩ | ⟨h1, h2, h3⟩ | ⟨h1, h2, h3⟩
  case inr.inr.inr =>
    have hv : vldS lo hi = true := (vldS_iff lo hi).2 ⟨h1, h2, h3⟩
    have Hv := Lib.hid hv; clear hv
    go_enter Try.func60, Try.ntmps60
    go_wp2_with fail
    go_ret
    exact ⟨ret_bool Hv.out.symm, x.alloc _⟩
  all_goals
    have hv : vldS lo hi = false := by
      cases h : vldS lo hi
      · rfl
      · rw [vldS_iff] at h; omega
    have Hv := Lib.hid hv; clear hv
    go_enter Try.func60, Try.ntmps60
    go_wp2_with fail
    go_ret
    exact ⟨ret_bool (by first | exact Hv.out.symm | (rw [Hv.out]; exact decide_eq_false (by omega))), x.alloc _⟩
theorem ranged_no {r : Ride} (h : headV r = false ∨ r.legs.all legV = false ∨ r.pauses.all pseV = false) : rangedB r = false := by
  unfold rangedB; rcases h with h | h | h <;> simp [h]
theorem ranged_yes {r : Ride} (h1 : headV r = true) (h2 : r.legs.all legV = true) (h3 : r.pauses.all pseV = true) : rangedB r = true := by
  unfold rangedB; rw [h1, h2, h3]; rfl
set_option maxRecDepth 100000 in
set_option maxHeartbeats 8000000 in
theorem ranged_calls (w : World) (x : Since w) (r : Ride) (h : r.At w) :
    Calls Try.prog 52 #[.agg #[.int .i64 r.id, .int .i64 r.rd, .int .i64 r.s0, .int .i64 r.s1, .int .i64 r.e0, .int .i64 r.e1, .bool r.op, .slice r.la r.legs.length r.lc, .slice r.pa r.pauses.length r.pc, .int .i64 r.fw, .int .i64 r.fp, .int .i64 r.wh, .int .i64 r.pl]] x.w fun o w' => o = .returned (.bool (rangedB r)) ∧ ∃ y : Since w, w' = y.w := by
  have HL := Lib.hid h.l; have HP := Lib.hid h.p
  have hlm := h.lm
  have hpm := h.pm
  clear h
  generalize r.la = la at HL ⊢
  generalize r.pa = pa at HP ⊢
  rcases (by omega : r.id < 1 ∨ (1 ≤ r.id ∧ 1000000 < r.id) ∨ (1 ≤ r.id ∧ r.id ≤ 1000000 ∧ r.rd < 0) ∨ (1 ≤ r.id ∧ r.id ≤ 1000000 ∧ 0 ≤ r.rd ∧ 127 < r.rd) ∨ (1 ≤ r.id ∧ r.id ≤ 1000000 ∧ 0 ≤ r.rd ∧ r.rd ≤ 127)) with h1 | ⟨h1, h2⟩ | ⟨h1, h2, h3⟩ | ⟨h1, h2, h3, h4⟩ | ⟨h1, h2, h3, h4⟩
  case inr.inr.inr.inr =>
    have hhead : headV r = (vldS r.s0 r.s1 && vldS r.e0 r.e1) := by unfold headV; simp [h1, h2, h3, h4]
    have Hhead := Lib.hid hhead
    clear hhead
    go_enter Try.func52, Try.ntmps52
    go_upto_region 1 with fail
    have hb0_0 : ∀ y : Since (x.w.alloc (.cells #[.int .i64 r.id, .int .i64 r.rd, .int .i64 r.s0, .int .i64 r.s1, .int .i64 r.e0, .int .i64 r.e1, .bool r.op, .slice la r.legs.length r.lc, .slice pa r.pauses.length r.pc, .int .i64 r.fw, .int .i64 r.fp, .int .i64 r.wh, .int .i64 r.pl] 27)), y.w.cell? ⟨x.w.heap.size, 0, none⟩ = some (.int .i64 r.id) := fun y => Since.cell (by simp [go_sem]) (by first | (simp; done) | (simp; omega)) y
    have hb0_1 : ∀ y : Since (x.w.alloc (.cells #[.int .i64 r.id, .int .i64 r.rd, .int .i64 r.s0, .int .i64 r.s1, .int .i64 r.e0, .int .i64 r.e1, .bool r.op, .slice la r.legs.length r.lc, .slice pa r.pauses.length r.pc, .int .i64 r.fw, .int .i64 r.fp, .int .i64 r.wh, .int .i64 r.pl] 27)), y.w.cell? ⟨x.w.heap.size, 1, none⟩ = some (.int .i64 r.rd) := fun y => Since.cell (by simp [go_sem]) (by first | (simp; done) | (simp; omega)) y
    have hb0_2 : ∀ y : Since (x.w.alloc (.cells #[.int .i64 r.id, .int .i64 r.rd, .int .i64 r.s0, .int .i64 r.s1, .int .i64 r.e0, .int .i64 r.e1, .bool r.op, .slice la r.legs.length r.lc, .slice pa r.pauses.length r.pc, .int .i64 r.fw, .int .i64 r.fp, .int .i64 r.wh, .int .i64 r.pl] 27)), y.w.cell? ⟨x.w.heap.size, 2, none⟩ = some (.int .i64 r.s0) := fun y => Since.cell (by simp [go_sem]) (by first | (simp; done) | (simp; omega)) y
    have hb0_3 : ∀ y : Since (x.w.alloc (.cells #[.int .i64 r.id, .int .i64 r.rd, .int .i64 r.s0, .int .i64 r.s1, .int .i64 r.e0, .int .i64 r.e1, .bool r.op, .slice la r.legs.length r.lc, .slice pa r.pauses.length r.pc, .int .i64 r.fw, .int .i64 r.fp, .int .i64 r.wh, .int .i64 r.pl] 27)), y.w.cell? ⟨x.w.heap.size, 3, none⟩ = some (.int .i64 r.s1) := fun y => Since.cell (by simp [go_sem]) (by first | (simp; done) | (simp; omega)) y
    have hb0_4 : ∀ y : Since (x.w.alloc (.cells #[.int .i64 r.id, .int .i64 r.rd, .int .i64 r.s0, .int .i64 r.s1, .int .i64 r.e0, .int .i64 r.e1, .bool r.op, .slice la r.legs.length r.lc, .slice pa r.pauses.length r.pc, .int .i64 r.fw, .int .i64 r.fp, .int .i64 r.wh, .int .i64 r.pl] 27)), y.w.cell? ⟨x.w.heap.size, 4, none⟩ = some (.int .i64 r.e0) := fun y => Since.cell (by simp [go_sem]) (by first | (simp; done) | (simp; omega)) y
    have hb0_5 : ∀ y : Since (x.w.alloc (.cells #[.int .i64 r.id, .int .i64 r.rd, .int .i64 r.s0, .int .i64 r.s1, .int .i64 r.e0, .int .i64 r.e1, .bool r.op, .slice la r.legs.length r.lc, .slice pa r.pauses.length r.pc, .int .i64 r.fw, .int .i64 r.fp, .int .i64 r.wh, .int .i64 r.pl] 27)), y.w.cell? ⟨x.w.heap.size, 5, none⟩ = some (.int .i64 r.e1) := fun y => Since.cell (by simp [go_sem]) (by first | (simp; done) | (simp; omega)) y
    have hb0_6 : ∀ y : Since (x.w.alloc (.cells #[.int .i64 r.id, .int .i64 r.rd, .int .i64 r.s0, .int .i64 r.s1, .int .i64 r.e0, .int .i64 r.e1, .bool r.op, .slice la r.legs.length r.lc, .slice pa r.pauses.length r.pc, .int .i64 r.fw, .int .i64 r.fp, .int .i64 r.wh, .int .i64 r.pl] 27)), y.w.cell? ⟨x.w.heap.size, 6, none⟩ = some (.bool r.op) := fun y => Since.cell (by simp [go_sem]) (by first | (simp; done) | (simp; omega)) y
    have hb0_7 : ∀ y : Since (x.w.alloc (.cells #[.int .i64 r.id, .int .i64 r.rd, .int .i64 r.s0, .int .i64 r.s1, .int .i64 r.e0, .int .i64 r.e1, .bool r.op, .slice la r.legs.length r.lc, .slice pa r.pauses.length r.pc, .int .i64 r.fw, .int .i64 r.fp, .int .i64 r.wh, .int .i64 r.pl] 27)), y.w.cell? ⟨x.w.heap.size, 7, none⟩ = some (.slice la r.legs.length r.lc) := fun y => Since.cell (by simp [go_sem]) (by first | (simp; done) | (simp; omega)) y
    have hb0_8 : ∀ y : Since (x.w.alloc (.cells #[.int .i64 r.id, .int .i64 r.rd, .int .i64 r.s0, .int .i64 r.s1, .int .i64 r.e0, .int .i64 r.e1, .bool r.op, .slice la r.legs.length r.lc, .slice pa r.pauses.length r.pc, .int .i64 r.fw, .int .i64 r.fp, .int .i64 r.wh, .int .i64 r.pl] 27)), y.w.cell? ⟨x.w.heap.size, 8, none⟩ = some (.slice pa r.pauses.length r.pc) := fun y => Since.cell (by simp [go_sem]) (by first | (simp; done) | (simp; omega)) y
    have hb0_9 : ∀ y : Since (x.w.alloc (.cells #[.int .i64 r.id, .int .i64 r.rd, .int .i64 r.s0, .int .i64 r.s1, .int .i64 r.e0, .int .i64 r.e1, .bool r.op, .slice la r.legs.length r.lc, .slice pa r.pauses.length r.pc, .int .i64 r.fw, .int .i64 r.fp, .int .i64 r.wh, .int .i64 r.pl] 27)), y.w.cell? ⟨x.w.heap.size, 9, none⟩ = some (.int .i64 r.fw) := fun y => Since.cell (by simp [go_sem]) (by first | (simp; done) | (simp; omega)) y
    have hb0_10 : ∀ y : Since (x.w.alloc (.cells #[.int .i64 r.id, .int .i64 r.rd, .int .i64 r.s0, .int .i64 r.s1, .int .i64 r.e0, .int .i64 r.e1, .bool r.op, .slice la r.legs.length r.lc, .slice pa r.pauses.length r.pc, .int .i64 r.fw, .int .i64 r.fp, .int .i64 r.wh, .int .i64 r.pl] 27)), y.w.cell? ⟨x.w.heap.size, 10, none⟩ = some (.int .i64 r.fp) := fun y => Since.cell (by simp [go_sem]) (by first | (simp; done) | (simp; omega)) y
    have hb0_11 : ∀ y : Since (x.w.alloc (.cells #[.int .i64 r.id, .int .i64 r.rd, .int .i64 r.s0, .int .i64 r.s1, .int .i64 r.e0, .int .i64 r.e1, .bool r.op, .slice la r.legs.length r.lc, .slice pa r.pauses.length r.pc, .int .i64 r.fw, .int .i64 r.fp, .int .i64 r.wh, .int .i64 r.pl] 27)), y.w.cell? ⟨x.w.heap.size, 11, none⟩ = some (.int .i64 r.wh) := fun y => Since.cell (by simp [go_sem]) (by first | (simp; done) | (simp; omega)) y
    have hb0_12 : ∀ y : Since (x.w.alloc (.cells #[.int .i64 r.id, .int .i64 r.rd, .int .i64 r.s0, .int .i64 r.s1, .int .i64 r.e0, .int .i64 r.e1, .bool r.op, .slice la r.legs.length r.lc, .slice pa r.pauses.length r.pc, .int .i64 r.fw, .int .i64 r.fp, .int .i64 r.wh, .int .i64 r.pl] 27)), y.w.cell? ⟨x.w.heap.size, 12, none⟩ = some (.int .i64 r.pl) := fun y => Since.cell (by simp [go_sem]) (by first | (simp; done) | (simp; omega)) y
    have hf0 : ∀ (y : Since (x.w.alloc (.cells #[.int .i64 r.id, .int .i64 r.rd, .int .i64 r.s0, .int .i64 r.s1, .int .i64 r.e0, .int .i64 r.e1, .bool r.op, .slice la r.legs.length r.lc, .slice pa r.pauses.length r.pc, .int .i64 r.fw, .int .i64 r.fp, .int .i64 r.wh, .int .i64 r.pl] 27))) (o : Nat), y.w.frozen? ⟨x.w.heap.size, o, none⟩ = false := fun y o => Since.free (by simp [go_sem]) (by first | (simp; done) | (simp; omega)) y
    have hWup : ∃ z : Since w, (x.w.alloc (.cells #[.int .i64 r.id, .int .i64 r.rd, .int .i64 r.s0, .int .i64 r.s1, .int .i64 r.e0, .int .i64 r.e1, .bool r.op, .slice la r.legs.length r.lc, .slice pa r.pauses.length r.pc, .int .i64 r.fw, .int .i64 r.fp, .int .i64 r.wh, .int .i64 r.pl] 27)) = z.w := x.alloc _
    obtain ⟨y0, hy0⟩ := Since.refl (x.w.alloc (.cells #[.int .i64 r.id, .int .i64 r.rd, .int .i64 r.s0, .int .i64 r.s1, .int .i64 r.e0, .int .i64 r.e1, .bool r.op, .slice la r.legs.length r.lc, .slice pa r.pauses.length r.pc, .int .i64 r.fw, .int .i64 r.fp, .int .i64 r.wh, .int .i64 r.pl] 27))
    have Hbx := Lib.hid (And.intro x.b.size (show x.w.heap.size + 1 = (x.w.alloc (.cells #[.int .i64 r.id, .int .i64 r.rd, .int .i64 r.s0, .int .i64 r.s1, .int .i64 r.e0, .int .i64 r.e1, .bool r.op, .slice la r.legs.length r.lc, .slice pa r.pauses.length r.pc, .int .i64 r.fw, .int .i64 r.fp, .int .i64 r.wh, .int .i64 r.pl] 27)).heap.size from by simp))
    generalize hW : (x.w.alloc (.cells #[.int .i64 r.id, .int .i64 r.rd, .int .i64 r.s0, .int .i64 r.s1, .int .i64 r.e0, .int .i64 r.e1, .bool r.op, .slice la r.legs.length r.lc, .slice pa r.pauses.length r.pc, .int .i64 r.fw, .int .i64 r.fp, .int .i64 r.wh, .int .i64 r.pl] 27)) = W at *
    clear hW
    generalize x.w.heap.size = bx at *
    have Hup := Lib.hid (Since.up hWup)
    rw [hy0]
    clear hy0
    replace HL := Lib.hid (HL.out.to hWup); replace HP := Lib.hid (HP.out.to hWup)
    clear hWup
    cases hs : vldS r.s0 r.s1 with
    | false =>
      have Hr := Lib.hid (ranged_no (r := r) (.inl (by rw [Hhead.out, hs]; rfl)))
      have Hs := Lib.hid hs; clear hs
      go_wp2_with (go_at_call 60; refine (vld_calls W _ _ _).mono ?_; rintro _ _ ⟨rfl, y1, rfl⟩; rw [Hs.out])
      go_ret
      exact ⟨ret_bool Hr.out.symm, Hup.out _⟩
    | true =>
      cases he : vldS r.e0 r.e1 with
      | false =>
        have Hr := Lib.hid (ranged_no (r := r) (.inl (by rw [Hhead.out, hs, he]; rfl)))
        have Hs := Lib.hid hs; have He := Lib.hid he; clear hs he
        go_wp2_with (first | (go_at_call 60; ((with_reducible refine (vld_calls W _ r.s0 r.s1).mono ?_); rintro _ _ ⟨rfl, y1, rfl⟩; rw [Hs.out])) | (go_at_call 60; ((with_reducible refine (vld_calls W _ r.e0 r.e1).mono ?_); rintro _ _ ⟨rfl, y1, rfl⟩; rw [He.out])))
        go_ret
        exact ⟨ret_bool Hr.out.symm, Hup.out _⟩
      | true =>
        have Hh := Lib.hid (show headV r = true by rw [Hhead.out, hs, he]; rfl)
        have Hs := Lib.hid hs; have He := Lib.hid he; clear hs he
        go_upto_region 4 with (first | (go_at_call 60; ((with_reducible refine (vld_calls W _ r.s0 r.s1).mono ?_); rintro _ _ ⟨rfl, y1, rfl⟩; rw [Hs.out])) | (go_at_call 60; ((with_reducible refine (vld_calls W _ r.e0 r.e1).mono ?_); rintro _ _ ⟨rfl, y1, rfl⟩; rw [He.out])))
        go_loopw [40] (fun i wr => ∃ (k : Nat) (y : Since W), k ≤ r.legs.length ∧ i = .int .i64 k ∧ wr = y.w ∧ ∀ j, j < k → ∀ e, r.legs[j]? = some e → legV e = true) (fun i _ => r.legs.length - (intOf i).toNat)
        case atStart => exact ⟨0, _, by omega, rfl, rfl, fun j hj => by omega⟩
        case round =>
          obtain ⟨k, y, hk, rfl, rfl, hok⟩ := hrel
          have Hok := Lib.hid hok; clear hok
          by_cases hlt : k < r.legs.length
          · obtain ⟨e, he⟩ : ∃ e, r.legs[k]? = some e := ⟨_, List.getElem?_eq_getElem hlt⟩
            obtain ⟨b1, off1, rfl, h1'⟩ := Els.leg HL.out he
            have pa0 := h1'.c0
            have pa1 := h1'.c1
            have pa2 := h1'.c2
            have pa3 := h1'.c3
            have pa4 := h1'.c4
            have hk0 : (0 : Int) ≤ (k : Int) := by omega
            have hkl : (k : Int) < (r.legs.length : Int) := by omega
            have He' := Lib.hid he; clear h1' he
            go_upto_region 6 with fail
            have hx0 : (y.w.alloc (.cells #[.int .i64 e.b, .int .i64 e.f0, .int .i64 e.f1, .int .i64 e.t0, .int .i64 e.t1] 60)).cell? ⟨y.w.heap.size, 0, none⟩ = some (.int .i64 e.b) := by simp [go_sem]
            have hx1 : (y.w.alloc (.cells #[.int .i64 e.b, .int .i64 e.f0, .int .i64 e.f1, .int .i64 e.t0, .int .i64 e.t1] 60)).cell? ⟨y.w.heap.size, 1, none⟩ = some (.int .i64 e.f0) := by simp [go_sem]
            have hx2 : (y.w.alloc (.cells #[.int .i64 e.b, .int .i64 e.f0, .int .i64 e.f1, .int .i64 e.t0, .int .i64 e.t1] 60)).cell? ⟨y.w.heap.size, 2, none⟩ = some (.int .i64 e.f1) := by simp [go_sem]
            have hx3 : (y.w.alloc (.cells #[.int .i64 e.b, .int .i64 e.f0, .int .i64 e.f1, .int .i64 e.t0, .int .i64 e.t1] 60)).cell? ⟨y.w.heap.size, 3, none⟩ = some (.int .i64 e.t0) := by simp [go_sem]
            have hx4 : (y.w.alloc (.cells #[.int .i64 e.b, .int .i64 e.f0, .int .i64 e.f1, .int .i64 e.t0, .int .i64 e.t1] 60)).cell? ⟨y.w.heap.size, 4, none⟩ = some (.int .i64 e.t1) := by simp [go_sem]
            have hxf : ∀ o, (y.w.alloc (.cells #[.int .i64 e.b, .int .i64 e.f0, .int .i64 e.f1, .int .i64 e.t0, .int .i64 e.t1] 60)).frozen? ⟨y.w.heap.size, o, none⟩ = false := fun o => by simp [go_sem]
            have hlt0 : y.w.heap.size < (y.w.alloc (.cells #[.int .i64 e.b, .int .i64 e.f0, .int .i64 e.f1, .int .i64 e.t0, .int .i64 e.t1] 60)).heap.size := by simp
            have hst0 : ∃ zz : Since y.w, (y.w.alloc (.cells #[.int .i64 e.b, .int .i64 e.f0, .int .i64 e.f1, .int .i64 e.t0, .int .i64 e.t1] 60)) = zz.w := IsSince.alloc (IsSince.self _) _
            have hsz0 := y.b.size
            obtain ⟨y2, e2⟩ := IsSince.alloc (IsSince.of y) (.cells #[.int .i64 e.b, .int .i64 e.f0, .int .i64 e.f1, .int .i64 e.t0, .int .i64 e.t1] 60)
            rw [e2] at hx0 hx1 hx2 hx3 hx4 hxf hlt0 hst0 ⊢
            skip
            clear e2 hst0
            generalize y.w.heap.size = g at *
            have Hhx0 : ∀ q : Since y2.w, q.w.cell? ⟨g, 0, none⟩ = some (.int .i64 e.b) := fun q => Since.cell hx0 (by omega) q
            have Hhx1 : ∀ q : Since y2.w, q.w.cell? ⟨g, 1, none⟩ = some (.int .i64 e.f0) := fun q => Since.cell hx1 (by omega) q
            have Hhx2 : ∀ q : Since y2.w, q.w.cell? ⟨g, 2, none⟩ = some (.int .i64 e.f1) := fun q => Since.cell hx2 (by omega) q
            have Hhx3 : ∀ q : Since y2.w, q.w.cell? ⟨g, 3, none⟩ = some (.int .i64 e.t0) := fun q => Since.cell hx3 (by omega) q
            have Hhx4 : ∀ q : Since y2.w, q.w.cell? ⟨g, 4, none⟩ = some (.int .i64 e.t1) := fun q => Since.cell hx4 (by omega) q
            have Hhxf : ∀ (q : Since y2.w) (o : Nat), q.w.frozen? ⟨g, o, none⟩ = false := fun q o => Since.free (hxf o) (by omega) q
            have Hhxg := Lib.hid (And.intro hsz0 hlt0)
            clear hlt0 hsz0
            obtain ⟨q0, hq0⟩ := Since.refl y2.w
            rw [hq0]
            clear hq0
            cases hf : vldS e.f0 e.f1 with
            | false =>
              have Hr := Lib.hid (ranged_no (r := r) (.inr <| .inl (all_no He'.out (by unfold legV; rw [hf]; rfl))))
              have Hf := Lib.hid hf; clear hf
              go_wp2_with (go_at_call 60; ((with_reducible refine (vld_calls y2.w _ e.f0 e.f1).mono ?_); rintro _ _ ⟨rfl, z1, rfl⟩; rw [Hf.out]))
              go_ret
              exact ⟨ret_bool Hr.out.symm, by obtain ⟨q, e⟩ := y2.trans z1; rw [e]; exact Hup.out q⟩
            | true =>
              have Hf := Lib.hid hf; clear hf
              cases ht : vldS e.t0 e.t1 with
              | false =>
                have Hr := Lib.hid (ranged_no (r := r) (.inr <| .inl (all_no He'.out (by unfold legV; rw [Hf.out, ht]; rfl))))
                have Ht := Lib.hid ht; clear ht
                go_wp2_with (first | (go_at_call 60; ((with_reducible refine (vld_calls y2.w _ e.f0 e.f1).mono ?_); rintro _ _ ⟨rfl, z1, rfl⟩; rw [Hf.out])) | (go_at_call 60; ((with_reducible refine (vld_calls y2.w _ e.t0 e.t1).mono ?_); rintro _ _ ⟨rfl, z1, rfl⟩; rw [Ht.out])))
                go_ret
                exact ⟨ret_bool Hr.out.symm, by obtain ⟨q, e⟩ := y2.trans z1; rw [e]; exact Hup.out q⟩
              | true =>
                have Hv := Lib.hid (show legV e = true by unfold legV; rw [Hf.out, ht]; rfl)
                have Ht := Lib.hid ht; clear ht
                go_wp2_with (first | (go_at_call 60; ((with_reducible refine (vld_calls y2.w _ e.f0 e.f1).mono ?_); rintro _ _ ⟨rfl, z1, rfl⟩; rw [Hf.out])) | (go_at_call 60; ((with_reducible refine (vld_calls y2.w _ e.t0 e.t1).mono ?_); rintro _ _ ⟨rfl, z1, rfl⟩; rw [Ht.out])))
                obtain ⟨q, eq⟩ := y2.trans z1
                rw [eq]
                go_roundw
                case rel => exact ⟨k + 1, q, by omega, by go_num, rfl, upto_next Hok.out He'.out Hv.out⟩
                case measure => simp [intOf] <;> omega
          · obtain rfl : k = r.legs.length := by omega
            have HvL := Lib.hid (all_yes Hok.out)
            go_upto_region 10 with fail
            go_loopw [58] (fun i wr => ∃ (k : Nat) (y : Since W), k ≤ r.pauses.length ∧ i = .int .i64 k ∧ wr = y.w ∧ ∀ j, j < k → ∀ e, r.pauses[j]? = some e → pseV e = true) (fun i _ => r.pauses.length - (intOf i).toNat)
            case atStart => exact ⟨0, _, by omega, rfl, rfl, fun j hj => by omega⟩
            case round =>
              obtain ⟨k, y, hk, rfl, rfl, hok⟩ := hrel
              have Hok := Lib.hid hok; clear hok
              by_cases hlt : k < r.pauses.length
              · obtain ⟨e, he⟩ : ∃ e, r.pauses[k]? = some e := ⟨_, List.getElem?_eq_getElem hlt⟩
                obtain ⟨b1, off1, rfl, h1'⟩ := Els.pse HP.out he
                have pa0 := h1'.c0
                have pa1 := h1'.c1
                have pa2 := h1'.c2
                have pa3 := h1'.c3
                have hk0 : (0 : Int) ≤ (k : Int) := by omega
                have hkl : (k : Int) < (r.pauses.length : Int) := by omega
                have He' := Lib.hid he; clear h1' he
                go_upto_region 12 with fail
                have hx0 : (y.w.alloc (.cells #[.int .i64 e.f0, .int .i64 e.f1, .int .i64 e.t0, .int .i64 e.t1] 52)).cell? ⟨y.w.heap.size, 0, none⟩ = some (.int .i64 e.f0) := by simp [go_sem]
                have hx1 : (y.w.alloc (.cells #[.int .i64 e.f0, .int .i64 e.f1, .int .i64 e.t0, .int .i64 e.t1] 52)).cell? ⟨y.w.heap.size, 1, none⟩ = some (.int .i64 e.f1) := by simp [go_sem]
                have hx2 : (y.w.alloc (.cells #[.int .i64 e.f0, .int .i64 e.f1, .int .i64 e.t0, .int .i64 e.t1] 52)).cell? ⟨y.w.heap.size, 2, none⟩ = some (.int .i64 e.t0) := by simp [go_sem]
                have hx3 : (y.w.alloc (.cells #[.int .i64 e.f0, .int .i64 e.f1, .int .i64 e.t0, .int .i64 e.t1] 52)).cell? ⟨y.w.heap.size, 3, none⟩ = some (.int .i64 e.t1) := by simp [go_sem]
                have hxf : ∀ o, (y.w.alloc (.cells #[.int .i64 e.f0, .int .i64 e.f1, .int .i64 e.t0, .int .i64 e.t1] 52)).frozen? ⟨y.w.heap.size, o, none⟩ = false := fun o => by simp [go_sem]
                have hlt0 : y.w.heap.size < (y.w.alloc (.cells #[.int .i64 e.f0, .int .i64 e.f1, .int .i64 e.t0, .int .i64 e.t1] 52)).heap.size := by simp
                have hst0 : ∃ zz : Since y.w, (y.w.alloc (.cells #[.int .i64 e.f0, .int .i64 e.f1, .int .i64 e.t0, .int .i64 e.t1] 52)) = zz.w := IsSince.alloc (IsSince.self _) _
                have hsz0 := y.b.size
                obtain ⟨y2, e2⟩ := IsSince.alloc (IsSince.of y) (.cells #[.int .i64 e.f0, .int .i64 e.f1, .int .i64 e.t0, .int .i64 e.t1] 52)
                rw [e2] at hx0 hx1 hx2 hx3 hxf hlt0 hst0 ⊢
                skip
                clear e2 hst0
                generalize y.w.heap.size = g at *
                have Hhx0 : ∀ q : Since y2.w, q.w.cell? ⟨g, 0, none⟩ = some (.int .i64 e.f0) := fun q => Since.cell hx0 (by omega) q
                have Hhx1 : ∀ q : Since y2.w, q.w.cell? ⟨g, 1, none⟩ = some (.int .i64 e.f1) := fun q => Since.cell hx1 (by omega) q
                have Hhx2 : ∀ q : Since y2.w, q.w.cell? ⟨g, 2, none⟩ = some (.int .i64 e.t0) := fun q => Since.cell hx2 (by omega) q
                have Hhx3 : ∀ q : Since y2.w, q.w.cell? ⟨g, 3, none⟩ = some (.int .i64 e.t1) := fun q => Since.cell hx3 (by omega) q
                have Hhxf : ∀ (q : Since y2.w) (o : Nat), q.w.frozen? ⟨g, o, none⟩ = false := fun q o => Since.free (hxf o) (by omega) q
                have Hhxg := Lib.hid (And.intro hsz0 hlt0)
                clear hlt0 hsz0
                obtain ⟨q0, hq0⟩ := Since.refl y2.w
                rw [hq0]
                clear hq0
                cases hf : vldS e.f0 e.f1 with
                | false =>
                  have Hr := Lib.hid (ranged_no (r := r) (.inr <| .inr (all_no He'.out (by unfold pseV; rw [hf]; rfl))))
                  have Hf := Lib.hid hf; clear hf
                  go_wp2_with (go_at_call 60; ((with_reducible refine (vld_calls y2.w _ e.f0 e.f1).mono ?_); rintro _ _ ⟨rfl, z1, rfl⟩; rw [Hf.out]))
                  go_ret
                  exact ⟨ret_bool Hr.out.symm, by obtain ⟨q, e⟩ := y2.trans z1; rw [e]; exact Hup.out q⟩
                | true =>
                  have Hf := Lib.hid hf; clear hf
                  cases ht : vldS e.t0 e.t1 with
                  | false =>
                    have Hr := Lib.hid (ranged_no (r := r) (.inr <| .inr (all_no He'.out (by unfold pseV; rw [Hf.out, ht]; rfl))))
                    have Ht := Lib.hid ht; clear ht
                    go_wp2_with (first | (go_at_call 60; ((with_reducible refine (vld_calls y2.w _ e.f0 e.f1).mono ?_); rintro _ _ ⟨rfl, z1, rfl⟩; rw [Hf.out])) | (go_at_call 60; ((with_reducible refine (vld_calls y2.w _ e.t0 e.t1).mono ?_); rintro _ _ ⟨rfl, z1, rfl⟩; rw [Ht.out])))
                    go_ret
                    exact ⟨ret_bool Hr.out.symm, by obtain ⟨q, e⟩ := y2.trans z1; rw [e]; exact Hup.out q⟩
                  | true =>
                    have Hv := Lib.hid (show pseV e = true by unfold pseV; rw [Hf.out, ht]; rfl)
                    have Ht := Lib.hid ht; clear ht
                    go_wp2_with (first | (go_at_call 60; ((with_reducible refine (vld_calls y2.w _ e.f0 e.f1).mono ?_); rintro _ _ ⟨rfl, z1, rfl⟩; rw [Hf.out])) | (go_at_call 60; ((with_reducible refine (vld_calls y2.w _ e.t0 e.t1).mono ?_); rintro _ _ ⟨rfl, z1, rfl⟩; rw [Ht.out])))
                    obtain ⟨q, eq⟩ := y2.trans z1
                    rw [eq]
                    go_roundw
                    case rel => exact ⟨k + 1, q, by omega, by go_num, rfl, upto_next Hok.out He'.out Hv.out⟩
                    case measure => simp [intOf] <;> omega
              · obtain rfl : k = r.pauses.length := by omega
                have HvP := Lib.hid (all_yes Hok.out)
                go_wp2_with fail
                go_ret
                exact ⟨ret_bool (ranged_yes Hh.out HvL.out HvP.out).symm, Hup.out _⟩
  all_goals
    have Hr := Lib.hid (ranged_no (r := r) (.inl (by
      cases hh : headV r
      · rfl
      · unfold headV at hh
        simp only [Bool.and_eq_true, decide_eq_true_eq] at hh
        omega)))
    go_enter Try.func52, Try.ntmps52
    go_wp2_with fail
    go_ret
    exact ⟨ret_bool Hr.out.symm, x.alloc _⟩
end Go.Proofs.Ytefodfpnedcodaa
/- The walks of the reference's check of a ride, first part: intervals, ranges. -/
namespace Go.Proofs.Ytefodfpnedcodaa
open Go.RowKit

set_option maxHeartbeats 1000000 in
theorem rspan_calls (w : World) (x : Since w) (lo hi : Int) :
    Calls Try.prog 58 #[.agg #[.int .i64 lo, .int .i64 hi]] x.w fun o w' => o = .returned (.bool (vldS lo hi)) ∧ ∃ y : Since w, w' = y.w := by
  rcases (by omega : lo < 0 ∨ (0 ≤ lo ∧ hi < lo) ∨ (0 ≤ lo ∧ lo ≤ hi ∧ 4294943999 < hi) ∨ (0 ≤ lo ∧ lo ≤ hi ∧ hi ≤ 4294943999)) with h1 | ⟨h1, h2⟩ | ⟨h1, h2, h3⟩ | ⟨h1, h2, h3⟩
  case inr.inr.inr =>
    have hv : vldS lo hi = true := (vldS_iff lo hi).2 ⟨h1, h2, h3⟩
    have Hv := Lib.hid hv; clear hv
    go_enter Try.func58, Try.ntmps58
    go_wp2_with fail
    go_ret
    exact ⟨ret_bool Hv.out.symm, x.alloc _⟩
  all_goals
    have hv : vldS lo hi = false := by
      cases h : vldS lo hi
      · rfl
      · rw [vldS_iff] at h; omega
    have Hv := Lib.hid hv; clear hv
    go_enter Try.func58, Try.ntmps58
    go_wp2_with fail
    go_ret
    exact ⟨ret_bool (by first | exact Hv.out.symm | (rw [Hv.out]; exact decide_eq_false (by omega))), x.alloc _⟩
set_option maxRecDepth 100000 in
set_option maxHeartbeats 8000000 in
theorem rranged_calls (w : World) (x : Since w) (r : Ride) (h : r.At w) :
    Calls Try.prog 49 #[.agg #[.int .i64 r.id, .int .i64 r.rd, .int .i64 r.s0, .int .i64 r.s1, .int .i64 r.e0, .int .i64 r.e1, .bool r.op, .slice r.la r.legs.length r.lc, .slice r.pa r.pauses.length r.pc, .int .i64 r.fw, .int .i64 r.fp, .int .i64 r.wh, .int .i64 r.pl]] x.w fun o w' => o = .returned (.bool (rangedB r)) ∧ ∃ y : Since w, w' = y.w := by
  have HL := Lib.hid h.l; have HP := Lib.hid h.p
  have hlm := h.lm
  have hpm := h.pm
  clear h
  generalize r.la = la at HL ⊢
  generalize r.pa = pa at HP ⊢
  rcases (by omega : r.id < 1 ∨ (1 ≤ r.id ∧ 1000000 < r.id) ∨ (1 ≤ r.id ∧ r.id ≤ 1000000 ∧ r.rd < 0) ∨ (1 ≤ r.id ∧ r.id ≤ 1000000 ∧ 0 ≤ r.rd ∧ 127 < r.rd) ∨ (1 ≤ r.id ∧ r.id ≤ 1000000 ∧ 0 ≤ r.rd ∧ r.rd ≤ 127)) with h1 | ⟨h1, h2⟩ | ⟨h1, h2, h3⟩ | ⟨h1, h2, h3, h4⟩ | ⟨h1, h2, h3, h4⟩
  case inr.inr.inr.inr =>
    have hhead : headV r = (vldS r.s0 r.s1 && vldS r.e0 r.e1) := by unfold headV; simp [h1, h2, h3, h4]
    have Hhead := Lib.hid hhead
    clear hhead
    go_enter Try.func49, Try.ntmps49
    go_upto_region 1 with fail
    have hb0_0 : ∀ y : Since (x.w.alloc (.cells #[.int .i64 r.id, .int .i64 r.rd, .int .i64 r.s0, .int .i64 r.s1, .int .i64 r.e0, .int .i64 r.e1, .bool r.op, .slice la r.legs.length r.lc, .slice pa r.pauses.length r.pc, .int .i64 r.fw, .int .i64 r.fp, .int .i64 r.wh, .int .i64 r.pl] 27)), y.w.cell? ⟨x.w.heap.size, 0, none⟩ = some (.int .i64 r.id) := fun y => Since.cell (by simp [go_sem]) (by first | (simp; done) | (simp; omega)) y
    have hb0_1 : ∀ y : Since (x.w.alloc (.cells #[.int .i64 r.id, .int .i64 r.rd, .int .i64 r.s0, .int .i64 r.s1, .int .i64 r.e0, .int .i64 r.e1, .bool r.op, .slice la r.legs.length r.lc, .slice pa r.pauses.length r.pc, .int .i64 r.fw, .int .i64 r.fp, .int .i64 r.wh, .int .i64 r.pl] 27)), y.w.cell? ⟨x.w.heap.size, 1, none⟩ = some (.int .i64 r.rd) := fun y => Since.cell (by simp [go_sem]) (by first | (simp; done) | (simp; omega)) y
    have hb0_2 : ∀ y : Since (x.w.alloc (.cells #[.int .i64 r.id, .int .i64 r.rd, .int .i64 r.s0, .int .i64 r.s1, .int .i64 r.e0, .int .i64 r.e1, .bool r.op, .slice la r.legs.length r.lc, .slice pa r.pauses.length r.pc, .int .i64 r.fw, .int .i64 r.fp, .int .i64 r.wh, .int .i64 r.pl] 27)), y.w.cell? ⟨x.w.heap.size, 2, none⟩ = some (.int .i64 r.s0) := fun y => Since.cell (by simp [go_sem]) (by first | (simp; done) | (simp; omega)) y
    have hb0_3 : ∀ y : Since (x.w.alloc (.cells #[.int .i64 r.id, .int .i64 r.rd, .int .i64 r.s0, .int .i64 r.s1, .int .i64 r.e0, .int .i64 r.e1, .bool r.op, .slice la r.legs.length r.lc, .slice pa r.pauses.length r.pc, .int .i64 r.fw, .int .i64 r.fp, .int .i64 r.wh, .int .i64 r.pl] 27)), y.w.cell? ⟨x.w.heap.size, 3, none⟩ = some (.int .i64 r.s1) := fun y => Since.cell (by simp [go_sem]) (by first | (simp; done) | (simp; omega)) y
    have hb0_4 : ∀ y : Since (x.w.alloc (.cells #[.int .i64 r.id, .int .i64 r.rd, .int .i64 r.s0, .int .i64 r.s1, .int .i64 r.e0, .int .i64 r.e1, .bool r.op, .slice la r.legs.length r.lc, .slice pa r.pauses.length r.pc, .int .i64 r.fw, .int .i64 r.fp, .int .i64 r.wh, .int .i64 r.pl] 27)), y.w.cell? ⟨x.w.heap.size, 4, none⟩ = some (.int .i64 r.e0) := fun y => Since.cell (by simp [go_sem]) (by first | (simp; done) | (simp; omega)) y
    have hb0_5 : ∀ y : Since (x.w.alloc (.cells #[.int .i64 r.id, .int .i64 r.rd, .int .i64 r.s0, .int .i64 r.s1, .int .i64 r.e0, .int .i64 r.e1, .bool r.op, .slice la r.legs.length r.lc, .slice pa r.pauses.length r.pc, .int .i64 r.fw, .int .i64 r.fp, .int .i64 r.wh, .int .i64 r.pl] 27)), y.w.cell? ⟨x.w.heap.size, 5, none⟩ = some (.int .i64 r.e1) := fun y => Since.cell (by simp [go_sem]) (by first | (simp; done) | (simp; omega)) y
    have hb0_6 : ∀ y : Since (x.w.alloc (.cells #[.int .i64 r.id, .int .i64 r.rd, .int .i64 r.s0, .int .i64 r.s1, .int .i64 r.e0, .int .i64 r.e1, .bool r.op, .slice la r.legs.length r.lc, .slice pa r.pauses.length r.pc, .int .i64 r.fw, .int .i64 r.fp, .int .i64 r.wh, .int .i64 r.pl] 27)), y.w.cell? ⟨x.w.heap.size, 6, none⟩ = some (.bool r.op) := fun y => Since.cell (by simp [go_sem]) (by first | (simp; done) | (simp; omega)) y
    have hb0_7 : ∀ y : Since (x.w.alloc (.cells #[.int .i64 r.id, .int .i64 r.rd, .int .i64 r.s0, .int .i64 r.s1, .int .i64 r.e0, .int .i64 r.e1, .bool r.op, .slice la r.legs.length r.lc, .slice pa r.pauses.length r.pc, .int .i64 r.fw, .int .i64 r.fp, .int .i64 r.wh, .int .i64 r.pl] 27)), y.w.cell? ⟨x.w.heap.size, 7, none⟩ = some (.slice la r.legs.length r.lc) := fun y => Since.cell (by simp [go_sem]) (by first | (simp; done) | (simp; omega)) y
    have hb0_8 : ∀ y : Since (x.w.alloc (.cells #[.int .i64 r.id, .int .i64 r.rd, .int .i64 r.s0, .int .i64 r.s1, .int .i64 r.e0, .int .i64 r.e1, .bool r.op, .slice la r.legs.length r.lc, .slice pa r.pauses.length r.pc, .int .i64 r.fw, .int .i64 r.fp, .int .i64 r.wh, .int .i64 r.pl] 27)), y.w.cell? ⟨x.w.heap.size, 8, none⟩ = some (.slice pa r.pauses.length r.pc) := fun y => Since.cell (by simp [go_sem]) (by first | (simp; done) | (simp; omega)) y
    have hb0_9 : ∀ y : Since (x.w.alloc (.cells #[.int .i64 r.id, .int .i64 r.rd, .int .i64 r.s0, .int .i64 r.s1, .int .i64 r.e0, .int .i64 r.e1, .bool r.op, .slice la r.legs.length r.lc, .slice pa r.pauses.length r.pc, .int .i64 r.fw, .int .i64 r.fp, .int .i64 r.wh, .int .i64 r.pl] 27)), y.w.cell? ⟨x.w.heap.size, 9, none⟩ = some (.int .i64 r.fw) := fun y => Since.cell (by simp [go_sem]) (by first | (simp; done) | (simp; omega)) y
    have hb0_10 : ∀ y : Since (x.w.alloc (.cells #[.int .i64 r.id, .int .i64 r.rd, .int .i64 r.s0, .int .i64 r.s1, .int .i64 r.e0, .int .i64 r.e1, .bool r.op, .slice la r.legs.length r.lc, .slice pa r.pauses.length r.pc, .int .i64 r.fw, .int .i64 r.fp, .int .i64 r.wh, .int .i64 r.pl] 27)), y.w.cell? ⟨x.w.heap.size, 10, none⟩ = some (.int .i64 r.fp) := fun y => Since.cell (by simp [go_sem]) (by first | (simp; done) | (simp; omega)) y
    have hb0_11 : ∀ y : Since (x.w.alloc (.cells #[.int .i64 r.id, .int .i64 r.rd, .int .i64 r.s0, .int .i64 r.s1, .int .i64 r.e0, .int .i64 r.e1, .bool r.op, .slice la r.legs.length r.lc, .slice pa r.pauses.length r.pc, .int .i64 r.fw, .int .i64 r.fp, .int .i64 r.wh, .int .i64 r.pl] 27)), y.w.cell? ⟨x.w.heap.size, 11, none⟩ = some (.int .i64 r.wh) := fun y => Since.cell (by simp [go_sem]) (by first | (simp; done) | (simp; omega)) y
    have hb0_12 : ∀ y : Since (x.w.alloc (.cells #[.int .i64 r.id, .int .i64 r.rd, .int .i64 r.s0, .int .i64 r.s1, .int .i64 r.e0, .int .i64 r.e1, .bool r.op, .slice la r.legs.length r.lc, .slice pa r.pauses.length r.pc, .int .i64 r.fw, .int .i64 r.fp, .int .i64 r.wh, .int .i64 r.pl] 27)), y.w.cell? ⟨x.w.heap.size, 12, none⟩ = some (.int .i64 r.pl) := fun y => Since.cell (by simp [go_sem]) (by first | (simp; done) | (simp; omega)) y
    have hf0 : ∀ (y : Since (x.w.alloc (.cells #[.int .i64 r.id, .int .i64 r.rd, .int .i64 r.s0, .int .i64 r.s1, .int .i64 r.e0, .int .i64 r.e1, .bool r.op, .slice la r.legs.length r.lc, .slice pa r.pauses.length r.pc, .int .i64 r.fw, .int .i64 r.fp, .int .i64 r.wh, .int .i64 r.pl] 27))) (o : Nat), y.w.frozen? ⟨x.w.heap.size, o, none⟩ = false := fun y o => Since.free (by simp [go_sem]) (by first | (simp; done) | (simp; omega)) y
    have hWup : ∃ z : Since w, (x.w.alloc (.cells #[.int .i64 r.id, .int .i64 r.rd, .int .i64 r.s0, .int .i64 r.s1, .int .i64 r.e0, .int .i64 r.e1, .bool r.op, .slice la r.legs.length r.lc, .slice pa r.pauses.length r.pc, .int .i64 r.fw, .int .i64 r.fp, .int .i64 r.wh, .int .i64 r.pl] 27)) = z.w := x.alloc _
    obtain ⟨y0, hy0⟩ := Since.refl (x.w.alloc (.cells #[.int .i64 r.id, .int .i64 r.rd, .int .i64 r.s0, .int .i64 r.s1, .int .i64 r.e0, .int .i64 r.e1, .bool r.op, .slice la r.legs.length r.lc, .slice pa r.pauses.length r.pc, .int .i64 r.fw, .int .i64 r.fp, .int .i64 r.wh, .int .i64 r.pl] 27))
    have Hbx := Lib.hid (And.intro x.b.size (show x.w.heap.size + 1 = (x.w.alloc (.cells #[.int .i64 r.id, .int .i64 r.rd, .int .i64 r.s0, .int .i64 r.s1, .int .i64 r.e0, .int .i64 r.e1, .bool r.op, .slice la r.legs.length r.lc, .slice pa r.pauses.length r.pc, .int .i64 r.fw, .int .i64 r.fp, .int .i64 r.wh, .int .i64 r.pl] 27)).heap.size from by simp))
    generalize hW : (x.w.alloc (.cells #[.int .i64 r.id, .int .i64 r.rd, .int .i64 r.s0, .int .i64 r.s1, .int .i64 r.e0, .int .i64 r.e1, .bool r.op, .slice la r.legs.length r.lc, .slice pa r.pauses.length r.pc, .int .i64 r.fw, .int .i64 r.fp, .int .i64 r.wh, .int .i64 r.pl] 27)) = W at *
    clear hW
    generalize x.w.heap.size = bx at *
    have Hup := Lib.hid (Since.up hWup)
    rw [hy0]
    clear hy0
    replace HL := Lib.hid (HL.out.to hWup); replace HP := Lib.hid (HP.out.to hWup)
    clear hWup
    cases hs : vldS r.s0 r.s1 with
    | false =>
      have Hr := Lib.hid (ranged_no (r := r) (.inl (by rw [Hhead.out, hs]; rfl)))
      have Hs := Lib.hid hs; clear hs
      go_wp2_with (go_at_call 58; refine (rspan_calls W _ _ _).mono ?_; rintro _ _ ⟨rfl, y1, rfl⟩; rw [Hs.out])
      go_ret
      exact ⟨ret_bool Hr.out.symm, Hup.out _⟩
    | true =>
      cases he : vldS r.e0 r.e1 with
      | false =>
        have Hr := Lib.hid (ranged_no (r := r) (.inl (by rw [Hhead.out, hs, he]; rfl)))
        have Hs := Lib.hid hs; have He := Lib.hid he; clear hs he
        go_wp2_with (first | (go_at_call 58; ((with_reducible refine (rspan_calls W _ r.s0 r.s1).mono ?_); rintro _ _ ⟨rfl, y1, rfl⟩; rw [Hs.out])) | (go_at_call 58; ((with_reducible refine (rspan_calls W _ r.e0 r.e1).mono ?_); rintro _ _ ⟨rfl, y1, rfl⟩; rw [He.out])))
        go_ret
        exact ⟨ret_bool Hr.out.symm, Hup.out _⟩
      | true =>
        have Hh := Lib.hid (show headV r = true by rw [Hhead.out, hs, he]; rfl)
        have Hs := Lib.hid hs; have He := Lib.hid he; clear hs he
        go_upto_region 4 with (first | (go_at_call 58; ((with_reducible refine (rspan_calls W _ r.s0 r.s1).mono ?_); rintro _ _ ⟨rfl, y1, rfl⟩; rw [Hs.out])) | (go_at_call 58; ((with_reducible refine (rspan_calls W _ r.e0 r.e1).mono ?_); rintro _ _ ⟨rfl, y1, rfl⟩; rw [He.out])))
        go_loopw [3] (fun i wr => ∃ (k : Nat) (y : Since W), k ≤ r.legs.length ∧ i = .int .i64 k ∧ wr = y.w ∧ ∀ j, j < k → ∀ e, r.legs[j]? = some e → legV e = true) (fun i _ => r.legs.length - (intOf i).toNat)
        case atStart => exact ⟨0, _, by omega, rfl, rfl, fun j hj => by omega⟩
        case round =>
          obtain ⟨k, y, hk, rfl, rfl, hok⟩ := hrel
          have Hok := Lib.hid hok; clear hok
          by_cases hlt : k < r.legs.length
          · obtain ⟨e, he⟩ : ∃ e, r.legs[k]? = some e := ⟨_, List.getElem?_eq_getElem hlt⟩
            obtain ⟨b1, off1, rfl, h1'⟩ := Els.leg HL.out he
            have pa0 := h1'.c0
            have pa1 := h1'.c1
            have pa2 := h1'.c2
            have pa3 := h1'.c3
            have pa4 := h1'.c4
            have hk0 : (0 : Int) ≤ (k : Int) := by omega
            have hkl : (k : Int) < (r.legs.length : Int) := by omega
            have He' := Lib.hid he; clear h1' he
            cases hf : vldS e.f0 e.f1 with
            | false =>
              have Hr := Lib.hid (ranged_no (r := r) (.inr <| .inl (all_no He'.out (by unfold legV; rw [hf]; rfl))))
              have Hf := Lib.hid hf; clear hf
              go_wp2_with (go_at_call 58; ((with_reducible refine (rspan_calls W _ e.f0 e.f1).mono ?_); rintro _ _ ⟨rfl, z1, rfl⟩; rw [Hf.out]))
              go_ret
              exact ⟨ret_bool Hr.out.symm, Hup.out _⟩
            | true =>
              have Hf := Lib.hid hf; clear hf
              cases ht : vldS e.t0 e.t1 with
              | false =>
                have Hr := Lib.hid (ranged_no (r := r) (.inr <| .inl (all_no He'.out (by unfold legV; rw [Hf.out, ht]; rfl))))
                have Ht := Lib.hid ht; clear ht
                go_wp2_with (first | (go_at_call 58; ((with_reducible refine (rspan_calls W _ e.f0 e.f1).mono ?_); rintro _ _ ⟨rfl, z1, rfl⟩; rw [Hf.out])) | (go_at_call 58; ((with_reducible refine (rspan_calls W _ e.t0 e.t1).mono ?_); rintro _ _ ⟨rfl, z1, rfl⟩; rw [Ht.out])))
                go_ret
                exact ⟨ret_bool Hr.out.symm, Hup.out _⟩
              | true =>
                have Hv := Lib.hid (show legV e = true by unfold legV; rw [Hf.out, ht]; rfl)
                have Ht := Lib.hid ht; clear ht
                go_wp2_with (first | (go_at_call 58; ((with_reducible refine (rspan_calls W _ e.f0 e.f1).mono ?_); rintro _ _ ⟨rfl, z1, rfl⟩; rw [Hf.out])) | (go_at_call 58; ((with_reducible refine (rspan_calls W _ e.t0 e.t1).mono ?_); rintro _ _ ⟨rfl, z1, rfl⟩; rw [Ht.out])))
                go_roundw
                case rel => exact ⟨k + 1, _, by omega, by go_num, rfl, upto_next Hok.out He'.out Hv.out⟩
                case measure => simp [intOf] <;> omega
          · obtain rfl : k = r.legs.length := by omega
            have HvL := Lib.hid (all_yes Hok.out)
            go_upto_region 9 with fail
            go_loopw [4] (fun i wr => ∃ (k : Nat) (y : Since W), k ≤ r.pauses.length ∧ i = .int .i64 k ∧ wr = y.w ∧ ∀ j, j < k → ∀ e, r.pauses[j]? = some e → pseV e = true) (fun i _ => r.pauses.length - (intOf i).toNat)
            case atStart => exact ⟨0, _, by omega, rfl, rfl, fun j hj => by omega⟩
            case round =>
              obtain ⟨k, y, hk, rfl, rfl, hok⟩ := hrel
              have Hok := Lib.hid hok; clear hok
              by_cases hlt : k < r.pauses.length
              · obtain ⟨e, he⟩ : ∃ e, r.pauses[k]? = some e := ⟨_, List.getElem?_eq_getElem hlt⟩
                obtain ⟨b1, off1, rfl, h1'⟩ := Els.pse HP.out he
                have pa0 := h1'.c0
                have pa1 := h1'.c1
                have pa2 := h1'.c2
                have pa3 := h1'.c3
                have hk0 : (0 : Int) ≤ (k : Int) := by omega
                have hkl : (k : Int) < (r.pauses.length : Int) := by omega
                have He' := Lib.hid he; clear h1' he
                cases hf : vldS e.f0 e.f1 with
                | false =>
                  have Hr := Lib.hid (ranged_no (r := r) (.inr <| .inr (all_no He'.out (by unfold pseV; rw [hf]; rfl))))
                  have Hf := Lib.hid hf; clear hf
                  go_wp2_with (go_at_call 58; ((with_reducible refine (rspan_calls W _ e.f0 e.f1).mono ?_); rintro _ _ ⟨rfl, z1, rfl⟩; rw [Hf.out]))
                  go_ret
                  exact ⟨ret_bool Hr.out.symm, Hup.out _⟩
                | true =>
                  have Hf := Lib.hid hf; clear hf
                  cases ht : vldS e.t0 e.t1 with
                  | false =>
                    have Hr := Lib.hid (ranged_no (r := r) (.inr <| .inr (all_no He'.out (by unfold pseV; rw [Hf.out, ht]; rfl))))
                    have Ht := Lib.hid ht; clear ht
                    go_wp2_with (first | (go_at_call 58; ((with_reducible refine (rspan_calls W _ e.f0 e.f1).mono ?_); rintro _ _ ⟨rfl, z1, rfl⟩; rw [Hf.out])) | (go_at_call 58; ((with_reducible refine (rspan_calls W _ e.t0 e.t1).mono ?_); rintro _ _ ⟨rfl, z1, rfl⟩; rw [Ht.out])))
                    go_ret
                    exact ⟨ret_bool Hr.out.symm, Hup.out _⟩
                  | true =>
                    have Hv := Lib.hid (show pseV e = true by unfold pseV; rw [Hf.out, ht]; rfl)
                    have Ht := Lib.hid ht; clear ht
                    go_wp2_with (first | (go_at_call 58; ((with_reducible refine (rspan_calls W _ e.f0 e.f1).mono ?_); rintro _ _ ⟨rfl, z1, rfl⟩; rw [Hf.out])) | (go_at_call 58; ((with_reducible refine (rspan_calls W _ e.t0 e.t1).mono ?_); rintro _ _ ⟨rfl, z1, rfl⟩; rw [Ht.out])))
                    go_roundw
                    case rel => exact ⟨k + 1, _, by omega, by go_num, rfl, upto_next Hok.out He'.out Hv.out⟩
                    case measure => simp [intOf] <;> omega
              · obtain rfl : k = r.pauses.length := by omega
                have HvP := Lib.hid (all_yes Hok.out)
                go_wp2_with fail
                go_ret
                exact ⟨ret_bool (ranged_yes Hh.out HvL.out HvP.out).symm, Hup.out _⟩
  all_goals
    have Hr := Lib.hid (ranged_no (r := r) (.inl (by
      cases hh : headV r
      · rfl
      · unfold headV at hh
        simp only [Bool.and_eq_true, decide_eq_true_eq] at hh
        omega)))
    go_enter Try.func49, Try.ntmps49
    go_wp2_with fail
    go_ret
    exact ⟨ret_bool Hr.out.symm, x.alloc _⟩
end Go.Proofs.Ytefodfpnedcodaa
/- The walks of the program's check of a ride, second part: the legs follow one another. -/
namespace Go.Proofs.Ytefodfpnedcodaa
open Go.RowKit

set_option maxRecDepth 100000 in
set_option maxHeartbeats 8000000 in
theorem joined_calls (w : World) (x : Since w) (r : Ride) (h : r.At w) :
    Calls Try.prog 53 #[.agg #[.int .i64 r.id, .int .i64 r.rd, .int .i64 r.s0, .int .i64 r.s1, .int .i64 r.e0, .int .i64 r.e1, .bool r.op, .slice r.la r.legs.length r.lc, .slice r.pa r.pauses.length r.pc, .int .i64 r.fw, .int .i64 r.fp, .int .i64 r.wh, .int .i64 r.pl]] x.w fun o w' => o = .returned (.bool (joinedB r)) ∧ ∃ y : Since w, w' = y.w := by
  have HL := Lib.hid h.l
  have hlm := h.lm
  have hpm := h.pm
  clear h
  generalize r.la = la at HL ⊢
  rcases (by omega : r.legs.length < 1 ∨ (1 ≤ r.legs.length ∧ 512 < r.legs.length) ∨ (1 ≤ r.legs.length ∧ r.legs.length ≤ 512 ∧ 512 < r.pauses.length) ∨ (1 ≤ r.legs.length ∧ r.legs.length ≤ 512 ∧ r.pauses.length ≤ 512)) with h1 | ⟨h1, h2⟩ | ⟨h1, h2, h3⟩ | ⟨h1, h2, h3⟩
  case inr.inr.inr =>
    have hj : joinedB r = chainL r.s0 r.s1 r.legs r.e0 r.e1 := by unfold joinedB; simp [h1, h2, h3]
    have Hj := Lib.hid hj
    clear hj
    go_enter Try.func53, Try.ntmps53
    go_upto_region 1 with fail
    have hb0_0 : ∀ y : Since (x.w.alloc (.cells #[.int .i64 r.id, .int .i64 r.rd, .int .i64 r.s0, .int .i64 r.s1, .int .i64 r.e0, .int .i64 r.e1, .bool r.op, .slice la r.legs.length r.lc, .slice r.pa r.pauses.length r.pc, .int .i64 r.fw, .int .i64 r.fp, .int .i64 r.wh, .int .i64 r.pl] 27)), y.w.cell? ⟨x.w.heap.size, 0, none⟩ = some (.int .i64 r.id) := fun y => Since.cell (by simp [go_sem]) (by first | (simp; done) | (simp; omega)) y
    have hb0_1 : ∀ y : Since (x.w.alloc (.cells #[.int .i64 r.id, .int .i64 r.rd, .int .i64 r.s0, .int .i64 r.s1, .int .i64 r.e0, .int .i64 r.e1, .bool r.op, .slice la r.legs.length r.lc, .slice r.pa r.pauses.length r.pc, .int .i64 r.fw, .int .i64 r.fp, .int .i64 r.wh, .int .i64 r.pl] 27)), y.w.cell? ⟨x.w.heap.size, 1, none⟩ = some (.int .i64 r.rd) := fun y => Since.cell (by simp [go_sem]) (by first | (simp; done) | (simp; omega)) y
    have hb0_2 : ∀ y : Since (x.w.alloc (.cells #[.int .i64 r.id, .int .i64 r.rd, .int .i64 r.s0, .int .i64 r.s1, .int .i64 r.e0, .int .i64 r.e1, .bool r.op, .slice la r.legs.length r.lc, .slice r.pa r.pauses.length r.pc, .int .i64 r.fw, .int .i64 r.fp, .int .i64 r.wh, .int .i64 r.pl] 27)), y.w.cell? ⟨x.w.heap.size, 2, none⟩ = some (.int .i64 r.s0) := fun y => Since.cell (by simp [go_sem]) (by first | (simp; done) | (simp; omega)) y
    have hb0_3 : ∀ y : Since (x.w.alloc (.cells #[.int .i64 r.id, .int .i64 r.rd, .int .i64 r.s0, .int .i64 r.s1, .int .i64 r.e0, .int .i64 r.e1, .bool r.op, .slice la r.legs.length r.lc, .slice r.pa r.pauses.length r.pc, .int .i64 r.fw, .int .i64 r.fp, .int .i64 r.wh, .int .i64 r.pl] 27)), y.w.cell? ⟨x.w.heap.size, 3, none⟩ = some (.int .i64 r.s1) := fun y => Since.cell (by simp [go_sem]) (by first | (simp; done) | (simp; omega)) y
    have hb0_4 : ∀ y : Since (x.w.alloc (.cells #[.int .i64 r.id, .int .i64 r.rd, .int .i64 r.s0, .int .i64 r.s1, .int .i64 r.e0, .int .i64 r.e1, .bool r.op, .slice la r.legs.length r.lc, .slice r.pa r.pauses.length r.pc, .int .i64 r.fw, .int .i64 r.fp, .int .i64 r.wh, .int .i64 r.pl] 27)), y.w.cell? ⟨x.w.heap.size, 4, none⟩ = some (.int .i64 r.e0) := fun y => Since.cell (by simp [go_sem]) (by first | (simp; done) | (simp; omega)) y
    have hb0_5 : ∀ y : Since (x.w.alloc (.cells #[.int .i64 r.id, .int .i64 r.rd, .int .i64 r.s0, .int .i64 r.s1, .int .i64 r.e0, .int .i64 r.e1, .bool r.op, .slice la r.legs.length r.lc, .slice r.pa r.pauses.length r.pc, .int .i64 r.fw, .int .i64 r.fp, .int .i64 r.wh, .int .i64 r.pl] 27)), y.w.cell? ⟨x.w.heap.size, 5, none⟩ = some (.int .i64 r.e1) := fun y => Since.cell (by simp [go_sem]) (by first | (simp; done) | (simp; omega)) y
    have hb0_6 : ∀ y : Since (x.w.alloc (.cells #[.int .i64 r.id, .int .i64 r.rd, .int .i64 r.s0, .int .i64 r.s1, .int .i64 r.e0, .int .i64 r.e1, .bool r.op, .slice la r.legs.length r.lc, .slice r.pa r.pauses.length r.pc, .int .i64 r.fw, .int .i64 r.fp, .int .i64 r.wh, .int .i64 r.pl] 27)), y.w.cell? ⟨x.w.heap.size, 6, none⟩ = some (.bool r.op) := fun y => Since.cell (by simp [go_sem]) (by first | (simp; done) | (simp; omega)) y
    have hb0_7 : ∀ y : Since (x.w.alloc (.cells #[.int .i64 r.id, .int .i64 r.rd, .int .i64 r.s0, .int .i64 r.s1, .int .i64 r.e0, .int .i64 r.e1, .bool r.op, .slice la r.legs.length r.lc, .slice r.pa r.pauses.length r.pc, .int .i64 r.fw, .int .i64 r.fp, .int .i64 r.wh, .int .i64 r.pl] 27)), y.w.cell? ⟨x.w.heap.size, 7, none⟩ = some (.slice la r.legs.length r.lc) := fun y => Since.cell (by simp [go_sem]) (by first | (simp; done) | (simp; omega)) y
    have hb0_8 : ∀ y : Since (x.w.alloc (.cells #[.int .i64 r.id, .int .i64 r.rd, .int .i64 r.s0, .int .i64 r.s1, .int .i64 r.e0, .int .i64 r.e1, .bool r.op, .slice la r.legs.length r.lc, .slice r.pa r.pauses.length r.pc, .int .i64 r.fw, .int .i64 r.fp, .int .i64 r.wh, .int .i64 r.pl] 27)), y.w.cell? ⟨x.w.heap.size, 8, none⟩ = some (.slice r.pa r.pauses.length r.pc) := fun y => Since.cell (by simp [go_sem]) (by first | (simp; done) | (simp; omega)) y
    have hb0_9 : ∀ y : Since (x.w.alloc (.cells #[.int .i64 r.id, .int .i64 r.rd, .int .i64 r.s0, .int .i64 r.s1, .int .i64 r.e0, .int .i64 r.e1, .bool r.op, .slice la r.legs.length r.lc, .slice r.pa r.pauses.length r.pc, .int .i64 r.fw, .int .i64 r.fp, .int .i64 r.wh, .int .i64 r.pl] 27)), y.w.cell? ⟨x.w.heap.size, 9, none⟩ = some (.int .i64 r.fw) := fun y => Since.cell (by simp [go_sem]) (by first | (simp; done) | (simp; omega)) y
    have hb0_10 : ∀ y : Since (x.w.alloc (.cells #[.int .i64 r.id, .int .i64 r.rd, .int .i64 r.s0, .int .i64 r.s1, .int .i64 r.e0, .int .i64 r.e1, .bool r.op, .slice la r.legs.length r.lc, .slice r.pa r.pauses.length r.pc, .int .i64 r.fw, .int .i64 r.fp, .int .i64 r.wh, .int .i64 r.pl] 27)), y.w.cell? ⟨x.w.heap.size, 10, none⟩ = some (.int .i64 r.fp) := fun y => Since.cell (by simp [go_sem]) (by first | (simp; done) | (simp; omega)) y
    have hb0_11 : ∀ y : Since (x.w.alloc (.cells #[.int .i64 r.id, .int .i64 r.rd, .int .i64 r.s0, .int .i64 r.s1, .int .i64 r.e0, .int .i64 r.e1, .bool r.op, .slice la r.legs.length r.lc, .slice r.pa r.pauses.length r.pc, .int .i64 r.fw, .int .i64 r.fp, .int .i64 r.wh, .int .i64 r.pl] 27)), y.w.cell? ⟨x.w.heap.size, 11, none⟩ = some (.int .i64 r.wh) := fun y => Since.cell (by simp [go_sem]) (by first | (simp; done) | (simp; omega)) y
    have hb0_12 : ∀ y : Since (x.w.alloc (.cells #[.int .i64 r.id, .int .i64 r.rd, .int .i64 r.s0, .int .i64 r.s1, .int .i64 r.e0, .int .i64 r.e1, .bool r.op, .slice la r.legs.length r.lc, .slice r.pa r.pauses.length r.pc, .int .i64 r.fw, .int .i64 r.fp, .int .i64 r.wh, .int .i64 r.pl] 27)), y.w.cell? ⟨x.w.heap.size, 12, none⟩ = some (.int .i64 r.pl) := fun y => Since.cell (by simp [go_sem]) (by first | (simp; done) | (simp; omega)) y
    have hf0 : ∀ (y : Since (x.w.alloc (.cells #[.int .i64 r.id, .int .i64 r.rd, .int .i64 r.s0, .int .i64 r.s1, .int .i64 r.e0, .int .i64 r.e1, .bool r.op, .slice la r.legs.length r.lc, .slice r.pa r.pauses.length r.pc, .int .i64 r.fw, .int .i64 r.fp, .int .i64 r.wh, .int .i64 r.pl] 27))) (o : Nat), y.w.frozen? ⟨x.w.heap.size, o, none⟩ = false := fun y o => Since.free (by simp [go_sem]) (by first | (simp; done) | (simp; omega)) y
    have hWup : ∃ z : Since w, (x.w.alloc (.cells #[.int .i64 r.id, .int .i64 r.rd, .int .i64 r.s0, .int .i64 r.s1, .int .i64 r.e0, .int .i64 r.e1, .bool r.op, .slice la r.legs.length r.lc, .slice r.pa r.pauses.length r.pc, .int .i64 r.fw, .int .i64 r.fp, .int .i64 r.wh, .int .i64 r.pl] 27)) = z.w := x.alloc _
    obtain ⟨y0, hy0⟩ := Since.refl (x.w.alloc (.cells #[.int .i64 r.id, .int .i64 r.rd, .int .i64 r.s0, .int .i64 r.s1, .int .i64 r.e0, .int .i64 r.e1, .bool r.op, .slice la r.legs.length r.lc, .slice r.pa r.pauses.length r.pc, .int .i64 r.fw, .int .i64 r.fp, .int .i64 r.wh, .int .i64 r.pl] 27))
    have Hbx := Lib.hid (And.intro x.b.size (show x.w.heap.size + 1 = (x.w.alloc (.cells #[.int .i64 r.id, .int .i64 r.rd, .int .i64 r.s0, .int .i64 r.s1, .int .i64 r.e0, .int .i64 r.e1, .bool r.op, .slice la r.legs.length r.lc, .slice r.pa r.pauses.length r.pc, .int .i64 r.fw, .int .i64 r.fp, .int .i64 r.wh, .int .i64 r.pl] 27)).heap.size from by simp))
    generalize hW : (x.w.alloc (.cells #[.int .i64 r.id, .int .i64 r.rd, .int .i64 r.s0, .int .i64 r.s1, .int .i64 r.e0, .int .i64 r.e1, .bool r.op, .slice la r.legs.length r.lc, .slice r.pa r.pauses.length r.pc, .int .i64 r.fw, .int .i64 r.fp, .int .i64 r.wh, .int .i64 r.pl] 27)) = W at *
    clear hW
    generalize x.w.heap.size = bx at *
    have Hup := Lib.hid (Since.up hWup)
    rw [hy0]
    clear hy0
    replace HL := Lib.hid (HL.out.to hWup)
    clear hWup
    go_upto_region 4 with fail
    have ha0 : (y0.w.alloc (.cells #[.int .i64 r.s0, .int .i64 r.s1] 23)).cell? ⟨y0.w.heap.size, 0, none⟩ = some (.int .i64 r.s0) := by simp [go_sem]
    have ha1 : (y0.w.alloc (.cells #[.int .i64 r.s0, .int .i64 r.s1] 23)).cell? ⟨y0.w.heap.size, 1, none⟩ = some (.int .i64 r.s1) := by simp [go_sem]
    have haf : ∀ o, (y0.w.alloc (.cells #[.int .i64 r.s0, .int .i64 r.s1] 23)).frozen? ⟨y0.w.heap.size, o, none⟩ = false := fun o => by simp [go_sem]
    have hlt0 : y0.w.heap.size < (y0.w.alloc (.cells #[.int .i64 r.s0, .int .i64 r.s1] 23)).heap.size := by simp
    have hst0 : ∃ zz : Since y0.w, (y0.w.alloc (.cells #[.int .i64 r.s0, .int .i64 r.s1] 23)) = zz.w := IsSince.alloc (IsSince.self _) _
    have hsz0 := y0.b.size
    obtain ⟨y1, e2⟩ := IsSince.alloc (IsSince.of y0) (.cells #[.int .i64 r.s0, .int .i64 r.s1] 23)
    rw [e2] at ha0 ha1 haf hlt0 hst0 ⊢
    (have hbox := BoxIs.new y0.w [.int .i64 r.s0, .int .i64 r.s1] 23; rw [e2] at hbox)
    clear e2 hst0
    generalize y0.w.heap.size = ga at *
    have Hha0 : ∀ q : Since y1.w, q.w.cell? ⟨ga, 0, none⟩ = some (.int .i64 r.s0) := fun q => Since.cell ha0 (by omega) q
    have Hha1 : ∀ q : Since y1.w, q.w.cell? ⟨ga, 1, none⟩ = some (.int .i64 r.s1) := fun q => Since.cell ha1 (by omega) q
    have Hhaf : ∀ (q : Since y1.w) (o : Nat), q.w.frozen? ⟨ga, o, none⟩ = false := fun q o => Since.free (haf o) (by omega) q
    have Hhag := Lib.hid (And.intro hsz0 hlt0)
    clear hlt0 hsz0
    have Hbox := Lib.hid hbox
    have Hga := Lib.hid (show W.heap.size ≤ ga by have := Hhag.out.1; omega)
    clear hbox ha0 ha1 haf Hha0 Hha1 Hhaf
    go_wp2_with fail
    go_loopw [27] (fun i wr => ∃ (k : Nat) (a0 a1 : Int) (y : Since W), k ≤ r.legs.length ∧ i = .int .i64 k ∧ wr = y.w ∧ BoxIs y.w ga [.int .i64 a0, .int .i64 a1] ∧ chainL r.s0 r.s1 r.legs r.e0 r.e1 = chainL a0 a1 (r.legs.drop k) r.e0 r.e1) (fun i _ => r.legs.length - (intOf i).toNat)
    case atStart => exact ⟨0, r.s0, r.s1, y1, by omega, rfl, rfl, Hbox.out, rfl⟩
    case round =>
      clear Hbox Hhag
      obtain ⟨k, a0, a1, y, hk, rfl, rfl, hbox, hch⟩ := hrel
      have Hbox := Lib.hid hbox; have Hch := Lib.hid hch; clear hbox hch
      have heq0 := span_equal
      have hgd := span_guard
      have Heq := Lib.hid heq0; clear heq0
      by_cases hlt : k < r.legs.length
      · obtain ⟨e, he⟩ : ∃ e, r.legs[k]? = some e := ⟨_, List.getElem?_eq_getElem hlt⟩
        obtain ⟨b1, off1, rfl, h1'⟩ := Els.leg HL.out he
        have pa0 := h1'.c0
        have pa1 := h1'.c1
        have pa2 := h1'.c2
        have pa3 := h1'.c3
        have pa4 := h1'.c4
        have hdrop : r.legs.drop k = e :: r.legs.drop (k + 1) := by
          rw [List.drop_eq_getElem_cons hlt, (List.getElem?_eq_some_iff.1 he).2]
        have Hdrop := Lib.hid hdrop
        have hk0 : (0 : Int) ≤ (k : Int) := by omega
        have hkl : (k : Int) < (r.legs.length : Int) := by omega
        clear h1' he hdrop
        go_upto_region 7 with fail
        have hx0 : (y.w.alloc (.cells #[.int .i64 e.b, .int .i64 e.f0, .int .i64 e.f1, .int .i64 e.t0, .int .i64 e.t1] 60)).cell? ⟨y.w.heap.size, 0, none⟩ = some (.int .i64 e.b) := by simp [go_sem]
        have hx1 : (y.w.alloc (.cells #[.int .i64 e.b, .int .i64 e.f0, .int .i64 e.f1, .int .i64 e.t0, .int .i64 e.t1] 60)).cell? ⟨y.w.heap.size, 1, none⟩ = some (.int .i64 e.f0) := by simp [go_sem]
        have hx2 : (y.w.alloc (.cells #[.int .i64 e.b, .int .i64 e.f0, .int .i64 e.f1, .int .i64 e.t0, .int .i64 e.t1] 60)).cell? ⟨y.w.heap.size, 2, none⟩ = some (.int .i64 e.f1) := by simp [go_sem]
        have hx3 : (y.w.alloc (.cells #[.int .i64 e.b, .int .i64 e.f0, .int .i64 e.f1, .int .i64 e.t0, .int .i64 e.t1] 60)).cell? ⟨y.w.heap.size, 3, none⟩ = some (.int .i64 e.t0) := by simp [go_sem]
        have hx4 : (y.w.alloc (.cells #[.int .i64 e.b, .int .i64 e.f0, .int .i64 e.f1, .int .i64 e.t0, .int .i64 e.t1] 60)).cell? ⟨y.w.heap.size, 4, none⟩ = some (.int .i64 e.t1) := by simp [go_sem]
        have hxf : ∀ o, (y.w.alloc (.cells #[.int .i64 e.b, .int .i64 e.f0, .int .i64 e.f1, .int .i64 e.t0, .int .i64 e.t1] 60)).frozen? ⟨y.w.heap.size, o, none⟩ = false := fun o => by simp [go_sem]
        have hlt0 : y.w.heap.size < (y.w.alloc (.cells #[.int .i64 e.b, .int .i64 e.f0, .int .i64 e.f1, .int .i64 e.t0, .int .i64 e.t1] 60)).heap.size := by simp
        have hst0 : ∃ zz : Since y.w, (y.w.alloc (.cells #[.int .i64 e.b, .int .i64 e.f0, .int .i64 e.f1, .int .i64 e.t0, .int .i64 e.t1] 60)) = zz.w := IsSince.alloc (IsSince.self _) _
        have hsz0 := y.b.size
        obtain ⟨y2, e2⟩ := IsSince.alloc (IsSince.of y) (.cells #[.int .i64 e.b, .int .i64 e.f0, .int .i64 e.f1, .int .i64 e.t0, .int .i64 e.t1] 60)
        rw [e2] at hx0 hx1 hx2 hx3 hx4 hxf hlt0 hst0 ⊢
        (replace Hbox := Lib.hid (Hbox.out.to hst0))
        clear e2 hst0
        generalize y.w.heap.size = g at *
        have Hhx0 : ∀ q : Since y2.w, q.w.cell? ⟨g, 0, none⟩ = some (.int .i64 e.b) := fun q => Since.cell hx0 (by omega) q
        have Hhx1 : ∀ q : Since y2.w, q.w.cell? ⟨g, 1, none⟩ = some (.int .i64 e.f0) := fun q => Since.cell hx1 (by omega) q
        have Hhx2 : ∀ q : Since y2.w, q.w.cell? ⟨g, 2, none⟩ = some (.int .i64 e.f1) := fun q => Since.cell hx2 (by omega) q
        have Hhx3 : ∀ q : Since y2.w, q.w.cell? ⟨g, 3, none⟩ = some (.int .i64 e.t0) := fun q => Since.cell hx3 (by omega) q
        have Hhx4 : ∀ q : Since y2.w, q.w.cell? ⟨g, 4, none⟩ = some (.int .i64 e.t1) := fun q => Since.cell hx4 (by omega) q
        have Hhxf : ∀ (q : Since y2.w) (o : Nat), q.w.frozen? ⟨g, o, none⟩ = false := fun q o => Since.free (hxf o) (by omega) q
        have Hhxg := Lib.hid (And.intro hsz0 hlt0)
        clear hlt0 hsz0
        have ka0 : ∀ q : Since y2.w, q.w.cell? ⟨ga, 0, none⟩ = some (.int .i64 a0) := fun q => (Hbox.out.since q).c 0 _ rfl
        have ka1 : ∀ q : Since y2.w, q.w.cell? ⟨ga, 1, none⟩ = some (.int .i64 a1) := fun q => (Hbox.out.since q).c 1 _ rfl
        have kaf : ∀ (q : Since y2.w) o, q.w.frozen? ⟨ga, o, none⟩ = false := fun q o => (Hbox.out.since q).f o
        have heq := Heq.out e.f0 e.f1 a0 a1
        obtain ⟨q0, hq0⟩ := Since.refl y2.w
        rw [hq0]
        clear hq0
        cases hb : (decide (e.f0 = a0) && decide (e.f1 = a1)) with
        | false =>
          rw [hb] at heq
          have Hr := Lib.hid (show joinedB r = false by rw [Hj.out, Hch.out, Hdrop.out]; unfold chainL; rw [hb]; rfl)
          clear hb
          go_wp2_with fail
          go_ret
          exact ⟨ret_bool Hr.out.symm, by obtain ⟨q, e⟩ := y2.trans q0; rw [e]; exact Hup.out q⟩
        | true =>
          rw [hb] at heq
          have Hr := Lib.hid (show chainL a0 a1 (r.legs.drop k) r.e0 r.e1 = chainL e.t0 e.t1 (r.legs.drop (k + 1)) r.e0 r.e1 by rw [Hdrop.out]; show (_ && _ && _) = _; rw [hb]; rfl)
          clear hb
          go_wp2_with fail
          have hb2 := (Hbox.out.since q0).sets (us := [.int .i64 e.t0, .int .i64 e.t1]) rfl
          obtain ⟨q, eq⟩ := y2.trans q0
          obtain ⟨y4, h4⟩ := q.sets ga Hga.out [.int .i64 e.t0, .int .i64 e.t1] 0
          rw [eq, h4] at hb2
          rw [eq]
          have H4 := Lib.hid h4; have Hb2 := Lib.hid hb2
          clear h4 hb2 eq
          go_roundw
          case rel => exact ⟨k + 1, e.t0, e.t1, y4, by omega, by go_num, H4.out, Hb2.out, by rw [Hch.out, Hr.out]⟩
          case measure => simp [intOf] <;> omega
      · obtain rfl : k = r.legs.length := by omega
        rw [List.drop_length] at Hch
        have hj2 : joinedB r = (decide (a0 = r.e0) && decide (a1 = r.e1)) := by rw [Hj.out, Hch.out]; rfl
        have Hj2 := Lib.hid hj2; clear hj2
        obtain ⟨q1, hq1⟩ := Since.refl y.w
        have ka0 : ∀ q : Since y.w, q.w.cell? ⟨ga, 0, none⟩ = some (.int .i64 a0) := fun q => (Hbox.out.since q).c 0 _ rfl
        have ka1 : ∀ q : Since y.w, q.w.cell? ⟨ga, 1, none⟩ = some (.int .i64 a1) := fun q => (Hbox.out.since q).c 1 _ rfl
        have heq := Heq.out a0 a1 r.e0 r.e1
        have kh4 : ∀ q : Since y.w, q.w.cell? ⟨bx, 4, none⟩ = some (.int .i64 r.e0) := fun q => by obtain ⟨z, e⟩ := y.trans q; rw [e]; exact hb0_4 z
        have kh5 : ∀ q : Since y.w, q.w.cell? ⟨bx, 5, none⟩ = some (.int .i64 r.e1) := fun q => by obtain ⟨z, e⟩ := y.trans q; rw [e]; exact hb0_5 z
        rw [hq1]
        clear hq1
        go_wp2_with fail
        go_ret
        exact ⟨ret_bool Hj2.out.symm, by obtain ⟨q, e⟩ := y.trans q1; rw [e]; exact Hup.out q⟩
  all_goals
    have Hr := Lib.hid (show joinedB r = false by
      cases hh : joinedB r
      · rfl
      · unfold joinedB at hh
        simp only [Bool.and_eq_true, decide_eq_true_eq] at hh
        omega)
    go_enter Try.func53, Try.ntmps53
    go_wp2_with fail
    go_ret
    exact ⟨ret_bool Hr.out.symm, x.alloc _⟩
end Go.Proofs.Ytefodfpnedcodaa
/- The walks of the program's check of a ride, third part: the ends of legs and pauses are in order; the check. -/
namespace Go.Proofs.Ytefodfpnedcodaa
open Go.RowKit

theorem drop_cons {α : Type} {l : List α} {k : Nat} {e : α} (he : l[k]? = some e) : l.drop k = e :: l.drop (k + 1) := by
  rw [List.drop_eq_getElem_cons (List.getElem?_eq_some_iff.1 he).1, (List.getElem?_eq_some_iff.1 he).2]
theorem drop_last {α : Type} {l : List α} {k : Nat} (h : k < l.length) : (l.drop (k + 1)).isEmpty = decide (k + 1 = l.length) := by
  rw [Bool.eq_iff_iff, List.isEmpty_iff, List.drop_eq_nil_iff, decide_eq_true_eq]; omega
set_option maxRecDepth 100000 in
set_option maxHeartbeats 8000000 in
theorem ordered_calls (w : World) (x : Since w) (r : Ride) (h : r.At w) :
    Calls Try.prog 54 #[.agg #[.int .i64 r.id, .int .i64 r.rd, .int .i64 r.s0, .int .i64 r.s1, .int .i64 r.e0, .int .i64 r.e1, .bool r.op, .slice r.la r.legs.length r.lc, .slice r.pa r.pauses.length r.pc, .int .i64 r.fw, .int .i64 r.fp, .int .i64 r.wh, .int .i64 r.pl]] x.w fun o w' => o = .returned (.bool (orderedB r)) ∧ ∃ y : Since w, w' = y.w := by
  have HL := Lib.hid h.l; have HP := Lib.hid h.p
  have hlm := h.lm
  have hpm := h.pm
  have hO : orderedB r = (legsO r.op r.legs && (r.pauses.isEmpty || psesO r.op r.e0 r.s0 r.pauses)) := rfl
  have HO := Lib.hid hO
  clear h hO
  generalize r.la = la at HL ⊢
  generalize r.pa = pa at HP ⊢
  generalize r.op = op at HO ⊢
  go_enter Try.func54, Try.ntmps54
  go_upto_region 1 with fail
  have hb0_0 : ∀ y : Since (x.w.alloc (.cells #[.int .i64 r.id, .int .i64 r.rd, .int .i64 r.s0, .int .i64 r.s1, .int .i64 r.e0, .int .i64 r.e1, .bool op, .slice la r.legs.length r.lc, .slice pa r.pauses.length r.pc, .int .i64 r.fw, .int .i64 r.fp, .int .i64 r.wh, .int .i64 r.pl] 27)), y.w.cell? ⟨x.w.heap.size, 0, none⟩ = some (.int .i64 r.id) := fun y => Since.cell (by simp [go_sem]) (by first | (simp; done) | (simp; omega)) y
  have hb0_1 : ∀ y : Since (x.w.alloc (.cells #[.int .i64 r.id, .int .i64 r.rd, .int .i64 r.s0, .int .i64 r.s1, .int .i64 r.e0, .int .i64 r.e1, .bool op, .slice la r.legs.length r.lc, .slice pa r.pauses.length r.pc, .int .i64 r.fw, .int .i64 r.fp, .int .i64 r.wh, .int .i64 r.pl] 27)), y.w.cell? ⟨x.w.heap.size, 1, none⟩ = some (.int .i64 r.rd) := fun y => Since.cell (by simp [go_sem]) (by first | (simp; done) | (simp; omega)) y
  have hb0_2 : ∀ y : Since (x.w.alloc (.cells #[.int .i64 r.id, .int .i64 r.rd, .int .i64 r.s0, .int .i64 r.s1, .int .i64 r.e0, .int .i64 r.e1, .bool op, .slice la r.legs.length r.lc, .slice pa r.pauses.length r.pc, .int .i64 r.fw, .int .i64 r.fp, .int .i64 r.wh, .int .i64 r.pl] 27)), y.w.cell? ⟨x.w.heap.size, 2, none⟩ = some (.int .i64 r.s0) := fun y => Since.cell (by simp [go_sem]) (by first | (simp; done) | (simp; omega)) y
  have hb0_3 : ∀ y : Since (x.w.alloc (.cells #[.int .i64 r.id, .int .i64 r.rd, .int .i64 r.s0, .int .i64 r.s1, .int .i64 r.e0, .int .i64 r.e1, .bool op, .slice la r.legs.length r.lc, .slice pa r.pauses.length r.pc, .int .i64 r.fw, .int .i64 r.fp, .int .i64 r.wh, .int .i64 r.pl] 27)), y.w.cell? ⟨x.w.heap.size, 3, none⟩ = some (.int .i64 r.s1) := fun y => Since.cell (by simp [go_sem]) (by first | (simp; done) | (simp; omega)) y
  have hb0_4 : ∀ y : Since (x.w.alloc (.cells #[.int .i64 r.id, .int .i64 r.rd, .int .i64 r.s0, .int .i64 r.s1, .int .i64 r.e0, .int .i64 r.e1, .bool op, .slice la r.legs.length r.lc, .slice pa r.pauses.length r.pc, .int .i64 r.fw, .int .i64 r.fp, .int .i64 r.wh, .int .i64 r.pl] 27)), y.w.cell? ⟨x.w.heap.size, 4, none⟩ = some (.int .i64 r.e0) := fun y => Since.cell (by simp [go_sem]) (by first | (simp; done) | (simp; omega)) y
  have hb0_5 : ∀ y : Since (x.w.alloc (.cells #[.int .i64 r.id, .int .i64 r.rd, .int .i64 r.s0, .int .i64 r.s1, .int .i64 r.e0, .int .i64 r.e1, .bool op, .slice la r.legs.length r.lc, .slice pa r.pauses.length r.pc, .int .i64 r.fw, .int .i64 r.fp, .int .i64 r.wh, .int .i64 r.pl] 27)), y.w.cell? ⟨x.w.heap.size, 5, none⟩ = some (.int .i64 r.e1) := fun y => Since.cell (by simp [go_sem]) (by first | (simp; done) | (simp; omega)) y
  have hb0_6 : ∀ y : Since (x.w.alloc (.cells #[.int .i64 r.id, .int .i64 r.rd, .int .i64 r.s0, .int .i64 r.s1, .int .i64 r.e0, .int .i64 r.e1, .bool op, .slice la r.legs.length r.lc, .slice pa r.pauses.length r.pc, .int .i64 r.fw, .int .i64 r.fp, .int .i64 r.wh, .int .i64 r.pl] 27)), y.w.cell? ⟨x.w.heap.size, 6, none⟩ = some (.bool op) := fun y => Since.cell (by simp [go_sem]) (by first | (simp; done) | (simp; omega)) y
  have hb0_7 : ∀ y : Since (x.w.alloc (.cells #[.int .i64 r.id, .int .i64 r.rd, .int .i64 r.s0, .int .i64 r.s1, .int .i64 r.e0, .int .i64 r.e1, .bool op, .slice la r.legs.length r.lc, .slice pa r.pauses.length r.pc, .int .i64 r.fw, .int .i64 r.fp, .int .i64 r.wh, .int .i64 r.pl] 27)), y.w.cell? ⟨x.w.heap.size, 7, none⟩ = some (.slice la r.legs.length r.lc) := fun y => Since.cell (by simp [go_sem]) (by first | (simp; done) | (simp; omega)) y
  have hb0_8 : ∀ y : Since (x.w.alloc (.cells #[.int .i64 r.id, .int .i64 r.rd, .int .i64 r.s0, .int .i64 r.s1, .int .i64 r.e0, .int .i64 r.e1, .bool op, .slice la r.legs.length r.lc, .slice pa r.pauses.length r.pc, .int .i64 r.fw, .int .i64 r.fp, .int .i64 r.wh, .int .i64 r.pl] 27)), y.w.cell? ⟨x.w.heap.size, 8, none⟩ = some (.slice pa r.pauses.length r.pc) := fun y => Since.cell (by simp [go_sem]) (by first | (simp; done) | (simp; omega)) y
  have hb0_9 : ∀ y : Since (x.w.alloc (.cells #[.int .i64 r.id, .int .i64 r.rd, .int .i64 r.s0, .int .i64 r.s1, .int .i64 r.e0, .int .i64 r.e1, .bool op, .slice la r.legs.length r.lc, .slice pa r.pauses.length r.pc, .int .i64 r.fw, .int .i64 r.fp, .int .i64 r.wh, .int .i64 r.pl] 27)), y.w.cell? ⟨x.w.heap.size, 9, none⟩ = some (.int .i64 r.fw) := fun y => Since.cell (by simp [go_sem]) (by first | (simp; done) | (simp; omega)) y
  have hb0_10 : ∀ y : Since (x.w.alloc (.cells #[.int .i64 r.id, .int .i64 r.rd, .int .i64 r.s0, .int .i64 r.s1, .int .i64 r.e0, .int .i64 r.e1, .bool op, .slice la r.legs.length r.lc, .slice pa r.pauses.length r.pc, .int .i64 r.fw, .int .i64 r.fp, .int .i64 r.wh, .int .i64 r.pl] 27)), y.w.cell? ⟨x.w.heap.size, 10, none⟩ = some (.int .i64 r.fp) := fun y => Since.cell (by simp [go_sem]) (by first | (simp; done) | (simp; omega)) y
  have hb0_11 : ∀ y : Since (x.w.alloc (.cells #[.int .i64 r.id, .int .i64 r.rd, .int .i64 r.s0, .int .i64 r.s1, .int .i64 r.e0, .int .i64 r.e1, .bool op, .slice la r.legs.length r.lc, .slice pa r.pauses.length r.pc, .int .i64 r.fw, .int .i64 r.fp, .int .i64 r.wh, .int .i64 r.pl] 27)), y.w.cell? ⟨x.w.heap.size, 11, none⟩ = some (.int .i64 r.wh) := fun y => Since.cell (by simp [go_sem]) (by first | (simp; done) | (simp; omega)) y
  have hb0_12 : ∀ y : Since (x.w.alloc (.cells #[.int .i64 r.id, .int .i64 r.rd, .int .i64 r.s0, .int .i64 r.s1, .int .i64 r.e0, .int .i64 r.e1, .bool op, .slice la r.legs.length r.lc, .slice pa r.pauses.length r.pc, .int .i64 r.fw, .int .i64 r.fp, .int .i64 r.wh, .int .i64 r.pl] 27)), y.w.cell? ⟨x.w.heap.size, 12, none⟩ = some (.int .i64 r.pl) := fun y => Since.cell (by simp [go_sem]) (by first | (simp; done) | (simp; omega)) y
  have hf0 : ∀ (y : Since (x.w.alloc (.cells #[.int .i64 r.id, .int .i64 r.rd, .int .i64 r.s0, .int .i64 r.s1, .int .i64 r.e0, .int .i64 r.e1, .bool op, .slice la r.legs.length r.lc, .slice pa r.pauses.length r.pc, .int .i64 r.fw, .int .i64 r.fp, .int .i64 r.wh, .int .i64 r.pl] 27))) (o : Nat), y.w.frozen? ⟨x.w.heap.size, o, none⟩ = false := fun y o => Since.free (by simp [go_sem]) (by first | (simp; done) | (simp; omega)) y
  have hWup : ∃ z : Since w, (x.w.alloc (.cells #[.int .i64 r.id, .int .i64 r.rd, .int .i64 r.s0, .int .i64 r.s1, .int .i64 r.e0, .int .i64 r.e1, .bool op, .slice la r.legs.length r.lc, .slice pa r.pauses.length r.pc, .int .i64 r.fw, .int .i64 r.fp, .int .i64 r.wh, .int .i64 r.pl] 27)) = z.w := x.alloc _
  obtain ⟨y0, hy0⟩ := Since.refl (x.w.alloc (.cells #[.int .i64 r.id, .int .i64 r.rd, .int .i64 r.s0, .int .i64 r.s1, .int .i64 r.e0, .int .i64 r.e1, .bool op, .slice la r.legs.length r.lc, .slice pa r.pauses.length r.pc, .int .i64 r.fw, .int .i64 r.fp, .int .i64 r.wh, .int .i64 r.pl] 27))
  have Hbx := Lib.hid (And.intro x.b.size (show x.w.heap.size + 1 = (x.w.alloc (.cells #[.int .i64 r.id, .int .i64 r.rd, .int .i64 r.s0, .int .i64 r.s1, .int .i64 r.e0, .int .i64 r.e1, .bool op, .slice la r.legs.length r.lc, .slice pa r.pauses.length r.pc, .int .i64 r.fw, .int .i64 r.fp, .int .i64 r.wh, .int .i64 r.pl] 27)).heap.size from by simp))
  generalize hW : (x.w.alloc (.cells #[.int .i64 r.id, .int .i64 r.rd, .int .i64 r.s0, .int .i64 r.s1, .int .i64 r.e0, .int .i64 r.e1, .bool op, .slice la r.legs.length r.lc, .slice pa r.pauses.length r.pc, .int .i64 r.fw, .int .i64 r.fp, .int .i64 r.wh, .int .i64 r.pl] 27)) = W at *
  clear hW
  generalize x.w.heap.size = bx at *
  have Hup := Lib.hid (Since.up hWup)
  rw [hy0]
  clear hy0
  replace HL := Lib.hid (HL.out.to hWup); replace HP := Lib.hid (HP.out.to hWup)
  clear hWup
  go_wp2_with fail
  go_loopw [11] (fun i wr => ∃ (k : Nat) (y : Since W), k ≤ r.legs.length ∧ i = .int .i64 k ∧ wr = y.w ∧ legsO op r.legs = legsO op (r.legs.drop k)) (fun i _ => r.legs.length - (intOf i).toNat)
  case atStart => exact ⟨0, _, by omega, rfl, rfl, rfl⟩
  case round =>
    obtain ⟨k, y, hk, rfl, rfl, hch⟩ := hrel
    have Hch := Lib.hid hch; clear hch
    by_cases hlt : k < r.legs.length
    · obtain ⟨e, he⟩ : ∃ e, r.legs[k]? = some e := ⟨_, List.getElem?_eq_getElem hlt⟩
      obtain ⟨b1, off1, rfl, h1'⟩ := Els.leg HL.out he
      have pa0 := h1'.c0
      have pa1 := h1'.c1
      have pa2 := h1'.c2
      have pa3 := h1'.c3
      have pa4 := h1'.c4
      have hstep : legsO op (r.legs.drop k) = ((decide (e.f0 ≤ e.t0) || (op && decide (k + 1 = r.legs.length))) && legsO op (r.legs.drop (k + 1))) := by
        rw [drop_cons he, ← drop_last hlt]; rfl
      have Hstep := Lib.hid hstep
      have hk0 : (0 : Int) ≤ (k : Int) := by omega
      have hkl : (k : Int) < (r.legs.length : Int) := by omega
      clear h1' he hstep
      go_upto_region 4 with fail
      have hx0 : (y.w.alloc (.cells #[.int .i64 e.b, .int .i64 e.f0, .int .i64 e.f1, .int .i64 e.t0, .int .i64 e.t1] 60)).cell? ⟨y.w.heap.size, 0, none⟩ = some (.int .i64 e.b) := by simp [go_sem]
      have hx1 : (y.w.alloc (.cells #[.int .i64 e.b, .int .i64 e.f0, .int .i64 e.f1, .int .i64 e.t0, .int .i64 e.t1] 60)).cell? ⟨y.w.heap.size, 1, none⟩ = some (.int .i64 e.f0) := by simp [go_sem]
      have hx2 : (y.w.alloc (.cells #[.int .i64 e.b, .int .i64 e.f0, .int .i64 e.f1, .int .i64 e.t0, .int .i64 e.t1] 60)).cell? ⟨y.w.heap.size, 2, none⟩ = some (.int .i64 e.f1) := by simp [go_sem]
      have hx3 : (y.w.alloc (.cells #[.int .i64 e.b, .int .i64 e.f0, .int .i64 e.f1, .int .i64 e.t0, .int .i64 e.t1] 60)).cell? ⟨y.w.heap.size, 3, none⟩ = some (.int .i64 e.t0) := by simp [go_sem]
      have hx4 : (y.w.alloc (.cells #[.int .i64 e.b, .int .i64 e.f0, .int .i64 e.f1, .int .i64 e.t0, .int .i64 e.t1] 60)).cell? ⟨y.w.heap.size, 4, none⟩ = some (.int .i64 e.t1) := by simp [go_sem]
      have hxf : ∀ o, (y.w.alloc (.cells #[.int .i64 e.b, .int .i64 e.f0, .int .i64 e.f1, .int .i64 e.t0, .int .i64 e.t1] 60)).frozen? ⟨y.w.heap.size, o, none⟩ = false := fun o => by simp [go_sem]
      have hlt0 : y.w.heap.size < (y.w.alloc (.cells #[.int .i64 e.b, .int .i64 e.f0, .int .i64 e.f1, .int .i64 e.t0, .int .i64 e.t1] 60)).heap.size := by simp
      have hst0 : ∃ zz : Since y.w, (y.w.alloc (.cells #[.int .i64 e.b, .int .i64 e.f0, .int .i64 e.f1, .int .i64 e.t0, .int .i64 e.t1] 60)) = zz.w := IsSince.alloc (IsSince.self _) _
      have hsz0 := y.b.size
      obtain ⟨y2, e2⟩ := IsSince.alloc (IsSince.of y) (.cells #[.int .i64 e.b, .int .i64 e.f0, .int .i64 e.f1, .int .i64 e.t0, .int .i64 e.t1] 60)
      rw [e2] at hx0 hx1 hx2 hx3 hx4 hxf hlt0 hst0 ⊢
      skip
      clear e2 hst0
      generalize y.w.heap.size = g at *
      have Hhx0 : ∀ q : Since y2.w, q.w.cell? ⟨g, 0, none⟩ = some (.int .i64 e.b) := fun q => Since.cell hx0 (by omega) q
      have Hhx1 : ∀ q : Since y2.w, q.w.cell? ⟨g, 1, none⟩ = some (.int .i64 e.f0) := fun q => Since.cell hx1 (by omega) q
      have Hhx2 : ∀ q : Since y2.w, q.w.cell? ⟨g, 2, none⟩ = some (.int .i64 e.f1) := fun q => Since.cell hx2 (by omega) q
      have Hhx3 : ∀ q : Since y2.w, q.w.cell? ⟨g, 3, none⟩ = some (.int .i64 e.t0) := fun q => Since.cell hx3 (by omega) q
      have Hhx4 : ∀ q : Since y2.w, q.w.cell? ⟨g, 4, none⟩ = some (.int .i64 e.t1) := fun q => Since.cell hx4 (by omega) q
      have Hhxf : ∀ (q : Since y2.w) (o : Nat), q.w.frozen? ⟨g, o, none⟩ = false := fun q o => Since.free (hxf o) (by omega) q
      have Hhxg := Lib.hid (And.intro hsz0 hlt0)
      clear hlt0 hsz0
      replace hb0_0 := Since.cellTo ⟨y2, rfl⟩ hb0_0
      replace hb0_1 := Since.cellTo ⟨y2, rfl⟩ hb0_1
      replace hb0_2 := Since.cellTo ⟨y2, rfl⟩ hb0_2
      replace hb0_3 := Since.cellTo ⟨y2, rfl⟩ hb0_3
      replace hb0_4 := Since.cellTo ⟨y2, rfl⟩ hb0_4
      replace hb0_5 := Since.cellTo ⟨y2, rfl⟩ hb0_5
      replace hb0_6 := Since.cellTo ⟨y2, rfl⟩ hb0_6
      replace hb0_7 := Since.cellTo ⟨y2, rfl⟩ hb0_7
      replace hb0_8 := Since.cellTo ⟨y2, rfl⟩ hb0_8
      replace hb0_9 := Since.cellTo ⟨y2, rfl⟩ hb0_9
      replace hb0_10 := Since.cellTo ⟨y2, rfl⟩ hb0_10
      replace hb0_11 := Since.cellTo ⟨y2, rfl⟩ hb0_11
      replace hb0_12 := Since.cellTo ⟨y2, rfl⟩ hb0_12
      obtain ⟨q0, hq0⟩ := Since.refl y2.w
      rw [hq0]
      clear hq0
      rcases (by omega : e.f0 ≤ e.t0 ∨ (e.t0 < e.f0 ∧ k + 1 = r.legs.length) ∨ (e.t0 < e.f0 ∧ k + 1 < r.legs.length)) with hle | ⟨hgt, hkk⟩ | ⟨hgt, hkk⟩
      · have Hr := Lib.hid (show legsO op (r.legs.drop k) = legsO op (r.legs.drop (k + 1)) by rw [Hstep.out]; simp [hle])
        go_wp2_with fail
        obtain ⟨q, eq⟩ := y2.trans q0
        rw [eq]
        go_roundw
        case rel => exact ⟨k + 1, q, by omega, by go_num, rfl, by rw [Hch.out, Hr.out]⟩
        case measure => simp [intOf] <;> omega
      · have hkb : ((k : Int) == (r.legs.length : Int) - 1) = true := by simp; omega
        have Hkk := Lib.hid hkk; clear hkk
        cases op with
        | true =>
          have Hr := Lib.hid (show legsO true (r.legs.drop k) = legsO true (r.legs.drop (k + 1)) by rw [Hstep.out]; simp [Hkk.out])
          go_wp2_with fail
          obtain ⟨q, eq⟩ := y2.trans q0
          rw [eq]
          go_roundw
          case rel => exact ⟨k + 1, q, by omega, by go_num, rfl, by rw [Hch.out, Hr.out]⟩
          case measure => simp [intOf] <;> omega
        | false =>
          have Hr := Lib.hid (show orderedB r = false by rw [HO.out, Hch.out, Hstep.out]; simp; omega)
          go_wp2_with fail
          go_ret
          exact ⟨ret_bool Hr.out.symm, by obtain ⟨q, e⟩ := y2.trans q0; rw [e]; exact Hup.out q⟩
      · have hkb : ((k : Int) == (r.legs.length : Int) - 1) = false := by simp; omega
        have Hr := Lib.hid (show orderedB r = false by rw [HO.out, Hch.out, Hstep.out]; simp; omega)
        cases op
        all_goals
          go_wp2_with fail
          go_ret
          exact ⟨ret_bool Hr.out.symm, by obtain ⟨q, e⟩ := y2.trans q0; rw [e]; exact Hup.out q⟩
    · obtain rfl : k = r.legs.length := by omega
      rw [List.drop_length] at Hch
      have HO2 := Lib.hid (show orderedB r = (r.pauses.isEmpty || psesO op r.e0 r.s0 r.pauses) by rw [HO.out, Hch.out]; rfl)
      clear HO Hch
      go_wp2_with fail
      go_loopw [5, 43] (fun v i wr => ∃ (k : Nat) (a : Int) (y : Since W), k ≤ r.pauses.length ∧ i = .int .i64 k ∧ v = .int .i64 a ∧ wr = y.w ∧ psesO op r.e0 r.s0 r.pauses = psesO op r.e0 a (r.pauses.drop k)) (fun _ i _ => r.pauses.length - (intOf i).toNat)
      case atStart => exact ⟨0, r.s0, y, by omega, rfl, rfl, rfl, rfl⟩
      case round =>
        obtain ⟨k, a, y, hk, rfl, rfl, rfl, hch⟩ := hrel
        have Hch := Lib.hid hch; clear hch
        by_cases hlt : k < r.pauses.length
        · obtain ⟨e, he⟩ : ∃ e, r.pauses[k]? = some e := ⟨_, List.getElem?_eq_getElem hlt⟩
          obtain ⟨b1, off1, rfl, h1'⟩ := Els.pse HP.out he
          have pb0 := h1'.c0
          have pb1 := h1'.c1
          have pb2 := h1'.c2
          have pb3 := h1'.c3
          have hstep : psesO op r.e0 a (r.pauses.drop k) = (decide (a ≤ e.f0) && ((op && decide (k + 1 = r.pauses.length) && decide (e.t0 = 0)) || (decide (e.f0 ≤ e.t0) && psesO op r.e0 e.t0 (r.pauses.drop (k + 1))))) := by
            rw [drop_cons he, ← drop_last hlt]; rfl
          have Hstep := Lib.hid hstep
          have hne : r.pauses.isEmpty = false := by cases hh : r.pauses <;> simp_all
          have HO3 := Lib.hid (show orderedB r = psesO op r.e0 a (r.pauses.drop k) by rw [HO2.out, hne, Hch.out]; rfl)
          have hk0 : (0 : Int) ≤ (k : Int) := by omega
          have hkl : (k : Int) < (r.pauses.length : Int) := by omega
          clear h1' he hstep hne
          go_upto_region 11 with fail
          have hx0 : (y.w.alloc (.cells #[.int .i64 e.f0, .int .i64 e.f1, .int .i64 e.t0, .int .i64 e.t1] 52)).cell? ⟨y.w.heap.size, 0, none⟩ = some (.int .i64 e.f0) := by simp [go_sem]
          have hx1 : (y.w.alloc (.cells #[.int .i64 e.f0, .int .i64 e.f1, .int .i64 e.t0, .int .i64 e.t1] 52)).cell? ⟨y.w.heap.size, 1, none⟩ = some (.int .i64 e.f1) := by simp [go_sem]
          have hx2 : (y.w.alloc (.cells #[.int .i64 e.f0, .int .i64 e.f1, .int .i64 e.t0, .int .i64 e.t1] 52)).cell? ⟨y.w.heap.size, 2, none⟩ = some (.int .i64 e.t0) := by simp [go_sem]
          have hx3 : (y.w.alloc (.cells #[.int .i64 e.f0, .int .i64 e.f1, .int .i64 e.t0, .int .i64 e.t1] 52)).cell? ⟨y.w.heap.size, 3, none⟩ = some (.int .i64 e.t1) := by simp [go_sem]
          have hxf : ∀ o, (y.w.alloc (.cells #[.int .i64 e.f0, .int .i64 e.f1, .int .i64 e.t0, .int .i64 e.t1] 52)).frozen? ⟨y.w.heap.size, o, none⟩ = false := fun o => by simp [go_sem]
          have hlt0 : y.w.heap.size < (y.w.alloc (.cells #[.int .i64 e.f0, .int .i64 e.f1, .int .i64 e.t0, .int .i64 e.t1] 52)).heap.size := by simp
          have hst0 : ∃ zz : Since y.w, (y.w.alloc (.cells #[.int .i64 e.f0, .int .i64 e.f1, .int .i64 e.t0, .int .i64 e.t1] 52)) = zz.w := IsSince.alloc (IsSince.self _) _
          have hsz0 := y.b.size
          obtain ⟨y2, e2⟩ := IsSince.alloc (IsSince.of y) (.cells #[.int .i64 e.f0, .int .i64 e.f1, .int .i64 e.t0, .int .i64 e.t1] 52)
          rw [e2] at hx0 hx1 hx2 hx3 hxf hlt0 hst0 ⊢
          skip
          clear e2 hst0
          generalize y.w.heap.size = g at *
          have Hhx0 : ∀ q : Since y2.w, q.w.cell? ⟨g, 0, none⟩ = some (.int .i64 e.f0) := fun q => Since.cell hx0 (by omega) q
          have Hhx1 : ∀ q : Since y2.w, q.w.cell? ⟨g, 1, none⟩ = some (.int .i64 e.f1) := fun q => Since.cell hx1 (by omega) q
          have Hhx2 : ∀ q : Since y2.w, q.w.cell? ⟨g, 2, none⟩ = some (.int .i64 e.t0) := fun q => Since.cell hx2 (by omega) q
          have Hhx3 : ∀ q : Since y2.w, q.w.cell? ⟨g, 3, none⟩ = some (.int .i64 e.t1) := fun q => Since.cell hx3 (by omega) q
          have Hhxf : ∀ (q : Since y2.w) (o : Nat), q.w.frozen? ⟨g, o, none⟩ = false := fun q o => Since.free (hxf o) (by omega) q
          have Hhxg := Lib.hid (And.intro hsz0 hlt0)
          clear hlt0 hsz0
          replace hb0_0 := Since.cellTo ⟨y2, rfl⟩ hb0_0
          replace hb0_1 := Since.cellTo ⟨y2, rfl⟩ hb0_1
          replace hb0_2 := Since.cellTo ⟨y2, rfl⟩ hb0_2
          replace hb0_3 := Since.cellTo ⟨y2, rfl⟩ hb0_3
          replace hb0_4 := Since.cellTo ⟨y2, rfl⟩ hb0_4
          replace hb0_5 := Since.cellTo ⟨y2, rfl⟩ hb0_5
          replace hb0_6 := Since.cellTo ⟨y2, rfl⟩ hb0_6
          replace hb0_7 := Since.cellTo ⟨y2, rfl⟩ hb0_7
          replace hb0_8 := Since.cellTo ⟨y2, rfl⟩ hb0_8
          replace hb0_9 := Since.cellTo ⟨y2, rfl⟩ hb0_9
          replace hb0_10 := Since.cellTo ⟨y2, rfl⟩ hb0_10
          replace hb0_11 := Since.cellTo ⟨y2, rfl⟩ hb0_11
          replace hb0_12 := Since.cellTo ⟨y2, rfl⟩ hb0_12
          obtain ⟨q0, hq0⟩ := Since.refl y2.w
          rw [hq0]
          clear hq0
          by_cases hfa : e.f0 < a
          · have Hr := Lib.hid (show orderedB r = false by rw [HO3.out, Hstep.out, decide_eq_false (by omega)]; rfl)
            go_wp2_with fail
            go_ret
            exact ⟨ret_bool Hr.out.symm, by obtain ⟨q, e⟩ := y2.trans q0; rw [e]; exact Hup.out q⟩
          have hfa' : a ≤ e.f0 := by omega
          by_cases hret : op = true ∧ k + 1 = r.pauses.length ∧ e.t0 = 0
          · obtain ⟨rfl, hkk, ht0⟩ := hret
            have Hr := Lib.hid (show orderedB r = true by rw [HO3.out, Hstep.out, decide_eq_true hfa', decide_eq_true hkk, decide_eq_true ht0]; rfl)
            have hkb : ((k : Int) == (r.pauses.length : Int) - 1) = true := by simp; omega
            have htb : (e.t0 == 0) = true := by simpa using ht0
            have Hkk := Lib.hid hkk; have Ht0 := Lib.hid ht0
            clear hkk ht0 hfa
            go_wp2_with fail
            go_ret
            exact ⟨ret_bool Hr.out.symm, by obtain ⟨q, e⟩ := y2.trans q0; rw [e]; exact Hup.out q⟩
          have hno : (op && decide (k + 1 = r.pauses.length) && decide (e.t0 = 0)) = false := by
            cases op
            · rfl
            · by_cases h1 : k + 1 = r.pauses.length
              · by_cases h2 : e.t0 = 0
                · exact (hret ⟨rfl, h1, h2⟩).elim
                · simp [h2]
              · simp [h1]
          have Hno := Lib.hid hno
          have hcase : (op = false) ∨ (op = true ∧ ((k : Int) == (r.pauses.length : Int) - 1) = false) ∨ (op = true ∧ ((k : Int) == (r.pauses.length : Int) - 1) = true ∧ (e.t0 == 0) = false) := by
            cases op
            · exact .inl rfl
            · by_cases h1 : k + 1 = r.pauses.length
              · exact .inr (.inr ⟨rfl, by simp; omega, by simp; intro h2; exact hret ⟨rfl, h1, h2⟩⟩)
              · exact .inr (.inl ⟨rfl, by simp; omega⟩)
          clear hno hret hfa
          by_cases hft : e.f0 ≤ e.t0
          · have Hr := Lib.hid (show psesO op r.e0 a (r.pauses.drop k) = psesO op r.e0 e.t0 (r.pauses.drop (k + 1)) by rw [Hstep.out, Hno.out, decide_eq_true hfa', decide_eq_true hft]; rfl)
            rcases hcase with rfl | ⟨rfl, hkb⟩ | ⟨rfl, hkb, htb⟩
            all_goals
              go_wp2_with fail
              obtain ⟨q, eq⟩ := y2.trans q0
              rw [eq]
              go_roundw
              case rel => exact ⟨k + 1, e.t0, q, by omega, by go_num, rfl, rfl, by rw [Hch.out, Hr.out]⟩
              case measure => simp [intOf] <;> omega
          · have Hr := Lib.hid (show orderedB r = false by rw [HO3.out, Hstep.out, Hno.out, decide_eq_true hfa', decide_eq_false hft]; rfl)
            rcases hcase with rfl | ⟨rfl, hkb⟩ | ⟨rfl, hkb, htb⟩
            all_goals
              go_wp2_with fail
              go_ret
              exact ⟨ret_bool Hr.out.symm, by obtain ⟨q, e⟩ := y2.trans q0; rw [e]; exact Hup.out q⟩
        · obtain rfl : k = r.pauses.length := by omega
          rw [List.drop_length] at Hch
          have HO3 := Lib.hid (show orderedB r = (decide (r.pauses.length = 0) || op || decide (a ≤ r.e0)) by
            rw [HO2.out, Hch.out]
            have : r.pauses.isEmpty = decide (r.pauses.length = 0) := by rw [Bool.eq_iff_iff]; simp
            rw [this, Bool.or_assoc]; rfl)
          clear HO2 Hch
          have hcase : op = true ∨ (op = false ∧ ((r.pauses.length : Int) == 0) = true ∧ orderedB r = true) ∨ (op = false ∧ ((r.pauses.length : Int) == 0) = false ∧ orderedB r = decide (a ≤ r.e0)) := by
            cases op
            · by_cases h0 : r.pauses.length = 0
              · exact .inr (.inl ⟨rfl, by simp; simpa using h0, by rw [HO3.out, decide_eq_true h0]; rfl⟩)
              · exact .inr (.inr ⟨rfl, by simp; simpa using h0, by rw [HO3.out, decide_eq_false h0]; rfl⟩)
            · exact .inl rfl
          rcases hcase with rfl | ⟨rfl, h0, hr⟩ | ⟨rfl, h0, hr⟩
          · have Hr := Lib.hid (show orderedB r = true by rw [HO3.out]; simp)
            go_wp2_with fail
            go_ret
            exact ⟨ret_bool Hr.out.symm, Hup.out _⟩
          · have Hr := Lib.hid hr; clear hr
            go_wp2_with fail
            go_ret
            exact ⟨ret_bool Hr.out.symm, Hup.out _⟩
          · have Hr := Lib.hid hr; clear hr
            go_wp2_with fail
            go_ret
            exact ⟨ret_bool Hr.out.symm, Hup.out _⟩
end Go.Proofs.Ytefodfpnedcodaa
/- The walks of the reference's check of a ride, second part: the legs follow one another. -/
namespace Go.Proofs.Ytefodfpnedcodaa
open Go.RowKit

/-- leg i begins where leg i - 1 ends -/
def linkB (l : List Leg) (i : Nat) : Bool := match l[i]?, l[i - 1]? with | some x, some y => decide (x.f0 = y.t0) && decide (x.f1 = y.t1) | _, _ => true
theorem linkB_at {l : List Leg} {i : Nat} {x y : Leg} (hx : l[i]? = some x) (hy : l[i - 1]? = some y) : linkB l i = (decide (x.f0 = y.t0) && decide (x.f1 = y.t1)) := by unfold linkB; rw [hx, hy]
theorem chainL_iff : ∀ (l : List Leg) (a0 a1 e0 e1 : Int) (x y : Leg), l[0]? = some x → l[l.length - 1]? = some y →
    (chainL a0 a1 l e0 e1 = true ↔ (x.f0 = a0 ∧ x.f1 = a1) ∧ (y.t0 = e0 ∧ y.t1 = e1) ∧ ∀ i, 1 ≤ i → i < l.length → linkB l i = true)
  | [], _, _, _, _, _, _, h, _ => by simp at h
  | [z], a0, a1, e0, e1, x, y, hx, hy => by
    simp at hx hy; subst hx; subst hy
    simp only [chainL, Bool.and_eq_true, decide_eq_true_eq, List.length_cons, List.length_nil]
    constructor
    · rintro ⟨h1, h2⟩; exact ⟨h1, h2, fun i h h' => by omega⟩
    · rintro ⟨h1, h2, _⟩; exact ⟨h1, h2⟩
  | z :: z2 :: l, a0, a1, e0, e1, x, y, hx, hy => by
    simp at hx; subst hx
    have hy' : (z2 :: l)[(z2 :: l).length - 1]? = some y := by
      simp only [List.length_cons, Nat.add_sub_cancel] at hy ⊢
      rw [← hy]; simp
    have ih := chainL_iff (z2 :: l) z.t0 z.t1 e0 e1 z2 y rfl hy'
    show (decide (z.f0 = a0) && decide (z.f1 = a1) && chainL z.t0 z.t1 (z2 :: l) e0 e1) = true ↔ _
    rw [Bool.and_eq_true, ih, Bool.and_eq_true, decide_eq_true_eq, decide_eq_true_eq]
    constructor
    · rintro ⟨h1, h2, h3, h4⟩
      refine ⟨h1, h3, fun i hi hil => ?_⟩
      by_cases hi1 : i = 1
      · subst hi1
        rw [linkB_at (x := z2) (y := z) rfl rfl]; simp [h2]
      · have := h4 (i - 1) (by omega) (by simp at hil ⊢; omega)
        unfold linkB at this ⊢
        obtain ⟨j, rfl⟩ : ∃ j, i = j + 2 := ⟨i - 2, by omega⟩
        simpa using this
    · rintro ⟨h1, h3, h4⟩
      have h2 := h4 1 (by omega) (by simp)
      rw [linkB_at (x := z2) (y := z) rfl rfl, Bool.and_eq_true, decide_eq_true_eq, decide_eq_true_eq] at h2
      refine ⟨h1, h2, h3, fun i hi hil => ?_⟩
      have := h4 (i + 1) (by omega) (by simp at hil ⊢; omega)
      unfold linkB at this ⊢
      obtain ⟨j, rfl⟩ : ∃ j, i = j + 1 := ⟨i - 1, by omega⟩
      simpa using this
set_option maxRecDepth 100000 in
set_option maxHeartbeats 8000000 in
theorem rjoined_calls (w : World) (x : Since w) (r : Ride) (h : r.At w) :
    Calls Try.prog 50 #[.agg #[.int .i64 r.id, .int .i64 r.rd, .int .i64 r.s0, .int .i64 r.s1, .int .i64 r.e0, .int .i64 r.e1, .bool r.op, .slice r.la r.legs.length r.lc, .slice r.pa r.pauses.length r.pc, .int .i64 r.fw, .int .i64 r.fp, .int .i64 r.wh, .int .i64 r.pl]] x.w fun o w' => o = .returned (.bool (joinedB r)) ∧ ∃ y : Since w, w' = y.w := by
  have HL := Lib.hid h.l
  have hlm := h.lm
  have hpm := h.pm
  clear h
  generalize r.la = la at HL ⊢
  rcases (by omega : r.legs.length < 1 ∨ (1 ≤ r.legs.length ∧ 512 < r.legs.length) ∨ (1 ≤ r.legs.length ∧ r.legs.length ≤ 512 ∧ 512 < r.pauses.length) ∨ (1 ≤ r.legs.length ∧ r.legs.length ≤ 512 ∧ r.pauses.length ≤ 512)) with h1 | ⟨h1, h2⟩ | ⟨h1, h2, h3⟩ | ⟨h1, h2, h3⟩
  case inr.inr.inr =>
    have hj : joinedB r = chainL r.s0 r.s1 r.legs r.e0 r.e1 := by unfold joinedB; simp [h1, h2, h3]
    obtain ⟨u, hu⟩ : ∃ e, r.legs[0]? = some e := ⟨_, List.getElem?_eq_getElem (by omega)⟩
    obtain ⟨v, hv⟩ : ∃ e, r.legs[r.legs.length - 1]? = some e := ⟨_, List.getElem?_eq_getElem (by omega)⟩
    have hci := chainL_iff r.legs r.s0 r.s1 r.e0 r.e1 u v hu hv
    rw [← hj] at hci
    have Hci := Lib.hid hci
    go_enter Try.func50, Try.ntmps50
    go_upto_region 1 with fail
    have hb0_0 : ∀ y : Since (x.w.alloc (.cells #[.int .i64 r.id, .int .i64 r.rd, .int .i64 r.s0, .int .i64 r.s1, .int .i64 r.e0, .int .i64 r.e1, .bool r.op, .slice la r.legs.length r.lc, .slice r.pa r.pauses.length r.pc, .int .i64 r.fw, .int .i64 r.fp, .int .i64 r.wh, .int .i64 r.pl] 27)), y.w.cell? ⟨x.w.heap.size, 0, none⟩ = some (.int .i64 r.id) := fun y => Since.cell (by simp [go_sem]) (by first | (simp; done) | (simp; omega)) y
    have hb0_1 : ∀ y : Since (x.w.alloc (.cells #[.int .i64 r.id, .int .i64 r.rd, .int .i64 r.s0, .int .i64 r.s1, .int .i64 r.e0, .int .i64 r.e1, .bool r.op, .slice la r.legs.length r.lc, .slice r.pa r.pauses.length r.pc, .int .i64 r.fw, .int .i64 r.fp, .int .i64 r.wh, .int .i64 r.pl] 27)), y.w.cell? ⟨x.w.heap.size, 1, none⟩ = some (.int .i64 r.rd) := fun y => Since.cell (by simp [go_sem]) (by first | (simp; done) | (simp; omega)) y
    have hb0_2 : ∀ y : Since (x.w.alloc (.cells #[.int .i64 r.id, .int .i64 r.rd, .int .i64 r.s0, .int .i64 r.s1, .int .i64 r.e0, .int .i64 r.e1, .bool r.op, .slice la r.legs.length r.lc, .slice r.pa r.pauses.length r.pc, .int .i64 r.fw, .int .i64 r.fp, .int .i64 r.wh, .int .i64 r.pl] 27)), y.w.cell? ⟨x.w.heap.size, 2, none⟩ = some (.int .i64 r.s0) := fun y => Since.cell (by simp [go_sem]) (by first | (simp; done) | (simp; omega)) y
    have hb0_3 : ∀ y : Since (x.w.alloc (.cells #[.int .i64 r.id, .int .i64 r.rd, .int .i64 r.s0, .int .i64 r.s1, .int .i64 r.e0, .int .i64 r.e1, .bool r.op, .slice la r.legs.length r.lc, .slice r.pa r.pauses.length r.pc, .int .i64 r.fw, .int .i64 r.fp, .int .i64 r.wh, .int .i64 r.pl] 27)), y.w.cell? ⟨x.w.heap.size, 3, none⟩ = some (.int .i64 r.s1) := fun y => Since.cell (by simp [go_sem]) (by first | (simp; done) | (simp; omega)) y
    have hb0_4 : ∀ y : Since (x.w.alloc (.cells #[.int .i64 r.id, .int .i64 r.rd, .int .i64 r.s0, .int .i64 r.s1, .int .i64 r.e0, .int .i64 r.e1, .bool r.op, .slice la r.legs.length r.lc, .slice r.pa r.pauses.length r.pc, .int .i64 r.fw, .int .i64 r.fp, .int .i64 r.wh, .int .i64 r.pl] 27)), y.w.cell? ⟨x.w.heap.size, 4, none⟩ = some (.int .i64 r.e0) := fun y => Since.cell (by simp [go_sem]) (by first | (simp; done) | (simp; omega)) y
    have hb0_5 : ∀ y : Since (x.w.alloc (.cells #[.int .i64 r.id, .int .i64 r.rd, .int .i64 r.s0, .int .i64 r.s1, .int .i64 r.e0, .int .i64 r.e1, .bool r.op, .slice la r.legs.length r.lc, .slice r.pa r.pauses.length r.pc, .int .i64 r.fw, .int .i64 r.fp, .int .i64 r.wh, .int .i64 r.pl] 27)), y.w.cell? ⟨x.w.heap.size, 5, none⟩ = some (.int .i64 r.e1) := fun y => Since.cell (by simp [go_sem]) (by first | (simp; done) | (simp; omega)) y
    have hb0_6 : ∀ y : Since (x.w.alloc (.cells #[.int .i64 r.id, .int .i64 r.rd, .int .i64 r.s0, .int .i64 r.s1, .int .i64 r.e0, .int .i64 r.e1, .bool r.op, .slice la r.legs.length r.lc, .slice r.pa r.pauses.length r.pc, .int .i64 r.fw, .int .i64 r.fp, .int .i64 r.wh, .int .i64 r.pl] 27)), y.w.cell? ⟨x.w.heap.size, 6, none⟩ = some (.bool r.op) := fun y => Since.cell (by simp [go_sem]) (by first | (simp; done) | (simp; omega)) y
    have hb0_7 : ∀ y : Since (x.w.alloc (.cells #[.int .i64 r.id, .int .i64 r.rd, .int .i64 r.s0, .int .i64 r.s1, .int .i64 r.e0, .int .i64 r.e1, .bool r.op, .slice la r.legs.length r.lc, .slice r.pa r.pauses.length r.pc, .int .i64 r.fw, .int .i64 r.fp, .int .i64 r.wh, .int .i64 r.pl] 27)), y.w.cell? ⟨x.w.heap.size, 7, none⟩ = some (.slice la r.legs.length r.lc) := fun y => Since.cell (by simp [go_sem]) (by first | (simp; done) | (simp; omega)) y
    have hb0_8 : ∀ y : Since (x.w.alloc (.cells #[.int .i64 r.id, .int .i64 r.rd, .int .i64 r.s0, .int .i64 r.s1, .int .i64 r.e0, .int .i64 r.e1, .bool r.op, .slice la r.legs.length r.lc, .slice r.pa r.pauses.length r.pc, .int .i64 r.fw, .int .i64 r.fp, .int .i64 r.wh, .int .i64 r.pl] 27)), y.w.cell? ⟨x.w.heap.size, 8, none⟩ = some (.slice r.pa r.pauses.length r.pc) := fun y => Since.cell (by simp [go_sem]) (by first | (simp; done) | (simp; omega)) y
    have hb0_9 : ∀ y : Since (x.w.alloc (.cells #[.int .i64 r.id, .int .i64 r.rd, .int .i64 r.s0, .int .i64 r.s1, .int .i64 r.e0, .int .i64 r.e1, .bool r.op, .slice la r.legs.length r.lc, .slice r.pa r.pauses.length r.pc, .int .i64 r.fw, .int .i64 r.fp, .int .i64 r.wh, .int .i64 r.pl] 27)), y.w.cell? ⟨x.w.heap.size, 9, none⟩ = some (.int .i64 r.fw) := fun y => Since.cell (by simp [go_sem]) (by first | (simp; done) | (simp; omega)) y
    have hb0_10 : ∀ y : Since (x.w.alloc (.cells #[.int .i64 r.id, .int .i64 r.rd, .int .i64 r.s0, .int .i64 r.s1, .int .i64 r.e0, .int .i64 r.e1, .bool r.op, .slice la r.legs.length r.lc, .slice r.pa r.pauses.length r.pc, .int .i64 r.fw, .int .i64 r.fp, .int .i64 r.wh, .int .i64 r.pl] 27)), y.w.cell? ⟨x.w.heap.size, 10, none⟩ = some (.int .i64 r.fp) := fun y => Since.cell (by simp [go_sem]) (by first | (simp; done) | (simp; omega)) y
    have hb0_11 : ∀ y : Since (x.w.alloc (.cells #[.int .i64 r.id, .int .i64 r.rd, .int .i64 r.s0, .int .i64 r.s1, .int .i64 r.e0, .int .i64 r.e1, .bool r.op, .slice la r.legs.length r.lc, .slice r.pa r.pauses.length r.pc, .int .i64 r.fw, .int .i64 r.fp, .int .i64 r.wh, .int .i64 r.pl] 27)), y.w.cell? ⟨x.w.heap.size, 11, none⟩ = some (.int .i64 r.wh) := fun y => Since.cell (by simp [go_sem]) (by first | (simp; done) | (simp; omega)) y
    have hb0_12 : ∀ y : Since (x.w.alloc (.cells #[.int .i64 r.id, .int .i64 r.rd, .int .i64 r.s0, .int .i64 r.s1, .int .i64 r.e0, .int .i64 r.e1, .bool r.op, .slice la r.legs.length r.lc, .slice r.pa r.pauses.length r.pc, .int .i64 r.fw, .int .i64 r.fp, .int .i64 r.wh, .int .i64 r.pl] 27)), y.w.cell? ⟨x.w.heap.size, 12, none⟩ = some (.int .i64 r.pl) := fun y => Since.cell (by simp [go_sem]) (by first | (simp; done) | (simp; omega)) y
    have hf0 : ∀ (y : Since (x.w.alloc (.cells #[.int .i64 r.id, .int .i64 r.rd, .int .i64 r.s0, .int .i64 r.s1, .int .i64 r.e0, .int .i64 r.e1, .bool r.op, .slice la r.legs.length r.lc, .slice r.pa r.pauses.length r.pc, .int .i64 r.fw, .int .i64 r.fp, .int .i64 r.wh, .int .i64 r.pl] 27))) (o : Nat), y.w.frozen? ⟨x.w.heap.size, o, none⟩ = false := fun y o => Since.free (by simp [go_sem]) (by first | (simp; done) | (simp; omega)) y
    have hWup : ∃ z : Since w, (x.w.alloc (.cells #[.int .i64 r.id, .int .i64 r.rd, .int .i64 r.s0, .int .i64 r.s1, .int .i64 r.e0, .int .i64 r.e1, .bool r.op, .slice la r.legs.length r.lc, .slice r.pa r.pauses.length r.pc, .int .i64 r.fw, .int .i64 r.fp, .int .i64 r.wh, .int .i64 r.pl] 27)) = z.w := x.alloc _
    obtain ⟨y0, hy0⟩ := Since.refl (x.w.alloc (.cells #[.int .i64 r.id, .int .i64 r.rd, .int .i64 r.s0, .int .i64 r.s1, .int .i64 r.e0, .int .i64 r.e1, .bool r.op, .slice la r.legs.length r.lc, .slice r.pa r.pauses.length r.pc, .int .i64 r.fw, .int .i64 r.fp, .int .i64 r.wh, .int .i64 r.pl] 27))
    have Hbx := Lib.hid (And.intro x.b.size (show x.w.heap.size + 1 = (x.w.alloc (.cells #[.int .i64 r.id, .int .i64 r.rd, .int .i64 r.s0, .int .i64 r.s1, .int .i64 r.e0, .int .i64 r.e1, .bool r.op, .slice la r.legs.length r.lc, .slice r.pa r.pauses.length r.pc, .int .i64 r.fw, .int .i64 r.fp, .int .i64 r.wh, .int .i64 r.pl] 27)).heap.size from by simp))
    generalize hW : (x.w.alloc (.cells #[.int .i64 r.id, .int .i64 r.rd, .int .i64 r.s0, .int .i64 r.s1, .int .i64 r.e0, .int .i64 r.e1, .bool r.op, .slice la r.legs.length r.lc, .slice r.pa r.pauses.length r.pc, .int .i64 r.fw, .int .i64 r.fp, .int .i64 r.wh, .int .i64 r.pl] 27)) = W at *
    clear hW
    generalize x.w.heap.size = bx at *
    have Hup := Lib.hid (Since.up hWup)
    rw [hy0]
    clear hy0
    replace HL := Lib.hid (HL.out.to hWup)
    clear hWup hj hci
    obtain ⟨b1, off1, rfl, h1'⟩ := Els.leg HL.out hu
    obtain ⟨b2, off2, hbo, h2'⟩ := Els.leg HL.out hv
    obtain ⟨rfl, rfl⟩ : b1 = b2 ∧ off1 = off2 := by simpa using hbo
    have pa0 := h1'.c0
    have pa1 := h1'.c1
    have pa2 := h1'.c2
    have pa3 := h1'.c3
    have pa4 := h1'.c4
    have qa0 := h2'.c0
    have qa1 := h2'.c1
    have qa2 := h2'.c2
    have qa3 := h2'.c3
    have qa4 := h2'.c4
    simp only [Nat.zero_mul, Nat.add_zero] at pa0 pa1 pa2 pa3 pa4
    first | have hd1 : decide ((r.legs.length : Int) < 1) = true := decide_eq_true (by omega) | have hd1 : decide ((r.legs.length : Int) < 1) = false := decide_eq_false (by omega)
    try first | have hd2 : decide ((512 : Int) < (r.legs.length : Int)) = true := decide_eq_true (by omega) | have hd2 : decide ((512 : Int) < (r.legs.length : Int)) = false := decide_eq_false (by omega)
    try first | have hd3 : decide ((512 : Int) < (r.pauses.length : Int)) = true := decide_eq_true (by omega) | have hd3 : decide ((512 : Int) < (r.pauses.length : Int)) = false := decide_eq_false (by omega)
    have heq0 := span_equal
    have hgd := span_guard
    have Heq := Lib.hid heq0; clear heq0
    have heq := Heq.out u.f0 u.f1 r.s0 r.s1
    have heq2 := Heq.out v.t0 v.t1 r.e0 r.e1
    have hm1 : (0 : Int) < (r.legs.length : Int) := by omega
    have hmw : IntKind.i64.wrap ((r.legs.length : Int) - 1) = ((r.legs.length - 1 : Nat) : Int) := by rw [show (r.legs.length : Int) - 1 = ((r.legs.length - 1 : Nat) : Int) by omega]; exact IntWalk.i64_in _ (by omega)
    have hmr : (0 : Int) ≤ ((r.legs.length - 1 : Nat) : Int) := by omega
    have hml : ((r.legs.length - 1 : Nat) : Int) < (r.legs.length : Int) := by omega
    clear hbo h1' h2' hu hv
    cases hb : (decide (u.f0 = r.s0) && decide (u.f1 = r.s1)) with
    | false =>
      rw [hb] at heq
      have Hr := Lib.hid (show joinedB r = false by
        cases hh : joinedB r
        · rfl
        · have := (Hci.out.1 hh).1; simp [this] at hb)
      clear hb
      go_wp2_with fail
      refine wp_region_since (by kernel_rfl) (by kernel_rfl) ?_
      repeat (go_big_quiet_step (fail))
      refine wpQuiet_nil ?_
      rintro _ ⟨y1, rfl⟩
      go_wp2_with fail
      go_ret
      exact ⟨ret_bool Hr.out.symm, Hup.out _⟩
    | true =>
      rw [hb] at heq
      have Hb := Lib.hid hb; clear hb
      cases hb2 : (decide (v.t0 = r.e0) && decide (v.t1 = r.e1)) with
      | false =>
        rw [hb2] at heq2
        have Hr := Lib.hid (show joinedB r = false by
          cases hh : joinedB r
          · rfl
          · have := (Hci.out.1 hh).2.1; simp [this] at hb2)
        clear hb2
        go_wp2_with fail
        refine wp_region_since (by kernel_rfl) (by kernel_rfl) ?_
        repeat (go_big_quiet_step (fail))
        refine wpQuiet_nil ?_
        rintro _ ⟨y1, rfl⟩
        go_wp2_with fail
        go_ret
        exact ⟨ret_bool Hr.out.symm, Hup.out _⟩
      | true =>
        rw [hb2] at heq2
        have Hb2 := Lib.hid hb2; clear hb2
        go_wp2_with fail
        refine wp_region_since (by kernel_rfl) (by kernel_rfl) ?_
        repeat (go_big_quiet_step (fail))
        refine wpQuiet_nil ?_
        rintro _ ⟨y1, rfl⟩
        clear pa0 pa1 pa2 pa3 pa4 qa0 qa1 qa2 qa3 qa4 heq heq2 hmw hmr hml
        go_wp2_with fail
        go_loopw [4] (fun i wr => ∃ (m : Nat) (y : Since W), 1 ≤ m ∧ m ≤ r.legs.length ∧ i = .int .i64 m ∧ wr = y.w ∧ ∀ i, 1 ≤ i → i < m → linkB r.legs i = true) (fun i _ => r.legs.length - (intOf i).toNat)
        case atStart => exact ⟨1, _, by omega, by omega, rfl, rfl, fun i hi hil => by omega⟩
        case round =>
          obtain ⟨m, y, hm1', hm2, rfl, rfl, hok⟩ := hrel
          have Hok := Lib.hid hok; clear hok
          by_cases hlt : m < r.legs.length
          · obtain ⟨u2, hu⟩ : ∃ e, r.legs[m]? = some e := ⟨_, List.getElem?_eq_getElem hlt⟩
            obtain ⟨v2, hv⟩ : ∃ e, r.legs[m - 1]? = some e := ⟨_, List.getElem?_eq_getElem (by omega)⟩
            obtain ⟨c1, of1, hbo1, h1'⟩ := Els.leg HL.out hu
            obtain ⟨rfl, rfl⟩ : b1 = c1 ∧ off1 = of1 := by simpa using hbo1
            obtain ⟨c2, of2, hbo2, h2'⟩ := Els.leg HL.out hv
            obtain ⟨rfl, rfl⟩ : b1 = c2 ∧ off1 = of2 := by simpa using hbo2
            have pa0 := h1'.c0
            have pa1 := h1'.c1
            have pa2 := h1'.c2
            have pa3 := h1'.c3
            have pa4 := h1'.c4
            have qa0 := h2'.c0
            have qa1 := h2'.c1
            have qa2 := h2'.c2
            have qa3 := h2'.c3
            have qa4 := h2'.c4
            have hm3 : (0 : Int) < (m : Int) := by omega
            have hmw : IntKind.i64.wrap ((m : Int) - 1) = ((m - 1 : Nat) : Int) := by rw [show (m : Int) - 1 = ((m - 1 : Nat) : Int) by omega]; exact IntWalk.i64_in _ (by omega)
            have hmr : (0 : Int) ≤ ((m - 1 : Nat) : Int) := by omega
            have hml : ((m - 1 : Nat) : Int) < (r.legs.length : Int) := by omega
            have hmk : (0 : Int) ≤ (m : Int) := by omega
            have hmj : (m : Int) < (r.legs.length : Int) := by omega
            have Hlk := Lib.hid (linkB_at hu hv)
            have heq := Heq.out u2.f0 u2.f1 v2.t0 v2.t1
            clear hbo1 hbo2 h1' h2' hu hv
            cases hb : (decide (u2.f0 = v2.t0) && decide (u2.f1 = v2.t1)) with
            | false =>
              rw [hb] at heq Hlk
              have Hr := Lib.hid (show joinedB r = false by
                cases hh : joinedB r
                · rfl
                · have := (Hci.out.1 hh).2.2 m hm1' hlt; rw [Hlk.out] at this; cases this)
              clear hb
              go_wp2_with fail
              refine wp_region_since (by kernel_rfl) (by kernel_rfl) ?_
              repeat (go_big_quiet_step (fail))
              refine wpQuiet_nil ?_
              rintro _ ⟨y2, rfl⟩
              clear pa0 pa1 pa2 pa3 pa4 qa0 qa1 qa2 qa3 qa4 heq hmw hmr hml
              go_wp2_with fail
              go_ret
              exact ⟨ret_bool Hr.out.symm, Hup.out _⟩
            | true =>
              rw [hb] at heq Hlk
              clear hb
              go_wp2_with fail
              refine wp_region_since (by kernel_rfl) (by kernel_rfl) ?_
              repeat (go_big_quiet_step (fail))
              refine wpQuiet_nil ?_
              rintro _ ⟨y2, rfl⟩
              clear pa0 pa1 pa2 pa3 pa4 qa0 qa1 qa2 qa3 qa4 heq hmw hmr hml
              go_wp2_with fail
              go_roundw
              case rel => exact ⟨m + 1, y2, by omega, by omega, by go_num, rfl, fun i hi hil => by
                by_cases him : i < m
                · exact Hok.out i hi him
                · obtain rfl : i = m := by omega
                  exact Hlk.out⟩
              case measure => simp [intOf] <;> omega
          · obtain rfl : m = r.legs.length := by omega
            have Hr := Lib.hid (show joinedB r = true from Hci.out.2 ⟨by simpa using Hb.out, by simpa using Hb2.out, Hok.out⟩)
            go_wp2_with fail
            go_ret
            exact ⟨ret_bool Hr.out.symm, Hup.out _⟩
  all_goals
    have Hr := Lib.hid (show joinedB r = false by
      cases hh : joinedB r
      · rfl
      · unfold joinedB at hh
        simp only [Bool.and_eq_true, decide_eq_true_eq] at hh
        omega)
    go_enter Try.func50, Try.ntmps50
    go_upto_region 1 with fail
    have hb0_0 : ∀ y : Since (x.w.alloc (.cells #[.int .i64 r.id, .int .i64 r.rd, .int .i64 r.s0, .int .i64 r.s1, .int .i64 r.e0, .int .i64 r.e1, .bool r.op, .slice la r.legs.length r.lc, .slice r.pa r.pauses.length r.pc, .int .i64 r.fw, .int .i64 r.fp, .int .i64 r.wh, .int .i64 r.pl] 27)), y.w.cell? ⟨x.w.heap.size, 0, none⟩ = some (.int .i64 r.id) := fun y => Since.cell (by simp [go_sem]) (by first | (simp; done) | (simp; omega)) y
    have hb0_1 : ∀ y : Since (x.w.alloc (.cells #[.int .i64 r.id, .int .i64 r.rd, .int .i64 r.s0, .int .i64 r.s1, .int .i64 r.e0, .int .i64 r.e1, .bool r.op, .slice la r.legs.length r.lc, .slice r.pa r.pauses.length r.pc, .int .i64 r.fw, .int .i64 r.fp, .int .i64 r.wh, .int .i64 r.pl] 27)), y.w.cell? ⟨x.w.heap.size, 1, none⟩ = some (.int .i64 r.rd) := fun y => Since.cell (by simp [go_sem]) (by first | (simp; done) | (simp; omega)) y
    have hb0_2 : ∀ y : Since (x.w.alloc (.cells #[.int .i64 r.id, .int .i64 r.rd, .int .i64 r.s0, .int .i64 r.s1, .int .i64 r.e0, .int .i64 r.e1, .bool r.op, .slice la r.legs.length r.lc, .slice r.pa r.pauses.length r.pc, .int .i64 r.fw, .int .i64 r.fp, .int .i64 r.wh, .int .i64 r.pl] 27)), y.w.cell? ⟨x.w.heap.size, 2, none⟩ = some (.int .i64 r.s0) := fun y => Since.cell (by simp [go_sem]) (by first | (simp; done) | (simp; omega)) y
    have hb0_3 : ∀ y : Since (x.w.alloc (.cells #[.int .i64 r.id, .int .i64 r.rd, .int .i64 r.s0, .int .i64 r.s1, .int .i64 r.e0, .int .i64 r.e1, .bool r.op, .slice la r.legs.length r.lc, .slice r.pa r.pauses.length r.pc, .int .i64 r.fw, .int .i64 r.fp, .int .i64 r.wh, .int .i64 r.pl] 27)), y.w.cell? ⟨x.w.heap.size, 3, none⟩ = some (.int .i64 r.s1) := fun y => Since.cell (by simp [go_sem]) (by first | (simp; done) | (simp; omega)) y
    have hb0_4 : ∀ y : Since (x.w.alloc (.cells #[.int .i64 r.id, .int .i64 r.rd, .int .i64 r.s0, .int .i64 r.s1, .int .i64 r.e0, .int .i64 r.e1, .bool r.op, .slice la r.legs.length r.lc, .slice r.pa r.pauses.length r.pc, .int .i64 r.fw, .int .i64 r.fp, .int .i64 r.wh, .int .i64 r.pl] 27)), y.w.cell? ⟨x.w.heap.size, 4, none⟩ = some (.int .i64 r.e0) := fun y => Since.cell (by simp [go_sem]) (by first | (simp; done) | (simp; omega)) y
    have hb0_5 : ∀ y : Since (x.w.alloc (.cells #[.int .i64 r.id, .int .i64 r.rd, .int .i64 r.s0, .int .i64 r.s1, .int .i64 r.e0, .int .i64 r.e1, .bool r.op, .slice la r.legs.length r.lc, .slice r.pa r.pauses.length r.pc, .int .i64 r.fw, .int .i64 r.fp, .int .i64 r.wh, .int .i64 r.pl] 27)), y.w.cell? ⟨x.w.heap.size, 5, none⟩ = some (.int .i64 r.e1) := fun y => Since.cell (by simp [go_sem]) (by first | (simp; done) | (simp; omega)) y
    have hb0_6 : ∀ y : Since (x.w.alloc (.cells #[.int .i64 r.id, .int .i64 r.rd, .int .i64 r.s0, .int .i64 r.s1, .int .i64 r.e0, .int .i64 r.e1, .bool r.op, .slice la r.legs.length r.lc, .slice r.pa r.pauses.length r.pc, .int .i64 r.fw, .int .i64 r.fp, .int .i64 r.wh, .int .i64 r.pl] 27)), y.w.cell? ⟨x.w.heap.size, 6, none⟩ = some (.bool r.op) := fun y => Since.cell (by simp [go_sem]) (by first | (simp; done) | (simp; omega)) y
    have hb0_7 : ∀ y : Since (x.w.alloc (.cells #[.int .i64 r.id, .int .i64 r.rd, .int .i64 r.s0, .int .i64 r.s1, .int .i64 r.e0, .int .i64 r.e1, .bool r.op, .slice la r.legs.length r.lc, .slice r.pa r.pauses.length r.pc, .int .i64 r.fw, .int .i64 r.fp, .int .i64 r.wh, .int .i64 r.pl] 27)), y.w.cell? ⟨x.w.heap.size, 7, none⟩ = some (.slice la r.legs.length r.lc) := fun y => Since.cell (by simp [go_sem]) (by first | (simp; done) | (simp; omega)) y
    have hb0_8 : ∀ y : Since (x.w.alloc (.cells #[.int .i64 r.id, .int .i64 r.rd, .int .i64 r.s0, .int .i64 r.s1, .int .i64 r.e0, .int .i64 r.e1, .bool r.op, .slice la r.legs.length r.lc, .slice r.pa r.pauses.length r.pc, .int .i64 r.fw, .int .i64 r.fp, .int .i64 r.wh, .int .i64 r.pl] 27)), y.w.cell? ⟨x.w.heap.size, 8, none⟩ = some (.slice r.pa r.pauses.length r.pc) := fun y => Since.cell (by simp [go_sem]) (by first | (simp; done) | (simp; omega)) y
    have hb0_9 : ∀ y : Since (x.w.alloc (.cells #[.int .i64 r.id, .int .i64 r.rd, .int .i64 r.s0, .int .i64 r.s1, .int .i64 r.e0, .int .i64 r.e1, .bool r.op, .slice la r.legs.length r.lc, .slice r.pa r.pauses.length r.pc, .int .i64 r.fw, .int .i64 r.fp, .int .i64 r.wh, .int .i64 r.pl] 27)), y.w.cell? ⟨x.w.heap.size, 9, none⟩ = some (.int .i64 r.fw) := fun y => Since.cell (by simp [go_sem]) (by first | (simp; done) | (simp; omega)) y
    have hb0_10 : ∀ y : Since (x.w.alloc (.cells #[.int .i64 r.id, .int .i64 r.rd, .int .i64 r.s0, .int .i64 r.s1, .int .i64 r.e0, .int .i64 r.e1, .bool r.op, .slice la r.legs.length r.lc, .slice r.pa r.pauses.length r.pc, .int .i64 r.fw, .int .i64 r.fp, .int .i64 r.wh, .int .i64 r.pl] 27)), y.w.cell? ⟨x.w.heap.size, 10, none⟩ = some (.int .i64 r.fp) := fun y => Since.cell (by simp [go_sem]) (by first | (simp; done) | (simp; omega)) y
    have hb0_11 : ∀ y : Since (x.w.alloc (.cells #[.int .i64 r.id, .int .i64 r.rd, .int .i64 r.s0, .int .i64 r.s1, .int .i64 r.e0, .int .i64 r.e1, .bool r.op, .slice la r.legs.length r.lc, .slice r.pa r.pauses.length r.pc, .int .i64 r.fw, .int .i64 r.fp, .int .i64 r.wh, .int .i64 r.pl] 27)), y.w.cell? ⟨x.w.heap.size, 11, none⟩ = some (.int .i64 r.wh) := fun y => Since.cell (by simp [go_sem]) (by first | (simp; done) | (simp; omega)) y
    have hb0_12 : ∀ y : Since (x.w.alloc (.cells #[.int .i64 r.id, .int .i64 r.rd, .int .i64 r.s0, .int .i64 r.s1, .int .i64 r.e0, .int .i64 r.e1, .bool r.op, .slice la r.legs.length r.lc, .slice r.pa r.pauses.length r.pc, .int .i64 r.fw, .int .i64 r.fp, .int .i64 r.wh, .int .i64 r.pl] 27)), y.w.cell? ⟨x.w.heap.size, 12, none⟩ = some (.int .i64 r.pl) := fun y => Since.cell (by simp [go_sem]) (by first | (simp; done) | (simp; omega)) y
    have hf0 : ∀ (y : Since (x.w.alloc (.cells #[.int .i64 r.id, .int .i64 r.rd, .int .i64 r.s0, .int .i64 r.s1, .int .i64 r.e0, .int .i64 r.e1, .bool r.op, .slice la r.legs.length r.lc, .slice r.pa r.pauses.length r.pc, .int .i64 r.fw, .int .i64 r.fp, .int .i64 r.wh, .int .i64 r.pl] 27))) (o : Nat), y.w.frozen? ⟨x.w.heap.size, o, none⟩ = false := fun y o => Since.free (by simp [go_sem]) (by first | (simp; done) | (simp; omega)) y
    have hWup : ∃ z : Since w, (x.w.alloc (.cells #[.int .i64 r.id, .int .i64 r.rd, .int .i64 r.s0, .int .i64 r.s1, .int .i64 r.e0, .int .i64 r.e1, .bool r.op, .slice la r.legs.length r.lc, .slice r.pa r.pauses.length r.pc, .int .i64 r.fw, .int .i64 r.fp, .int .i64 r.wh, .int .i64 r.pl] 27)) = z.w := x.alloc _
    obtain ⟨y0, hy0⟩ := Since.refl (x.w.alloc (.cells #[.int .i64 r.id, .int .i64 r.rd, .int .i64 r.s0, .int .i64 r.s1, .int .i64 r.e0, .int .i64 r.e1, .bool r.op, .slice la r.legs.length r.lc, .slice r.pa r.pauses.length r.pc, .int .i64 r.fw, .int .i64 r.fp, .int .i64 r.wh, .int .i64 r.pl] 27))
    have Hbx := Lib.hid (And.intro x.b.size (show x.w.heap.size + 1 = (x.w.alloc (.cells #[.int .i64 r.id, .int .i64 r.rd, .int .i64 r.s0, .int .i64 r.s1, .int .i64 r.e0, .int .i64 r.e1, .bool r.op, .slice la r.legs.length r.lc, .slice r.pa r.pauses.length r.pc, .int .i64 r.fw, .int .i64 r.fp, .int .i64 r.wh, .int .i64 r.pl] 27)).heap.size from by simp))
    generalize hW : (x.w.alloc (.cells #[.int .i64 r.id, .int .i64 r.rd, .int .i64 r.s0, .int .i64 r.s1, .int .i64 r.e0, .int .i64 r.e1, .bool r.op, .slice la r.legs.length r.lc, .slice r.pa r.pauses.length r.pc, .int .i64 r.fw, .int .i64 r.fp, .int .i64 r.wh, .int .i64 r.pl] 27)) = W at *
    clear hW
    generalize x.w.heap.size = bx at *
    have Hup := Lib.hid (Since.up hWup)
    rw [hy0]
    clear hy0
    clear hWup
    first | have hd1 : decide ((r.legs.length : Int) < 1) = true := decide_eq_true (by omega) | have hd1 : decide ((r.legs.length : Int) < 1) = false := decide_eq_false (by omega)
    try first | have hd2 : decide ((512 : Int) < (r.legs.length : Int)) = true := decide_eq_true (by omega) | have hd2 : decide ((512 : Int) < (r.legs.length : Int)) = false := decide_eq_false (by omega)
    try first | have hd3 : decide ((512 : Int) < (r.pauses.length : Int)) = true := decide_eq_true (by omega) | have hd3 : decide ((512 : Int) < (r.pauses.length : Int)) = false := decide_eq_false (by omega)
    go_wp2_with fail
    refine wp_region_since (by kernel_rfl) (by kernel_rfl) ?_
    repeat (go_big_quiet_step (fail))
    refine wpQuiet_nil ?_
    rintro _ ⟨y1, rfl⟩
    go_wp2_with fail
    go_ret
    exact ⟨ret_bool Hr.out.symm, Hup.out _⟩
end Go.Proofs.Ytefodfpnedcodaa
/- The walks of the reference's check of a ride, third part: the marks of the pauses. -/
namespace Go.Proofs.Ytefodfpnedcodaa
open Go.RowKit

theorem sInts : SliceOf Try.prog 73 3 (.int .i64 0) 1 8 := SliceOf.mk' Try.underlying73 (by kernel_rfl) rfl (by decide)
/-- the beginnings and ends of pauses -/
def flatM (l : List Pse) : List Int := l.flatMap fun p => [p.f0, p.t0]
theorem flatM_len : ∀ l : List Pse, (flatM l).length = 2 * l.length
  | [] => rfl
  | p :: l => by
    have := flatM_len l
    simp only [flatM, List.flatMap_cons, List.length_append, List.length_cons, List.length_nil] at this ⊢
    omega
theorem flatM_next {l : List Pse} {k : Nat} {e : Pse} (h : l[k]? = some e) : flatM (l.take (k + 1)) = flatM (l.take k) ++ [e.f0, e.t0] := by
  rw [List.take_succ_eq_append_getElem (List.getElem?_eq_some_iff.1 h).1, (List.getElem?_eq_some_iff.1 h).2]
  simp [flatM]
/-- the last end is 0 -/
def lastZ (l : List Pse) : Bool := match l.getLast? with | some p => decide (p.t0 = 0) | none => false
def marksL (op : Bool) (l : List Pse) : List Int := if op && lastZ l then (flatM l).dropLast else flatM l
theorem marks_len (op : Bool) (l : List Pse) : (marksL op l).length ≤ 2 * l.length := by
  unfold marksL; split
  · rw [List.length_dropLast, flatM_len]; omega
  · rw [flatM_len]; omega
theorem flat_last {l : List Pse} {e : Pse} (h : l[l.length - 1]? = some e) (h0 : 0 < l.length) : at0 (flatM l) (2 * l.length - 1) = e.t0 := by
  have h1 := flatM_next h
  rw [show l.length - 1 + 1 = l.length by omega, List.take_length] at h1
  have h2 : (flatM (l.take (l.length - 1))).length = 2 * (l.length - 1) := by rw [flatM_len, List.length_take]; omega
  rw [h1]
  unfold at0
  rw [List.getD_eq_getElem?_getD, List.getElem?_append_right (by omega), h2, show 2 * l.length - 1 - 2 * (l.length - 1) = 1 by omega]
  rfl
theorem lastZ_at {l : List Pse} {e : Pse} (h : l[l.length - 1]? = some e) : lastZ l = decide (e.t0 = 0) := by
  unfold lastZ; rw [List.getLast?_eq_getElem?, h]
theorem row_cut {w : World} {a : Option Addr} {n m : Nat} {f : Nat → Value} (h : Row w a n f) (hm : m ≤ n) : Row w a m f := fun i hi => h i (by omega)
theorem ints_row {w : World} {a : Option Addr} {n : Nat} {l : List Int} (hn : l.length = n) (h : Row w a n fun i => (l.map (Value.int .i64)).getD i undef) : IntRow w a l := by
  subst hn
  intro i hi
  obtain ⟨b, off, ha, hlt, hc⟩ := h i hi
  exact ⟨b, off, ha, hlt, by rw [hc]; simp [at0, List.getD_eq_getElem?_getD, hi]⟩
def MarksPost (w : World) (l : List Int) (o : Ending) (w' : World) : Prop :=
  ∃ (a : Option Addr) (cap : Nat) (y : Since w), o = .returned (.slice a l.length cap) ∧ w' = y.w ∧ IntRow y.w a l
set_option maxRecDepth 100000 in
set_option maxHeartbeats 8000000 in
theorem marks_calls (w : World) (x : Since w) (r : Ride) (h : r.At w) (hp : r.pauses.length ≤ 100000) :
    Calls Try.prog 59 #[.agg #[.int .i64 r.id, .int .i64 r.rd, .int .i64 r.s0, .int .i64 r.s1, .int .i64 r.e0, .int .i64 r.e1, .bool r.op, .slice r.la r.legs.length r.lc, .slice r.pa r.pauses.length r.pc, .int .i64 r.fw, .int .i64 r.fp, .int .i64 r.wh, .int .i64 r.pl]] x.w (MarksPost w (marksL r.op r.pauses)) := by
  have HP := Lib.hid h.p
  clear h
  generalize r.pa = pa at HP ⊢
  generalize r.op = op at ⊢
  go_enter Try.func59, Try.ntmps59
  go_upto_region 1 with fail
  have hb0_0 : ∀ y : Since (x.w.alloc (.cells #[.int .i64 r.id, .int .i64 r.rd, .int .i64 r.s0, .int .i64 r.s1, .int .i64 r.e0, .int .i64 r.e1, .bool op, .slice r.la r.legs.length r.lc, .slice pa r.pauses.length r.pc, .int .i64 r.fw, .int .i64 r.fp, .int .i64 r.wh, .int .i64 r.pl] 27)), y.w.cell? ⟨x.w.heap.size, 0, none⟩ = some (.int .i64 r.id) := fun y => Since.cell (by simp [go_sem]) (by first | (simp; done) | (simp; omega)) y
  have hb0_1 : ∀ y : Since (x.w.alloc (.cells #[.int .i64 r.id, .int .i64 r.rd, .int .i64 r.s0, .int .i64 r.s1, .int .i64 r.e0, .int .i64 r.e1, .bool op, .slice r.la r.legs.length r.lc, .slice pa r.pauses.length r.pc, .int .i64 r.fw, .int .i64 r.fp, .int .i64 r.wh, .int .i64 r.pl] 27)), y.w.cell? ⟨x.w.heap.size, 1, none⟩ = some (.int .i64 r.rd) := fun y => Since.cell (by simp [go_sem]) (by first | (simp; done) | (simp; omega)) y
  have hb0_2 : ∀ y : Since (x.w.alloc (.cells #[.int .i64 r.id, .int .i64 r.rd, .int .i64 r.s0, .int .i64 r.s1, .int .i64 r.e0, .int .i64 r.e1, .bool op, .slice r.la r.legs.length r.lc, .slice pa r.pauses.length r.pc, .int .i64 r.fw, .int .i64 r.fp, .int .i64 r.wh, .int .i64 r.pl] 27)), y.w.cell? ⟨x.w.heap.size, 2, none⟩ = some (.int .i64 r.s0) := fun y => Since.cell (by simp [go_sem]) (by first | (simp; done) | (simp; omega)) y
  have hb0_3 : ∀ y : Since (x.w.alloc (.cells #[.int .i64 r.id, .int .i64 r.rd, .int .i64 r.s0, .int .i64 r.s1, .int .i64 r.e0, .int .i64 r.e1, .bool op, .slice r.la r.legs.length r.lc, .slice pa r.pauses.length r.pc, .int .i64 r.fw, .int .i64 r.fp, .int .i64 r.wh, .int .i64 r.pl] 27)), y.w.cell? ⟨x.w.heap.size, 3, none⟩ = some (.int .i64 r.s1) := fun y => Since.cell (by simp [go_sem]) (by first | (simp; done) | (simp; omega)) y
  have hb0_4 : ∀ y : Since (x.w.alloc (.cells #[.int .i64 r.id, .int .i64 r.rd, .int .i64 r.s0, .int .i64 r.s1, .int .i64 r.e0, .int .i64 r.e1, .bool op, .slice r.la r.legs.length r.lc, .slice pa r.pauses.length r.pc, .int .i64 r.fw, .int .i64 r.fp, .int .i64 r.wh, .int .i64 r.pl] 27)), y.w.cell? ⟨x.w.heap.size, 4, none⟩ = some (.int .i64 r.e0) := fun y => Since.cell (by simp [go_sem]) (by first | (simp; done) | (simp; omega)) y
  have hb0_5 : ∀ y : Since (x.w.alloc (.cells #[.int .i64 r.id, .int .i64 r.rd, .int .i64 r.s0, .int .i64 r.s1, .int .i64 r.e0, .int .i64 r.e1, .bool op, .slice r.la r.legs.length r.lc, .slice pa r.pauses.length r.pc, .int .i64 r.fw, .int .i64 r.fp, .int .i64 r.wh, .int .i64 r.pl] 27)), y.w.cell? ⟨x.w.heap.size, 5, none⟩ = some (.int .i64 r.e1) := fun y => Since.cell (by simp [go_sem]) (by first | (simp; done) | (simp; omega)) y
  have hb0_6 : ∀ y : Since (x.w.alloc (.cells #[.int .i64 r.id, .int .i64 r.rd, .int .i64 r.s0, .int .i64 r.s1, .int .i64 r.e0, .int .i64 r.e1, .bool op, .slice r.la r.legs.length r.lc, .slice pa r.pauses.length r.pc, .int .i64 r.fw, .int .i64 r.fp, .int .i64 r.wh, .int .i64 r.pl] 27)), y.w.cell? ⟨x.w.heap.size, 6, none⟩ = some (.bool op) := fun y => Since.cell (by simp [go_sem]) (by first | (simp; done) | (simp; omega)) y
  have hb0_7 : ∀ y : Since (x.w.alloc (.cells #[.int .i64 r.id, .int .i64 r.rd, .int .i64 r.s0, .int .i64 r.s1, .int .i64 r.e0, .int .i64 r.e1, .bool op, .slice r.la r.legs.length r.lc, .slice pa r.pauses.length r.pc, .int .i64 r.fw, .int .i64 r.fp, .int .i64 r.wh, .int .i64 r.pl] 27)), y.w.cell? ⟨x.w.heap.size, 7, none⟩ = some (.slice r.la r.legs.length r.lc) := fun y => Since.cell (by simp [go_sem]) (by first | (simp; done) | (simp; omega)) y
  have hb0_8 : ∀ y : Since (x.w.alloc (.cells #[.int .i64 r.id, .int .i64 r.rd, .int .i64 r.s0, .int .i64 r.s1, .int .i64 r.e0, .int .i64 r.e1, .bool op, .slice r.la r.legs.length r.lc, .slice pa r.pauses.length r.pc, .int .i64 r.fw, .int .i64 r.fp, .int .i64 r.wh, .int .i64 r.pl] 27)), y.w.cell? ⟨x.w.heap.size, 8, none⟩ = some (.slice pa r.pauses.length r.pc) := fun y => Since.cell (by simp [go_sem]) (by first | (simp; done) | (simp; omega)) y
  have hb0_9 : ∀ y : Since (x.w.alloc (.cells #[.int .i64 r.id, .int .i64 r.rd, .int .i64 r.s0, .int .i64 r.s1, .int .i64 r.e0, .int .i64 r.e1, .bool op, .slice r.la r.legs.length r.lc, .slice pa r.pauses.length r.pc, .int .i64 r.fw, .int .i64 r.fp, .int .i64 r.wh, .int .i64 r.pl] 27)), y.w.cell? ⟨x.w.heap.size, 9, none⟩ = some (.int .i64 r.fw) := fun y => Since.cell (by simp [go_sem]) (by first | (simp; done) | (simp; omega)) y
  have hb0_10 : ∀ y : Since (x.w.alloc (.cells #[.int .i64 r.id, .int .i64 r.rd, .int .i64 r.s0, .int .i64 r.s1, .int .i64 r.e0, .int .i64 r.e1, .bool op, .slice r.la r.legs.length r.lc, .slice pa r.pauses.length r.pc, .int .i64 r.fw, .int .i64 r.fp, .int .i64 r.wh, .int .i64 r.pl] 27)), y.w.cell? ⟨x.w.heap.size, 10, none⟩ = some (.int .i64 r.fp) := fun y => Since.cell (by simp [go_sem]) (by first | (simp; done) | (simp; omega)) y
  have hb0_11 : ∀ y : Since (x.w.alloc (.cells #[.int .i64 r.id, .int .i64 r.rd, .int .i64 r.s0, .int .i64 r.s1, .int .i64 r.e0, .int .i64 r.e1, .bool op, .slice r.la r.legs.length r.lc, .slice pa r.pauses.length r.pc, .int .i64 r.fw, .int .i64 r.fp, .int .i64 r.wh, .int .i64 r.pl] 27)), y.w.cell? ⟨x.w.heap.size, 11, none⟩ = some (.int .i64 r.wh) := fun y => Since.cell (by simp [go_sem]) (by first | (simp; done) | (simp; omega)) y
  have hb0_12 : ∀ y : Since (x.w.alloc (.cells #[.int .i64 r.id, .int .i64 r.rd, .int .i64 r.s0, .int .i64 r.s1, .int .i64 r.e0, .int .i64 r.e1, .bool op, .slice r.la r.legs.length r.lc, .slice pa r.pauses.length r.pc, .int .i64 r.fw, .int .i64 r.fp, .int .i64 r.wh, .int .i64 r.pl] 27)), y.w.cell? ⟨x.w.heap.size, 12, none⟩ = some (.int .i64 r.pl) := fun y => Since.cell (by simp [go_sem]) (by first | (simp; done) | (simp; omega)) y
  have hf0 : ∀ (y : Since (x.w.alloc (.cells #[.int .i64 r.id, .int .i64 r.rd, .int .i64 r.s0, .int .i64 r.s1, .int .i64 r.e0, .int .i64 r.e1, .bool op, .slice r.la r.legs.length r.lc, .slice pa r.pauses.length r.pc, .int .i64 r.fw, .int .i64 r.fp, .int .i64 r.wh, .int .i64 r.pl] 27))) (o : Nat), y.w.frozen? ⟨x.w.heap.size, o, none⟩ = false := fun y o => Since.free (by simp [go_sem]) (by first | (simp; done) | (simp; omega)) y
  have hWup : ∃ z : Since w, (x.w.alloc (.cells #[.int .i64 r.id, .int .i64 r.rd, .int .i64 r.s0, .int .i64 r.s1, .int .i64 r.e0, .int .i64 r.e1, .bool op, .slice r.la r.legs.length r.lc, .slice pa r.pauses.length r.pc, .int .i64 r.fw, .int .i64 r.fp, .int .i64 r.wh, .int .i64 r.pl] 27)) = z.w := x.alloc _
  obtain ⟨y0, hy0⟩ := Since.refl (x.w.alloc (.cells #[.int .i64 r.id, .int .i64 r.rd, .int .i64 r.s0, .int .i64 r.s1, .int .i64 r.e0, .int .i64 r.e1, .bool op, .slice r.la r.legs.length r.lc, .slice pa r.pauses.length r.pc, .int .i64 r.fw, .int .i64 r.fp, .int .i64 r.wh, .int .i64 r.pl] 27))
  have Hbx := Lib.hid (And.intro x.b.size (show x.w.heap.size + 1 = (x.w.alloc (.cells #[.int .i64 r.id, .int .i64 r.rd, .int .i64 r.s0, .int .i64 r.s1, .int .i64 r.e0, .int .i64 r.e1, .bool op, .slice r.la r.legs.length r.lc, .slice pa r.pauses.length r.pc, .int .i64 r.fw, .int .i64 r.fp, .int .i64 r.wh, .int .i64 r.pl] 27)).heap.size from by simp))
  generalize hW : (x.w.alloc (.cells #[.int .i64 r.id, .int .i64 r.rd, .int .i64 r.s0, .int .i64 r.s1, .int .i64 r.e0, .int .i64 r.e1, .bool op, .slice r.la r.legs.length r.lc, .slice pa r.pauses.length r.pc, .int .i64 r.fw, .int .i64 r.fp, .int .i64 r.wh, .int .i64 r.pl] 27)) = W at *
  clear hW
  generalize x.w.heap.size = bx at *
  have Hup := Lib.hid (Since.up hWup)
  rw [hy0]
  clear hy0
  replace HP := Lib.hid (HP.out.to hWup)
  clear hWup
  go_wp2_with fail
  go_loopw [3, 4] (fun s i wr => ∃ (k : Nat) (y : Since W) (v : Value), k ≤ r.pauses.length ∧ i = .int .i64 k ∧ v = s ∧ wr = y.w ∧ y.w.ownsRow W.heap.size 3 1 v (2 * k) ((flatM (r.pauses.take k)).map (Value.int .i64))) (fun _ i _ => r.pauses.length - (intOf i).toNat)
  case atStart => exact ⟨0, _, _, by omega, rfl, rfl, rfl, ⟨rfl, .inl ⟨rfl, rfl⟩⟩⟩
  case round =>
    obtain ⟨k, y, v, hk, rfl, rfl, rfl, hown⟩ := hrel
    have Hown := Lib.hid hown; clear hown
    by_cases hlt : k < r.pauses.length
    · obtain ⟨e, he⟩ : ∃ e, r.pauses[k]? = some e := ⟨_, List.getElem?_eq_getElem hlt⟩
      obtain ⟨b1, off1, rfl, h1'⟩ := Els.pse HP.out he
      have pb0 := h1'.c0
      have pb1 := h1'.c1
      have pb2 := h1'.c2
      have pb3 := h1'.c3
      have Hnext := Lib.hid (flatM_next he)
      have hk0 : (0 : Int) ≤ (k : Int) := by omega
      have hkl : (k : Int) < (r.pauses.length : Int) := by omega
      clear h1' he
      replace hb0_0 := Since.cellTo ⟨y, rfl⟩ hb0_0
      replace hb0_1 := Since.cellTo ⟨y, rfl⟩ hb0_1
      replace hb0_2 := Since.cellTo ⟨y, rfl⟩ hb0_2
      replace hb0_3 := Since.cellTo ⟨y, rfl⟩ hb0_3
      replace hb0_4 := Since.cellTo ⟨y, rfl⟩ hb0_4
      replace hb0_5 := Since.cellTo ⟨y, rfl⟩ hb0_5
      replace hb0_6 := Since.cellTo ⟨y, rfl⟩ hb0_6
      replace hb0_7 := Since.cellTo ⟨y, rfl⟩ hb0_7
      replace hb0_8 := Since.cellTo ⟨y, rfl⟩ hb0_8
      replace hb0_9 := Since.cellTo ⟨y, rfl⟩ hb0_9
      replace hb0_10 := Since.cellTo ⟨y, rfl⟩ hb0_10
      replace hb0_11 := Since.cellTo ⟨y, rfl⟩ hb0_11
      replace hb0_12 := Since.cellTo ⟨y, rfl⟩ hb0_12
      replace pb0 := Since.cellTo ⟨y, rfl⟩ pb0
      replace pb2 := Since.cellTo ⟨y, rfl⟩ pb2
      clear pb1 pb3
      obtain ⟨q0, hq0⟩ := Since.refl y.w
      rw [hq0]
      clear hq0
      go_upto_region 5 with fail
      refine wp_region_tail (fun w' => ∃ q : Since (y.w), w' = q.w) [0] [1, 2, 3, 4, 5, 6, 7, 8, 9, 10, 11, 12, 13, 14] 15 (by kernel_rfl) (by kernel_rfl) (fun _ _ _ _ _ h => h) (q0.drew) ?_
      simp only [List.cons_append, List.nil_append, picks_cons, picks_nil, List.getD_cons_zero, List.getD_cons_succ]
      repeat (go_big_quiet_step (fail))
      refine wpQuiet_nil ?_
      rintro _ ⟨q, rfl⟩
      simp only [List.drop_succ_cons, List.drop_zero]
      have hown1 := own_since (own_since Hown.out q.b) (below_new q.w (.cells #[.int .i64 e.f0, .int .i64 e.t0] 3))
      have Hown1 := Lib.hid hown1; clear hown1
      go_wp2_with (at_builtin; go_loud (refine wpList_appendK (k := 1) (w0 := W) ?hw rfl _ _ 73 rfl W.heap.size (Nat.le_refl _) ?hb 3 (.int .i64 0) 8 sInts v (2 * k) ((flatM (r.pauses.take k)).map (Value.int .i64)) rfl Hown1.out ⟨q.w.heap.size, 0, none⟩ 2 2 [.int .i64 e.f0, .int .i64 e.t0] rfl rfl ?hc ?h1 ?h63 ?hbytes ?_; rotate_right 1; intro v2 q2 hown2 _ hg2))
      case hw => obtain ⟨z, e⟩ := y.trans q; rw [e]; exact z.alloc _
      case hb => have := y.b.size; have := q.b.size; simp; omega
      case hc => exact fun j u hu => cell_new_at q.w [.int .i64 e.f0, .int .i64 e.t0] _ j u hu
      case h1 => intro u hu; simp at hu; rcases hu with rfl | rfl <;> rfl
      case h63 => unfold maxLen; omega
      case hbytes => omega
      have Hown2 := Lib.hid hown2; clear hown2 hg2
      go_roundw
      case rel => exact ⟨k + 1, q2, v2, by omega, by go_num, rfl, rfl, by rw [Hnext.out, List.map_append]; exact Hown2.out⟩
      case measure => simp [intOf] <;> omega
    · obtain rfl : k = r.pauses.length := by omega
      rw [List.take_length] at Hown
      obtain ⟨a, cap, rfl, hcap, hrow, -⟩ := own_row Hown.out
      have Hrow := Lib.hid (ints_row (flatM_len r.pauses) hrow)
      have hfl := flatM_len r.pauses
      clear Hown hrow
      have Hpost := Lib.hid (fun (l : List Int) (n : Nat) (z : Since W) (h1 : l.length = n) (h2 : IntRow z.w a l) (h3 : marksL op r.pauses = l) => show MarksPost w (marksL op r.pauses) (.returned (.slice a n cap)) z.w by
        obtain ⟨z', e⟩ := Hup.out z
        subst h1
        exact ⟨a, cap, z', by rw [h3], e, by rw [h3, ← e]; exact h2⟩)
      have hml : marksL op r.pauses = if op && lastZ r.pauses then (flatM r.pauses).dropLast else flatM r.pauses := rfl
      have Hml := Lib.hid hml; clear hml
      generalize hn : 2 * r.pauses.length = n at *
      have Hn := Lib.hid hn
      have Hfl := Lib.hid hfl
      obtain ⟨q0, hq0⟩ := Since.refl y.w
      rw [hq0]
      replace hq0 := Lib.hid hq0
      replace hb0_0 := Since.cellTo ⟨y, rfl⟩ hb0_0
      replace hb0_1 := Since.cellTo ⟨y, rfl⟩ hb0_1
      replace hb0_2 := Since.cellTo ⟨y, rfl⟩ hb0_2
      replace hb0_3 := Since.cellTo ⟨y, rfl⟩ hb0_3
      replace hb0_4 := Since.cellTo ⟨y, rfl⟩ hb0_4
      replace hb0_5 := Since.cellTo ⟨y, rfl⟩ hb0_5
      replace hb0_6 := Since.cellTo ⟨y, rfl⟩ hb0_6
      replace hb0_7 := Since.cellTo ⟨y, rfl⟩ hb0_7
      replace hb0_8 := Since.cellTo ⟨y, rfl⟩ hb0_8
      replace hb0_9 := Since.cellTo ⟨y, rfl⟩ hb0_9
      replace hb0_10 := Since.cellTo ⟨y, rfl⟩ hb0_10
      replace hb0_11 := Since.cellTo ⟨y, rfl⟩ hb0_11
      replace hb0_12 := Since.cellTo ⟨y, rfl⟩ hb0_12
      rcases (by omega : n ≤ 0 ∨ 0 < n) with h0 | h0
      · have Hr := Lib.hid (Hpost.out (flatM r.pauses) n y hfl Hrow.out (by
          rw [Hml.out]
          have : r.pauses = [] := List.eq_nil_of_length_eq_zero (by omega)
          rw [this]; simp [flatM]))
        clear hn hfl
        go_wp2_with fail
        go_ret
        rw [← hq0.out]
        exact Hr.out
      · obtain ⟨e, he⟩ : ∃ e, r.pauses[r.pauses.length - 1]? = some e := ⟨_, List.getElem?_eq_getElem (by omega)⟩
        have hlz := lastZ_at he
        have hla := flat_last he (by omega)
        rw [hn] at hla
        obtain ⟨b, off, rfl, hlt2, hcl⟩ := Hrow.out (n - 1) (by omega)
        replace hcl : y.w.cell? ⟨b, off + (n - 1), none⟩ = some (.int .i64 e.t0) := by rw [hcl]; show some (Value.int .i64 (at0 _ _)) = _; rw [hla]
        have kc : ∀ q : Since y.w, q.w.cell? ⟨b, off + (n - 1), none⟩ = some (.int .i64 e.t0) := fun q => Since.cell hcl hlt2 q
        have hm1 : (0 : Int) < (n : Int) := by omega
        have hmm : (n : Int) - 1 = ((n - 1 : Nat) : Int) := by omega
        have hmr : (0 : Int) ≤ ((n - 1 : Nat) : Int) := by omega
        have hml : ((n - 1 : Nat) : Int) < (n : Int) := by omega
        have hn5 : n ≤ 200000 := by omega
        have Hlz := Lib.hid hlz
        have Hr1 := Lib.hid (fun h => Hpost.out (flatM r.pauses) n y hfl Hrow.out h)
        have Hr2 := Lib.hid (fun h => Hpost.out (flatM r.pauses).dropLast (n - 1) y (by rw [List.length_dropLast, hfl]) (by
          have hd : (flatM r.pauses).dropLast = (flatM r.pauses).take (n - 1) := by rw [List.dropLast_eq_take, hfl]
          rw [hd]
          intro i hi
          rw [List.length_take] at hi
          obtain ⟨b, off, ha, hb, hc⟩ := Hrow.out i (by omega)
          refine ⟨b, off, ha, hb, ?_⟩
          rw [hc]
          show some (Value.int .i64 (at0 _ i)) = some (.int .i64 (at0 _ i))
          unfold at0
          rw [List.getD_eq_getElem?_getD, List.getD_eq_getElem?_getD, List.getElem?_take, if_pos (by omega)]) h)
        clear he hlz hla hlt2 hcl hn hfl Hpost
        by_cases hc : op = true ∧ e.t0 = 0
        · obtain ⟨rfl, ht⟩ := hc
          have htb : (e.t0 == 0) = true := by simpa using ht
          have Hr := Lib.hid (Hr2.out (by rw [Hml.out, Hlz.out, decide_eq_true ht]; rfl))
          clear ht Hr1 Hr2
          go_wp2_with fail
          go_ret
          rw [← hq0.out]
          exact Hr.out
        · have Hr := Lib.hid (Hr1.out (by
            rw [Hml.out, Hlz.out]
            cases op
            · rfl
            · rw [decide_eq_false (fun h => hc ⟨rfl, h⟩)]; rfl))
          clear Hr1 Hr2
          have hcase : op = false ∨ (op = true ∧ (e.t0 == 0) = false) := by
            cases op
            · exact .inl rfl
            · exact .inr ⟨rfl, by simp; intro h; exact hc ⟨rfl, h⟩⟩
          clear hc
          rcases hcase with rfl | ⟨rfl, htb⟩
          all_goals
            go_wp2_with fail
            go_ret
            rw [← hq0.out]
            exact Hr.out
end Go.Proofs.Ytefodfpnedcodaa
/- The walks of the reference's check of a ride, fourth part: the ends are in order. -/
namespace Go.Proofs.Ytefodfpnedcodaa
open Go.RowKit

/-- mark i is in order -/
def markB (op : Bool) (s0 e0 : Int) (l : List Int) (i : Nat) : Bool :=
  (if i = 0 then decide (s0 ≤ at0 l 0) else decide (at0 l (i - 1) ≤ at0 l i)) && (op || decide (at0 l i ≤ e0))
def monoL (op : Bool) (e : Int) : Int → List Int → Bool
  | _, [] => true
  | last, x :: l => decide (last ≤ x) && (op || decide (x ≤ e)) && monoL op e x l
theorem monoL_all (op : Bool) (e : Int) : ∀ (l : List Int) (a : Int), monoL op e a l = true ↔ ∀ i, i < l.length → markB op a e l i = true
  | [], a => by simp [monoL]
  | x :: l, a => by
    rw [monoL, Bool.and_eq_true, monoL_all op e l x]
    constructor
    · rintro ⟨h1, h2⟩ i hi
      cases i with
      | zero => unfold markB; simpa [at0] using h1
      | succ i =>
        have := h2 i (by simpa using hi)
        unfold markB at this ⊢
        cases i with
        | zero => simpa [at0] using this
        | succ i => simpa [at0] using this
    · intro h
      refine ⟨by have := h 0 (by simp); unfold markB at this; simpa [at0] using this, fun i hi => ?_⟩
      have := h (i + 1) (by simpa using hi)
      unfold markB at this ⊢
      cases i with
      | zero => simpa [at0] using this
      | succ i => simpa [at0] using this
theorem marks_cons {op : Bool} {p q : Pse} {l : List Pse} : marksL op (p :: q :: l) = p.f0 :: p.t0 :: marksL op (q :: l) := by
  unfold marksL
  have h1 : lastZ (p :: q :: l) = lastZ (q :: l) := by unfold lastZ; rw [List.getLast?_cons_cons]
  rw [h1]
  split
  · have : (flatM (q :: l)) ≠ [] := by simp [flatM]
    show (p.f0 :: p.t0 :: flatM (q :: l)).dropLast = _
    rw [List.dropLast_cons_of_ne_nil (by simp), List.dropLast_cons_of_ne_nil this]
  · rfl
theorem marks_one (op : Bool) (p : Pse) : marksL op [p] = if op && decide (p.t0 = 0) then [p.f0] else [p.f0, p.t0] := by
  unfold marksL lastZ
  simp [flatM]
theorem pses_last : ∀ (l : List Pse) (a e : Int), psesO false e a l = true → a ≤ e
  | [], a, e, h => by simpa [psesO] using h
  | p :: l, a, e, h => by
    simp only [psesO, Bool.false_and, Bool.false_or, Bool.and_eq_true, decide_eq_true_eq] at h
    have := pses_last l p.t0 e h.2.2
    omega
/-- the two ways to say that the pauses are in order -/
theorem mono_pses (op : Bool) (e : Int) : ∀ (l : List Pse) (a : Int), l ≠ [] → monoL op e a (marksL op l) = psesO op e a l
  | [], _, h => (h rfl).elim
  | [p], a, _ => by
    rw [marks_one]
    cases op
    · simp only [Bool.false_and, Bool.false_eq_true, if_false, monoL, psesO, Bool.false_or, Bool.and_true]
      rw [Bool.eq_iff_iff]
      simp only [Bool.and_eq_true, decide_eq_true_eq]
      omega
    · by_cases h : p.t0 = 0
      · simp [monoL, psesO, h]
      · simp [monoL, psesO, h]
  | p :: q :: l, a, _ => by
    rw [marks_cons]
    have ih := mono_pses op e (q :: l) p.t0 (by simp)
    show (decide (a ≤ p.f0) && (op || decide (p.f0 ≤ e)) && (decide (p.f0 ≤ p.t0) && (op || decide (p.t0 ≤ e)) && monoL op e p.t0 (marksL op (q :: l)))) = (decide (a ≤ p.f0) && ((op && (q :: l).isEmpty && decide (p.t0 = 0)) || (decide (p.f0 ≤ p.t0) && psesO op e p.t0 (q :: l))))
    rw [ih]
    cases op
    · rw [Bool.eq_iff_iff]
      simp only [Bool.false_and, Bool.false_or, Bool.and_eq_true, decide_eq_true_eq]
      constructor
      · rintro ⟨⟨h1, h2⟩, ⟨h3, h4⟩, h5⟩; exact ⟨h1, h3, h5⟩
      · rintro ⟨h1, h3, h5⟩
        have := pses_last _ _ _ h5
        exact ⟨⟨h1, by omega⟩, ⟨h3, by omega⟩, h5⟩
    · simp
theorem marks_empty (op : Bool) : marksL op [] = [] := by unfold marksL; split <;> rfl
theorem ordered_iff (r : Ride) : orderedB r = true ↔ legsO r.op r.legs = true ∧ ∀ i, i < (marksL r.op r.pauses).length → markB r.op r.s0 r.e0 (marksL r.op r.pauses) i = true := by
  unfold orderedB
  rw [Bool.and_eq_true, ← monoL_all]
  cases h : r.pauses with
  | nil => simp [marks_empty, monoL]
  | cons p l => rw [mono_pses _ _ _ _ (by simp)]; simp
/-- the end of leg i is in order -/
def legB (op : Bool) (l : List Leg) (i : Nat) : Bool := match l[i]? with | some x => decide (x.f0 ≤ x.t0) || (op && decide (i + 1 = l.length)) | none => true
theorem legsO_all (op : Bool) : ∀ l : List Leg, legsO op l = true ↔ ∀ i, i < l.length → legB op l i = true
  | [] => by simp [legsO]
  | x :: l => by
    rw [legsO, Bool.and_eq_true, legsO_all op l]
    have he : l.isEmpty = decide (0 + 1 = (x :: l).length) := by rw [Bool.eq_iff_iff]; simp
    constructor
    · rintro ⟨h1, h2⟩ i hi
      cases i with
      | zero => unfold legB; rw [he] at h1; simpa using h1
      | succ i => have := h2 i (by simpa using hi); unfold legB at this ⊢; simpa using this
    · intro h
      refine ⟨by have := h 0 (by simp); unfold legB at this; rw [he]; simpa using this, fun i hi => ?_⟩
      have := h (i + 1) (by simpa using hi)
      unfold legB at this ⊢; simpa using this
end Go.Proofs.Ytefodfpnedcodaa
/- The walks of the reference's check of a ride, fifth part: the ends are in order (the walk). -/
namespace Go.Proofs.Ytefodfpnedcodaa
open Go.RowKit

set_option maxRecDepth 100000 in
set_option maxHeartbeats 8000000 in
theorem rordered_calls (w : World) (x : Since w) (r : Ride) (h : r.At w) (hp : r.pauses.length ≤ 100000) :
    Calls Try.prog 51 #[.agg #[.int .i64 r.id, .int .i64 r.rd, .int .i64 r.s0, .int .i64 r.s1, .int .i64 r.e0, .int .i64 r.e1, .bool r.op, .slice r.la r.legs.length r.lc, .slice r.pa r.pauses.length r.pc, .int .i64 r.fw, .int .i64 r.fp, .int .i64 r.wh, .int .i64 r.pl]] x.w fun o w' => o = .returned (.bool (orderedB r)) ∧ ∃ y : Since w, w' = y.w := by
  have HL := Lib.hid h.l
  have hlm := h.lm
  have hpm := h.pm
  have HA := Lib.hid h
  have HO := Lib.hid (ordered_iff r)
  have HG := Lib.hid (legsO_all r.op r.legs)
  have hmlen := marks_len r.op r.pauses
  have Hmk := Lib.hid (fun (W : World) (h : r.At W) (y : Since W) => marks_calls W y r h hp)
  clear h
  generalize marksL r.op r.pauses = M at *
  unfold MarksPost at Hmk
  generalize r.la = la at HL Hmk ⊢
  generalize r.op = op at HO HG Hmk ⊢
  go_enter Try.func51, Try.ntmps51
  go_upto_region 1 with fail
  have hb0_0 : ∀ y : Since (x.w.alloc (.cells #[.int .i64 r.id, .int .i64 r.rd, .int .i64 r.s0, .int .i64 r.s1, .int .i64 r.e0, .int .i64 r.e1, .bool op, .slice la r.legs.length r.lc, .slice r.pa r.pauses.length r.pc, .int .i64 r.fw, .int .i64 r.fp, .int .i64 r.wh, .int .i64 r.pl] 27)), y.w.cell? ⟨x.w.heap.size, 0, none⟩ = some (.int .i64 r.id) := fun y => Since.cell (by simp [go_sem]) (by first | (simp; done) | (simp; omega)) y
  have hb0_1 : ∀ y : Since (x.w.alloc (.cells #[.int .i64 r.id, .int .i64 r.rd, .int .i64 r.s0, .int .i64 r.s1, .int .i64 r.e0, .int .i64 r.e1, .bool op, .slice la r.legs.length r.lc, .slice r.pa r.pauses.length r.pc, .int .i64 r.fw, .int .i64 r.fp, .int .i64 r.wh, .int .i64 r.pl] 27)), y.w.cell? ⟨x.w.heap.size, 1, none⟩ = some (.int .i64 r.rd) := fun y => Since.cell (by simp [go_sem]) (by first | (simp; done) | (simp; omega)) y
  have hb0_2 : ∀ y : Since (x.w.alloc (.cells #[.int .i64 r.id, .int .i64 r.rd, .int .i64 r.s0, .int .i64 r.s1, .int .i64 r.e0, .int .i64 r.e1, .bool op, .slice la r.legs.length r.lc, .slice r.pa r.pauses.length r.pc, .int .i64 r.fw, .int .i64 r.fp, .int .i64 r.wh, .int .i64 r.pl] 27)), y.w.cell? ⟨x.w.heap.size, 2, none⟩ = some (.int .i64 r.s0) := fun y => Since.cell (by simp [go_sem]) (by first | (simp; done) | (simp; omega)) y
  have hb0_3 : ∀ y : Since (x.w.alloc (.cells #[.int .i64 r.id, .int .i64 r.rd, .int .i64 r.s0, .int .i64 r.s1, .int .i64 r.e0, .int .i64 r.e1, .bool op, .slice la r.legs.length r.lc, .slice r.pa r.pauses.length r.pc, .int .i64 r.fw, .int .i64 r.fp, .int .i64 r.wh, .int .i64 r.pl] 27)), y.w.cell? ⟨x.w.heap.size, 3, none⟩ = some (.int .i64 r.s1) := fun y => Since.cell (by simp [go_sem]) (by first | (simp; done) | (simp; omega)) y
  have hb0_4 : ∀ y : Since (x.w.alloc (.cells #[.int .i64 r.id, .int .i64 r.rd, .int .i64 r.s0, .int .i64 r.s1, .int .i64 r.e0, .int .i64 r.e1, .bool op, .slice la r.legs.length r.lc, .slice r.pa r.pauses.length r.pc, .int .i64 r.fw, .int .i64 r.fp, .int .i64 r.wh, .int .i64 r.pl] 27)), y.w.cell? ⟨x.w.heap.size, 4, none⟩ = some (.int .i64 r.e0) := fun y => Since.cell (by simp [go_sem]) (by first | (simp; done) | (simp; omega)) y
  have hb0_5 : ∀ y : Since (x.w.alloc (.cells #[.int .i64 r.id, .int .i64 r.rd, .int .i64 r.s0, .int .i64 r.s1, .int .i64 r.e0, .int .i64 r.e1, .bool op, .slice la r.legs.length r.lc, .slice r.pa r.pauses.length r.pc, .int .i64 r.fw, .int .i64 r.fp, .int .i64 r.wh, .int .i64 r.pl] 27)), y.w.cell? ⟨x.w.heap.size, 5, none⟩ = some (.int .i64 r.e1) := fun y => Since.cell (by simp [go_sem]) (by first | (simp; done) | (simp; omega)) y
  have hb0_6 : ∀ y : Since (x.w.alloc (.cells #[.int .i64 r.id, .int .i64 r.rd, .int .i64 r.s0, .int .i64 r.s1, .int .i64 r.e0, .int .i64 r.e1, .bool op, .slice la r.legs.length r.lc, .slice r.pa r.pauses.length r.pc, .int .i64 r.fw, .int .i64 r.fp, .int .i64 r.wh, .int .i64 r.pl] 27)), y.w.cell? ⟨x.w.heap.size, 6, none⟩ = some (.bool op) := fun y => Since.cell (by simp [go_sem]) (by first | (simp; done) | (simp; omega)) y
  have hb0_7 : ∀ y : Since (x.w.alloc (.cells #[.int .i64 r.id, .int .i64 r.rd, .int .i64 r.s0, .int .i64 r.s1, .int .i64 r.e0, .int .i64 r.e1, .bool op, .slice la r.legs.length r.lc, .slice r.pa r.pauses.length r.pc, .int .i64 r.fw, .int .i64 r.fp, .int .i64 r.wh, .int .i64 r.pl] 27)), y.w.cell? ⟨x.w.heap.size, 7, none⟩ = some (.slice la r.legs.length r.lc) := fun y => Since.cell (by simp [go_sem]) (by first | (simp; done) | (simp; omega)) y
  have hb0_8 : ∀ y : Since (x.w.alloc (.cells #[.int .i64 r.id, .int .i64 r.rd, .int .i64 r.s0, .int .i64 r.s1, .int .i64 r.e0, .int .i64 r.e1, .bool op, .slice la r.legs.length r.lc, .slice r.pa r.pauses.length r.pc, .int .i64 r.fw, .int .i64 r.fp, .int .i64 r.wh, .int .i64 r.pl] 27)), y.w.cell? ⟨x.w.heap.size, 8, none⟩ = some (.slice r.pa r.pauses.length r.pc) := fun y => Since.cell (by simp [go_sem]) (by first | (simp; done) | (simp; omega)) y
  have hb0_9 : ∀ y : Since (x.w.alloc (.cells #[.int .i64 r.id, .int .i64 r.rd, .int .i64 r.s0, .int .i64 r.s1, .int .i64 r.e0, .int .i64 r.e1, .bool op, .slice la r.legs.length r.lc, .slice r.pa r.pauses.length r.pc, .int .i64 r.fw, .int .i64 r.fp, .int .i64 r.wh, .int .i64 r.pl] 27)), y.w.cell? ⟨x.w.heap.size, 9, none⟩ = some (.int .i64 r.fw) := fun y => Since.cell (by simp [go_sem]) (by first | (simp; done) | (simp; omega)) y
  have hb0_10 : ∀ y : Since (x.w.alloc (.cells #[.int .i64 r.id, .int .i64 r.rd, .int .i64 r.s0, .int .i64 r.s1, .int .i64 r.e0, .int .i64 r.e1, .bool op, .slice la r.legs.length r.lc, .slice r.pa r.pauses.length r.pc, .int .i64 r.fw, .int .i64 r.fp, .int .i64 r.wh, .int .i64 r.pl] 27)), y.w.cell? ⟨x.w.heap.size, 10, none⟩ = some (.int .i64 r.fp) := fun y => Since.cell (by simp [go_sem]) (by first | (simp; done) | (simp; omega)) y
  have hb0_11 : ∀ y : Since (x.w.alloc (.cells #[.int .i64 r.id, .int .i64 r.rd, .int .i64 r.s0, .int .i64 r.s1, .int .i64 r.e0, .int .i64 r.e1, .bool op, .slice la r.legs.length r.lc, .slice r.pa r.pauses.length r.pc, .int .i64 r.fw, .int .i64 r.fp, .int .i64 r.wh, .int .i64 r.pl] 27)), y.w.cell? ⟨x.w.heap.size, 11, none⟩ = some (.int .i64 r.wh) := fun y => Since.cell (by simp [go_sem]) (by first | (simp; done) | (simp; omega)) y
  have hb0_12 : ∀ y : Since (x.w.alloc (.cells #[.int .i64 r.id, .int .i64 r.rd, .int .i64 r.s0, .int .i64 r.s1, .int .i64 r.e0, .int .i64 r.e1, .bool op, .slice la r.legs.length r.lc, .slice r.pa r.pauses.length r.pc, .int .i64 r.fw, .int .i64 r.fp, .int .i64 r.wh, .int .i64 r.pl] 27)), y.w.cell? ⟨x.w.heap.size, 12, none⟩ = some (.int .i64 r.pl) := fun y => Since.cell (by simp [go_sem]) (by first | (simp; done) | (simp; omega)) y
  have hf0 : ∀ (y : Since (x.w.alloc (.cells #[.int .i64 r.id, .int .i64 r.rd, .int .i64 r.s0, .int .i64 r.s1, .int .i64 r.e0, .int .i64 r.e1, .bool op, .slice la r.legs.length r.lc, .slice r.pa r.pauses.length r.pc, .int .i64 r.fw, .int .i64 r.fp, .int .i64 r.wh, .int .i64 r.pl] 27))) (o : Nat), y.w.frozen? ⟨x.w.heap.size, o, none⟩ = false := fun y o => Since.free (by simp [go_sem]) (by first | (simp; done) | (simp; omega)) y
  have hWup : ∃ z : Since w, (x.w.alloc (.cells #[.int .i64 r.id, .int .i64 r.rd, .int .i64 r.s0, .int .i64 r.s1, .int .i64 r.e0, .int .i64 r.e1, .bool op, .slice la r.legs.length r.lc, .slice r.pa r.pauses.length r.pc, .int .i64 r.fw, .int .i64 r.fp, .int .i64 r.wh, .int .i64 r.pl] 27)) = z.w := x.alloc _
  obtain ⟨y0, hy0⟩ := Since.refl (x.w.alloc (.cells #[.int .i64 r.id, .int .i64 r.rd, .int .i64 r.s0, .int .i64 r.s1, .int .i64 r.e0, .int .i64 r.e1, .bool op, .slice la r.legs.length r.lc, .slice r.pa r.pauses.length r.pc, .int .i64 r.fw, .int .i64 r.fp, .int .i64 r.wh, .int .i64 r.pl] 27))
  have Hbx := Lib.hid (And.intro x.b.size (show x.w.heap.size + 1 = (x.w.alloc (.cells #[.int .i64 r.id, .int .i64 r.rd, .int .i64 r.s0, .int .i64 r.s1, .int .i64 r.e0, .int .i64 r.e1, .bool op, .slice la r.legs.length r.lc, .slice r.pa r.pauses.length r.pc, .int .i64 r.fw, .int .i64 r.fp, .int .i64 r.wh, .int .i64 r.pl] 27)).heap.size from by simp))
  generalize hW : (x.w.alloc (.cells #[.int .i64 r.id, .int .i64 r.rd, .int .i64 r.s0, .int .i64 r.s1, .int .i64 r.e0, .int .i64 r.e1, .bool op, .slice la r.legs.length r.lc, .slice r.pa r.pauses.length r.pc, .int .i64 r.fw, .int .i64 r.fp, .int .i64 r.wh, .int .i64 r.pl] 27)) = W at *
  clear hW
  generalize x.w.heap.size = bx at *
  have Hup := Lib.hid (Since.up hWup)
  rw [hy0]
  clear hy0
  replace HL := Lib.hid (HL.out.to hWup); replace HA := Lib.hid (HA.out.to hWup)
  replace Hmk := Lib.hid (Hmk.out W HA.out)
  clear hWup
  go_wp2_with fail
  go_loopw [3] (fun i wr => ∃ (k : Nat) (y : Since W), k ≤ r.legs.length ∧ i = .int .i64 k ∧ wr = y.w ∧ ∀ i, i < k → legB op r.legs i = true) (fun i _ => r.legs.length - (intOf i).toNat)
  case atStart => exact ⟨0, _, by omega, rfl, rfl, fun i hi => by omega⟩
  case round =>
    obtain ⟨k, y, hk, rfl, rfl, hok⟩ := hrel
    have Hok := Lib.hid hok; clear hok
    by_cases hlt : k < r.legs.length
    · obtain ⟨e, he⟩ : ∃ e, r.legs[k]? = some e := ⟨_, List.getElem?_eq_getElem hlt⟩
      obtain ⟨b1, off1, rfl, h1'⟩ := Els.leg HL.out he
      have pa0 := h1'.c0
      have pa1 := h1'.c1
      have pa2 := h1'.c2
      have pa3 := h1'.c3
      have pa4 := h1'.c4
      have Hlb := Lib.hid (show legB op r.legs k = (decide (e.f0 ≤ e.t0) || (op && decide (k + 1 = r.legs.length))) by unfold legB; rw [he])
      have hk0 : (0 : Int) ≤ (k : Int) := by omega
      have hkl : (k : Int) < (r.legs.length : Int) := by omega
      clear h1' he
      have hcase : (((k : Int) == (r.legs.length : Int) - 1) = true ∧ op = true ∧ legB op r.legs k = true) ∨ (((k : Int) == (r.legs.length : Int) - 1) = true ∧ op = false ∧ legB op r.legs k = decide (e.f0 ≤ e.t0)) ∨ (((k : Int) == (r.legs.length : Int) - 1) = false ∧ legB op r.legs k = decide (e.f0 ≤ e.t0)) := by
        by_cases h1 : k + 1 = r.legs.length
        · cases op
          · exact .inr (.inl ⟨by simp; omega, rfl, by rw [Hlb.out]; simp⟩)
          · exact .inl ⟨by simp; omega, rfl, by rw [Hlb.out, decide_eq_true h1]; simp⟩
        · exact .inr (.inr ⟨by simp; omega, by rw [Hlb.out, decide_eq_false h1]; simp⟩)
      clear Hlb
      rcases hcase with ⟨hkb, rfl, hlb⟩ | ⟨hkb, rfl, hlb⟩ | ⟨hkb, hlb⟩
      · have Hlb := Lib.hid hlb; clear hlb
        go_wp2_with fail
        refine wp_region_since (by kernel_rfl) (by kernel_rfl) ?_
        repeat (go_big_quiet_step (fail))
        refine wpQuiet_nil ?_
        rintro _ ⟨y2, rfl⟩
        go_wp2_with fail
        go_roundw
        case rel => exact ⟨k + 1, y2, by omega, by go_num, rfl, fun i hi => by
          by_cases hik : i < k
          · exact Hok.out i hik
          · obtain rfl : i = k := by omega
            exact Hlb.out⟩
        case measure => simp [intOf] <;> omega
      all_goals
        have Hlb := Lib.hid hlb; clear hlb
        by_cases hft : e.f0 ≤ e.t0
        · have hb : decide (e.t0 < e.f0) = false := decide_eq_false (by omega)
          have Hlb2 := Lib.hid (Hlb.out.trans (decide_eq_true hft))
          clear hft
          go_wp2_with fail
          refine wp_region_since (by kernel_rfl) (by kernel_rfl) ?_
          repeat (go_big_quiet_step (fail))
          refine wpQuiet_nil ?_
          rintro _ ⟨y2, rfl⟩
          clear hb
          go_wp2_with fail
          go_roundw
          case rel => exact ⟨k + 1, y2, by omega, by go_num, rfl, fun i hi => by
            by_cases hik : i < k
            · exact Hok.out i hik
            · obtain rfl : i = k := by omega
              exact Hlb2.out⟩
          case measure => simp [intOf] <;> omega
        · have hb : decide (e.t0 < e.f0) = true := decide_eq_true (by omega)
          have Hr := Lib.hid (show orderedB r = false by
            cases hh : orderedB r
            · rfl
            · have := HG.out.1 (HO.out.1 hh).1 k hlt
              rw [Hlb.out, decide_eq_false hft] at this; cases this)
          clear hft
          go_wp2_with fail
          refine wp_region_since (by kernel_rfl) (by kernel_rfl) ?_
          repeat (go_big_quiet_step (fail))
          refine wpQuiet_nil ?_
          rintro _ ⟨y2, rfl⟩
          clear hb
          go_wp2_with fail
          go_ret
          exact ⟨ret_bool Hr.out.symm, Hup.out _⟩
    · obtain rfl : k = r.legs.length := by omega
      have HG2 := Lib.hid (HG.out.2 Hok.out)
      clear Hok HG
      go_wp2_with (go_at_call 59; ((with_reducible refine (Hmk.out _).mono ?_); rintro _ _ ⟨a, cap, y2, rfl, rfl, hrow⟩))
      clear Hmk
      have hM5 : M.length ≤ 200000 := by omega
      have Hrow := Lib.hid hrow; clear hrow
      replace hb0_0 := Since.cellTo ⟨y2, rfl⟩ hb0_0
      replace hb0_1 := Since.cellTo ⟨y2, rfl⟩ hb0_1
      replace hb0_2 := Since.cellTo ⟨y2, rfl⟩ hb0_2
      replace hb0_3 := Since.cellTo ⟨y2, rfl⟩ hb0_3
      replace hb0_4 := Since.cellTo ⟨y2, rfl⟩ hb0_4
      replace hb0_5 := Since.cellTo ⟨y2, rfl⟩ hb0_5
      replace hb0_6 := Since.cellTo ⟨y2, rfl⟩ hb0_6
      replace hb0_7 := Since.cellTo ⟨y2, rfl⟩ hb0_7
      replace hb0_8 := Since.cellTo ⟨y2, rfl⟩ hb0_8
      replace hb0_9 := Since.cellTo ⟨y2, rfl⟩ hb0_9
      replace hb0_10 := Since.cellTo ⟨y2, rfl⟩ hb0_10
      replace hb0_11 := Since.cellTo ⟨y2, rfl⟩ hb0_11
      replace hb0_12 := Since.cellTo ⟨y2, rfl⟩ hb0_12
      obtain ⟨q0, hq0⟩ := Since.refl y2.w
      rw [hq0]
      clear hq0
      go_wp2_with fail
      go_loopw [6] (fun i wr => ∃ (k : Nat) (z : Since y2.w), k ≤ M.length ∧ i = .int .i64 k ∧ wr = z.w ∧ ∀ i, i < k → markB op r.s0 r.e0 M i = true) (fun i _ => M.length - (intOf i).toNat)
      case atStart => exact ⟨0, _, by omega, rfl, rfl, fun i hi => by omega⟩
      case round =>
        obtain ⟨k, z, hk, rfl, rfl, hok⟩ := hrel
        have Hok := Lib.hid hok; clear hok
        by_cases hlt : k < M.length
        · obtain ⟨b, off, rfl, hbl, hc⟩ := Hrow.out k hlt
          have kc : ∀ q : Since y2.w, q.w.cell? ⟨b, off + k, none⟩ = some (.int .i64 (at0 M k)) := fun q => Since.cell hc hbl q
          have hk0 : (0 : Int) ≤ (k : Int) := by omega
          have hkl : (k : Int) < (M.length : Int) := by omega
          clear hbl hc
          by_cases hz : k = 0
          · have hz1 : ((k : Int) == 0) = true := by simp; omega
            have hz2 : decide ((0 : Int) < (k : Int)) = false := decide_eq_false (by omega)
            have hz3 : decide (0 < k) = false := decide_eq_false (by omega)
            have Hmb := Lib.hid (show markB op r.s0 r.e0 M k = (decide (r.s0 ≤ at0 M k) && (op || decide (at0 M k ≤ r.e0))) by unfold markB; rw [if_pos hz, hz])
            clear hz
            generalize at0 M k = v at *
            have hcase : (decide (v < r.s0) = true ∧ markB op r.s0 r.e0 M k = false) ∨ (decide (v < r.s0) = false ∧ op = true ∧ markB op r.s0 r.e0 M k = true) ∨ (decide (v < r.s0) = false ∧ op = false ∧ decide (r.e0 < v) = true ∧ markB op r.s0 r.e0 M k = false) ∨ (decide (v < r.s0) = false ∧ op = false ∧ decide (r.e0 < v) = false ∧ markB op r.s0 r.e0 M k = true) := by
              rw [Hmb.out]
              by_cases h1 : v < r.s0
              · exact .inl ⟨decide_eq_true h1, by rw [decide_eq_false (by omega)]; rfl⟩
              · cases op
                · by_cases h2 : r.e0 < v
                  · exact .inr (.inr (.inl ⟨decide_eq_false h1, rfl, decide_eq_true h2, by rw [decide_eq_false (p := v ≤ r.e0) (by omega)]; simp⟩))
                  · exact .inr (.inr (.inr ⟨decide_eq_false h1, rfl, decide_eq_false h2, by simp; omega⟩))
                · exact .inr (.inl ⟨decide_eq_false h1, rfl, by simp; omega⟩)
            clear Hmb
            rcases hcase with ⟨t1, hm⟩ | ⟨t1, rfl, hm⟩ | ⟨t1, rfl, t2, hm⟩ | ⟨t1, rfl, t2, hm⟩
            · have Hm := Lib.hid hm; clear hm
              have Hr := Lib.hid (show orderedB r = false by
                cases hh : orderedB r
                · rfl
                · have := (HO.out.1 hh).2 k hlt
                  rw [Hm.out] at this; cases this)
              go_wp2_with fail
              refine wp_region_since (by kernel_rfl) (by kernel_rfl) ?_
              repeat (go_big_quiet_step (fail))
              refine wpQuiet_nil ?_
              rintro _ ⟨z2, rfl⟩
              clear hz1 hz2 hz3
              go_wp2_with fail
              go_ret
              exact ⟨ret_bool Hr.out.symm, by obtain ⟨q, e⟩ := y2.trans z2; rw [e]; exact Hup.out q⟩
            · have Hm := Lib.hid hm; clear hm
              go_wp2_with fail
              refine wp_region_since (by kernel_rfl) (by kernel_rfl) ?_
              repeat (go_big_quiet_step (fail))
              refine wpQuiet_nil ?_
              rintro _ ⟨z2, rfl⟩
              clear hz1 hz2 hz3
              go_wp2_with fail
              go_roundw
              case rel => exact ⟨k + 1, z2, by omega, by go_num, rfl, fun i hi => by
                by_cases hik : i < k
                · exact Hok.out i hik
                · obtain rfl : i = k := by omega
                  exact Hm.out⟩
              case measure => simp [intOf] <;> omega
            · have Hm := Lib.hid hm; clear hm
              have Hr := Lib.hid (show orderedB r = false by
                cases hh : orderedB r
                · rfl
                · have := (HO.out.1 hh).2 k hlt
                  rw [Hm.out] at this; cases this)
              go_wp2_with fail
              refine wp_region_since (by kernel_rfl) (by kernel_rfl) ?_
              repeat (go_big_quiet_step (fail))
              refine wpQuiet_nil ?_
              rintro _ ⟨z2, rfl⟩
              clear hz1 hz2 hz3
              go_wp2_with fail
              go_ret
              exact ⟨ret_bool Hr.out.symm, by obtain ⟨q, e⟩ := y2.trans z2; rw [e]; exact Hup.out q⟩
            · have Hm := Lib.hid hm; clear hm
              go_wp2_with fail
              refine wp_region_since (by kernel_rfl) (by kernel_rfl) ?_
              repeat (go_big_quiet_step (fail))
              refine wpQuiet_nil ?_
              rintro _ ⟨z2, rfl⟩
              clear hz1 hz2 hz3
              go_wp2_with fail
              go_roundw
              case rel => exact ⟨k + 1, z2, by omega, by go_num, rfl, fun i hi => by
                by_cases hik : i < k
                · exact Hok.out i hik
                · obtain rfl : i = k := by omega
                  exact Hm.out⟩
              case measure => simp [intOf] <;> omega
          · obtain ⟨b', off', hbo, hbl, hc⟩ := Hrow.out (k - 1) (by omega)
            obtain ⟨rfl, rfl⟩ : b = b' ∧ off = off' := by simpa using hbo
            have kp : ∀ q : Since y2.w, q.w.cell? ⟨b, off + (k - 1), none⟩ = some (.int .i64 (at0 M (k - 1))) := fun q => Since.cell hc hbl q
            have hz1 : ((k : Int) == 0) = false := by simp; omega
            have hz2 : decide ((0 : Int) < (k : Int)) = true := decide_eq_true (by omega)
            have hz3 : decide (0 < k) = true := decide_eq_true (by omega)
            have hmw : IntKind.i64.wrap ((k : Int) - 1) = ((k - 1 : Nat) : Int) := by rw [show (k : Int) - 1 = ((k - 1 : Nat) : Int) by omega]; exact IntWalk.i64_in _ (by omega)
            have hmr : (0 : Int) ≤ ((k - 1 : Nat) : Int) := by omega
            have hml : ((k - 1 : Nat) : Int) < (M.length : Int) := by omega
            have Hmb := Lib.hid (show markB op r.s0 r.e0 M k = (decide (at0 M (k - 1) ≤ at0 M k) && (op || decide (at0 M k ≤ r.e0))) by unfold markB; rw [if_neg hz])
            clear hz hbo hbl hc
            generalize at0 M k = v at *
            generalize at0 M (k - 1) = u at *
            have hcase : (decide (v < u) = true ∧ markB op r.s0 r.e0 M k = false) ∨ (decide (v < u) = false ∧ op = true ∧ markB op r.s0 r.e0 M k = true) ∨ (decide (v < u) = false ∧ op = false ∧ decide (r.e0 < v) = true ∧ markB op r.s0 r.e0 M k = false) ∨ (decide (v < u) = false ∧ op = false ∧ decide (r.e0 < v) = false ∧ markB op r.s0 r.e0 M k = true) := by
              rw [Hmb.out]
              by_cases h1 : v < u
              · exact .inl ⟨decide_eq_true h1, by rw [decide_eq_false (by omega)]; rfl⟩
              · cases op
                · by_cases h2 : r.e0 < v
                  · exact .inr (.inr (.inl ⟨decide_eq_false h1, rfl, decide_eq_true h2, by rw [decide_eq_false (p := v ≤ r.e0) (by omega)]; simp⟩))
                  · exact .inr (.inr (.inr ⟨decide_eq_false h1, rfl, decide_eq_false h2, by simp; omega⟩))
                · exact .inr (.inl ⟨decide_eq_false h1, rfl, by simp; omega⟩)
            clear Hmb
            rcases hcase with ⟨t1, hm⟩ | ⟨t1, rfl, hm⟩ | ⟨t1, rfl, t2, hm⟩ | ⟨t1, rfl, t2, hm⟩
            · have Hm := Lib.hid hm; clear hm
              have Hr := Lib.hid (show orderedB r = false by
                cases hh : orderedB r
                · rfl
                · have := (HO.out.1 hh).2 k hlt
                  rw [Hm.out] at this; cases this)
              go_wp2_with fail
              refine wp_region_since (by kernel_rfl) (by kernel_rfl) ?_
              repeat (go_big_quiet_step (fail))
              refine wpQuiet_nil ?_
              rintro _ ⟨z2, rfl⟩
              clear hz1 hz2 hz3
              go_wp2_with fail
              go_ret
              exact ⟨ret_bool Hr.out.symm, by obtain ⟨q, e⟩ := y2.trans z2; rw [e]; exact Hup.out q⟩
            · have Hm := Lib.hid hm; clear hm
              go_wp2_with fail
              refine wp_region_since (by kernel_rfl) (by kernel_rfl) ?_
              repeat (go_big_quiet_step (fail))
              refine wpQuiet_nil ?_
              rintro _ ⟨z2, rfl⟩
              clear hz1 hz2 hz3
              go_wp2_with fail
              go_roundw
              case rel => exact ⟨k + 1, z2, by omega, by go_num, rfl, fun i hi => by
                by_cases hik : i < k
                · exact Hok.out i hik
                · obtain rfl : i = k := by omega
                  exact Hm.out⟩
              case measure => simp [intOf] <;> omega
            · have Hm := Lib.hid hm; clear hm
              have Hr := Lib.hid (show orderedB r = false by
                cases hh : orderedB r
                · rfl
                · have := (HO.out.1 hh).2 k hlt
                  rw [Hm.out] at this; cases this)
              go_wp2_with fail
              refine wp_region_since (by kernel_rfl) (by kernel_rfl) ?_
              repeat (go_big_quiet_step (fail))
              refine wpQuiet_nil ?_
              rintro _ ⟨z2, rfl⟩
              clear hz1 hz2 hz3
              go_wp2_with fail
              go_ret
              exact ⟨ret_bool Hr.out.symm, by obtain ⟨q, e⟩ := y2.trans z2; rw [e]; exact Hup.out q⟩
            · have Hm := Lib.hid hm; clear hm
              go_wp2_with fail
              refine wp_region_since (by kernel_rfl) (by kernel_rfl) ?_
              repeat (go_big_quiet_step (fail))
              refine wpQuiet_nil ?_
              rintro _ ⟨z2, rfl⟩
              clear hz1 hz2 hz3
              go_wp2_with fail
              go_roundw
              case rel => exact ⟨k + 1, z2, by omega, by go_num, rfl, fun i hi => by
                by_cases hik : i < k
                · exact Hok.out i hik
                · obtain rfl : i = k := by omega
                  exact Hm.out⟩
              case measure => simp [intOf] <;> omega
        · obtain rfl : k = M.length := by omega
          have Hr := Lib.hid (HO.out.2 ⟨HG2.out, Hok.out⟩)
          go_wp2_with fail
          go_ret
          exact ⟨ret_bool Hr.out.symm, by obtain ⟨q, e⟩ := y2.trans z; rw [e]; exact Hup.out q⟩
end Go.Proofs.Ytefodfpnedcodaa
/- The walks of the program's check of a ride, fourth part: the check. -/
namespace Go.Proofs.Ytefodfpnedcodaa
open Go.RowKit

set_option maxRecDepth 100000 in
set_option maxHeartbeats 8000000 in
theorem check_calls (w : World) (x : Since w) (r : Ride) (h : r.At w) :
    Calls Try.prog 37 #[.agg #[.int .i64 r.id, .int .i64 r.rd, .int .i64 r.s0, .int .i64 r.s1, .int .i64 r.e0, .int .i64 r.e1, .bool r.op, .slice r.la r.legs.length r.lc, .slice r.pa r.pauses.length r.pc, .int .i64 r.fw, .int .i64 r.fp, .int .i64 r.wh, .int .i64 r.pl]] x.w fun o w' => o = .returned (.int .i64 (rideE r)) ∧ ∃ y : Since w, w' = y.w := by
  have H := Lib.hid h
  clear h
  go_enter Try.func37, Try.ntmps37
  go_upto_region 1 with fail
  have hb0_0 : ∀ y : Since (x.w.alloc (.cells #[.int .i64 r.id, .int .i64 r.rd, .int .i64 r.s0, .int .i64 r.s1, .int .i64 r.e0, .int .i64 r.e1, .bool r.op, .slice r.la r.legs.length r.lc, .slice r.pa r.pauses.length r.pc, .int .i64 r.fw, .int .i64 r.fp, .int .i64 r.wh, .int .i64 r.pl] 27)), y.w.cell? ⟨x.w.heap.size, 0, none⟩ = some (.int .i64 r.id) := fun y => Since.cell (by simp [go_sem]) (by first | (simp; done) | (simp; omega)) y
  have hb0_1 : ∀ y : Since (x.w.alloc (.cells #[.int .i64 r.id, .int .i64 r.rd, .int .i64 r.s0, .int .i64 r.s1, .int .i64 r.e0, .int .i64 r.e1, .bool r.op, .slice r.la r.legs.length r.lc, .slice r.pa r.pauses.length r.pc, .int .i64 r.fw, .int .i64 r.fp, .int .i64 r.wh, .int .i64 r.pl] 27)), y.w.cell? ⟨x.w.heap.size, 1, none⟩ = some (.int .i64 r.rd) := fun y => Since.cell (by simp [go_sem]) (by first | (simp; done) | (simp; omega)) y
  have hb0_2 : ∀ y : Since (x.w.alloc (.cells #[.int .i64 r.id, .int .i64 r.rd, .int .i64 r.s0, .int .i64 r.s1, .int .i64 r.e0, .int .i64 r.e1, .bool r.op, .slice r.la r.legs.length r.lc, .slice r.pa r.pauses.length r.pc, .int .i64 r.fw, .int .i64 r.fp, .int .i64 r.wh, .int .i64 r.pl] 27)), y.w.cell? ⟨x.w.heap.size, 2, none⟩ = some (.int .i64 r.s0) := fun y => Since.cell (by simp [go_sem]) (by first | (simp; done) | (simp; omega)) y
  have hb0_3 : ∀ y : Since (x.w.alloc (.cells #[.int .i64 r.id, .int .i64 r.rd, .int .i64 r.s0, .int .i64 r.s1, .int .i64 r.e0, .int .i64 r.e1, .bool r.op, .slice r.la r.legs.length r.lc, .slice r.pa r.pauses.length r.pc, .int .i64 r.fw, .int .i64 r.fp, .int .i64 r.wh, .int .i64 r.pl] 27)), y.w.cell? ⟨x.w.heap.size, 3, none⟩ = some (.int .i64 r.s1) := fun y => Since.cell (by simp [go_sem]) (by first | (simp; done) | (simp; omega)) y
  have hb0_4 : ∀ y : Since (x.w.alloc (.cells #[.int .i64 r.id, .int .i64 r.rd, .int .i64 r.s0, .int .i64 r.s1, .int .i64 r.e0, .int .i64 r.e1, .bool r.op, .slice r.la r.legs.length r.lc, .slice r.pa r.pauses.length r.pc, .int .i64 r.fw, .int .i64 r.fp, .int .i64 r.wh, .int .i64 r.pl] 27)), y.w.cell? ⟨x.w.heap.size, 4, none⟩ = some (.int .i64 r.e0) := fun y => Since.cell (by simp [go_sem]) (by first | (simp; done) | (simp; omega)) y
  have hb0_5 : ∀ y : Since (x.w.alloc (.cells #[.int .i64 r.id, .int .i64 r.rd, .int .i64 r.s0, .int .i64 r.s1, .int .i64 r.e0, .int .i64 r.e1, .bool r.op, .slice r.la r.legs.length r.lc, .slice r.pa r.pauses.length r.pc, .int .i64 r.fw, .int .i64 r.fp, .int .i64 r.wh, .int .i64 r.pl] 27)), y.w.cell? ⟨x.w.heap.size, 5, none⟩ = some (.int .i64 r.e1) := fun y => Since.cell (by simp [go_sem]) (by first | (simp; done) | (simp; omega)) y
  have hb0_6 : ∀ y : Since (x.w.alloc (.cells #[.int .i64 r.id, .int .i64 r.rd, .int .i64 r.s0, .int .i64 r.s1, .int .i64 r.e0, .int .i64 r.e1, .bool r.op, .slice r.la r.legs.length r.lc, .slice r.pa r.pauses.length r.pc, .int .i64 r.fw, .int .i64 r.fp, .int .i64 r.wh, .int .i64 r.pl] 27)), y.w.cell? ⟨x.w.heap.size, 6, none⟩ = some (.bool r.op) := fun y => Since.cell (by simp [go_sem]) (by first | (simp; done) | (simp; omega)) y
  have hb0_7 : ∀ y : Since (x.w.alloc (.cells #[.int .i64 r.id, .int .i64 r.rd, .int .i64 r.s0, .int .i64 r.s1, .int .i64 r.e0, .int .i64 r.e1, .bool r.op, .slice r.la r.legs.length r.lc, .slice r.pa r.pauses.length r.pc, .int .i64 r.fw, .int .i64 r.fp, .int .i64 r.wh, .int .i64 r.pl] 27)), y.w.cell? ⟨x.w.heap.size, 7, none⟩ = some (.slice r.la r.legs.length r.lc) := fun y => Since.cell (by simp [go_sem]) (by first | (simp; done) | (simp; omega)) y
  have hb0_8 : ∀ y : Since (x.w.alloc (.cells #[.int .i64 r.id, .int .i64 r.rd, .int .i64 r.s0, .int .i64 r.s1, .int .i64 r.e0, .int .i64 r.e1, .bool r.op, .slice r.la r.legs.length r.lc, .slice r.pa r.pauses.length r.pc, .int .i64 r.fw, .int .i64 r.fp, .int .i64 r.wh, .int .i64 r.pl] 27)), y.w.cell? ⟨x.w.heap.size, 8, none⟩ = some (.slice r.pa r.pauses.length r.pc) := fun y => Since.cell (by simp [go_sem]) (by first | (simp; done) | (simp; omega)) y
  have hb0_9 : ∀ y : Since (x.w.alloc (.cells #[.int .i64 r.id, .int .i64 r.rd, .int .i64 r.s0, .int .i64 r.s1, .int .i64 r.e0, .int .i64 r.e1, .bool r.op, .slice r.la r.legs.length r.lc, .slice r.pa r.pauses.length r.pc, .int .i64 r.fw, .int .i64 r.fp, .int .i64 r.wh, .int .i64 r.pl] 27)), y.w.cell? ⟨x.w.heap.size, 9, none⟩ = some (.int .i64 r.fw) := fun y => Since.cell (by simp [go_sem]) (by first | (simp; done) | (simp; omega)) y
  have hb0_10 : ∀ y : Since (x.w.alloc (.cells #[.int .i64 r.id, .int .i64 r.rd, .int .i64 r.s0, .int .i64 r.s1, .int .i64 r.e0, .int .i64 r.e1, .bool r.op, .slice r.la r.legs.length r.lc, .slice r.pa r.pauses.length r.pc, .int .i64 r.fw, .int .i64 r.fp, .int .i64 r.wh, .int .i64 r.pl] 27)), y.w.cell? ⟨x.w.heap.size, 10, none⟩ = some (.int .i64 r.fp) := fun y => Since.cell (by simp [go_sem]) (by first | (simp; done) | (simp; omega)) y
  have hb0_11 : ∀ y : Since (x.w.alloc (.cells #[.int .i64 r.id, .int .i64 r.rd, .int .i64 r.s0, .int .i64 r.s1, .int .i64 r.e0, .int .i64 r.e1, .bool r.op, .slice r.la r.legs.length r.lc, .slice r.pa r.pauses.length r.pc, .int .i64 r.fw, .int .i64 r.fp, .int .i64 r.wh, .int .i64 r.pl] 27)), y.w.cell? ⟨x.w.heap.size, 11, none⟩ = some (.int .i64 r.wh) := fun y => Since.cell (by simp [go_sem]) (by first | (simp; done) | (simp; omega)) y
  have hb0_12 : ∀ y : Since (x.w.alloc (.cells #[.int .i64 r.id, .int .i64 r.rd, .int .i64 r.s0, .int .i64 r.s1, .int .i64 r.e0, .int .i64 r.e1, .bool r.op, .slice r.la r.legs.length r.lc, .slice r.pa r.pauses.length r.pc, .int .i64 r.fw, .int .i64 r.fp, .int .i64 r.wh, .int .i64 r.pl] 27)), y.w.cell? ⟨x.w.heap.size, 12, none⟩ = some (.int .i64 r.pl) := fun y => Since.cell (by simp [go_sem]) (by first | (simp; done) | (simp; omega)) y
  have hf0 : ∀ (y : Since (x.w.alloc (.cells #[.int .i64 r.id, .int .i64 r.rd, .int .i64 r.s0, .int .i64 r.s1, .int .i64 r.e0, .int .i64 r.e1, .bool r.op, .slice r.la r.legs.length r.lc, .slice r.pa r.pauses.length r.pc, .int .i64 r.fw, .int .i64 r.fp, .int .i64 r.wh, .int .i64 r.pl] 27))) (o : Nat), y.w.frozen? ⟨x.w.heap.size, o, none⟩ = false := fun y o => Since.free (by simp [go_sem]) (by first | (simp; done) | (simp; omega)) y
  have hWup : ∃ z : Since w, (x.w.alloc (.cells #[.int .i64 r.id, .int .i64 r.rd, .int .i64 r.s0, .int .i64 r.s1, .int .i64 r.e0, .int .i64 r.e1, .bool r.op, .slice r.la r.legs.length r.lc, .slice r.pa r.pauses.length r.pc, .int .i64 r.fw, .int .i64 r.fp, .int .i64 r.wh, .int .i64 r.pl] 27)) = z.w := x.alloc _
  obtain ⟨y0, hy0⟩ := Since.refl (x.w.alloc (.cells #[.int .i64 r.id, .int .i64 r.rd, .int .i64 r.s0, .int .i64 r.s1, .int .i64 r.e0, .int .i64 r.e1, .bool r.op, .slice r.la r.legs.length r.lc, .slice r.pa r.pauses.length r.pc, .int .i64 r.fw, .int .i64 r.fp, .int .i64 r.wh, .int .i64 r.pl] 27))
  have Hbx := Lib.hid (And.intro x.b.size (show x.w.heap.size + 1 = (x.w.alloc (.cells #[.int .i64 r.id, .int .i64 r.rd, .int .i64 r.s0, .int .i64 r.s1, .int .i64 r.e0, .int .i64 r.e1, .bool r.op, .slice r.la r.legs.length r.lc, .slice r.pa r.pauses.length r.pc, .int .i64 r.fw, .int .i64 r.fp, .int .i64 r.wh, .int .i64 r.pl] 27)).heap.size from by simp))
  generalize hW : (x.w.alloc (.cells #[.int .i64 r.id, .int .i64 r.rd, .int .i64 r.s0, .int .i64 r.s1, .int .i64 r.e0, .int .i64 r.e1, .bool r.op, .slice r.la r.legs.length r.lc, .slice r.pa r.pauses.length r.pc, .int .i64 r.fw, .int .i64 r.fp, .int .i64 r.wh, .int .i64 r.pl] 27)) = W at *
  clear hW
  generalize x.w.heap.size = bx at *
  have Hup := Lib.hid (Since.up hWup)
  rw [hy0]
  clear hy0
  replace H := Lib.hid (H.out.to hWup)
  clear hWup
  have Hra := Lib.hid (fun y : Since W => ranged_calls W y r H.out)
  have Hjo := Lib.hid (fun y : Since W => joined_calls W y r H.out)
  have Hor := Lib.hid (fun y : Since W => ordered_calls W y r H.out)
  have hgd := span_guard
  have heq := span_equal r.e0 r.e1 0 0
  have HE := Lib.hid (show rideE r = if rangedB r = false then 1 else if joinedB r = false then 3 else if orderedB r = false then 9 else if stateB r = true then 12 else 0 from rfl)
  have Hst := Lib.hid (show stateB r = ((r.op && !(decide (r.e0 = 0) && decide (r.e1 = 0))) || (r.op != decide (r.wh = 3))) from rfl)
  generalize stateB r = sb at *
  generalize rangedB r = rb at *
  generalize joinedB r = jb at *
  generalize orderedB r = ob at *
  cases rb with
  | false =>
    go_wp2_with (go_at_call 52; ((with_reducible refine (Hra.out _).mono ?_); rintro _ _ ⟨rfl, y1, rfl⟩))
    go_ret
    exact ⟨ret_int (by rw [HE.out]; rfl), Hup.out _⟩
  | true =>
    cases jb with
    | false =>
      go_wp2_with (first | (go_at_call 52; ((with_reducible refine (Hra.out _).mono ?_); rintro _ _ ⟨rfl, y1, rfl⟩)) | (go_at_call 53; ((with_reducible refine (Hjo.out _).mono ?_); rintro _ _ ⟨rfl, y2, rfl⟩)))
      go_ret
      exact ⟨ret_int (by rw [HE.out]; rfl), Hup.out _⟩
    | true =>
      cases ob with
      | false =>
        go_wp2_with (first | (go_at_call 52; ((with_reducible refine (Hra.out _).mono ?_); rintro _ _ ⟨rfl, y1, rfl⟩)) | (go_at_call 53; ((with_reducible refine (Hjo.out _).mono ?_); rintro _ _ ⟨rfl, y2, rfl⟩)) | (go_at_call 54; ((with_reducible refine (Hor.out _).mono ?_); rintro _ _ ⟨rfl, y3, rfl⟩)))
        go_ret
        exact ⟨ret_int (by rw [HE.out]; rfl), Hup.out _⟩
      | true =>
        go_upto_region 7 with (first | (go_at_call 52; ((with_reducible refine (Hra.out _).mono ?_); rintro _ _ ⟨rfl, y1, rfl⟩)) | (go_at_call 53; ((with_reducible refine (Hjo.out _).mono ?_); rintro _ _ ⟨rfl, y2, rfl⟩)) | (go_at_call 54; ((with_reducible refine (Hor.out _).mono ?_); rintro _ _ ⟨rfl, y3, rfl⟩)))
        clear Hra Hjo Hor
        cases hz : (decide (r.e0 = 0) && decide (r.e1 = 0)) with
        | false =>
          rw [hz] at heq Hst
          clear hz
          by_cases hw : r.wh = 3
          · have hwb : (r.wh == 3) = true := by simpa using hw
            rw [decide_eq_true hw] at Hst
            clear hw
            cases hop : r.op with
            | false =>
              rw [hop] at Hst
              go_wp2_with fail
              go_ret
              exact ⟨ret_int (by rw [HE.out, Hst.out]; rfl), Hup.out _⟩
            | true =>
              rw [hop] at Hst
              go_wp2_with fail
              go_ret
              exact ⟨ret_int (by rw [HE.out, Hst.out]; rfl), Hup.out _⟩
          · have hwb : (r.wh == 3) = false := by simpa using hw
            rw [decide_eq_false hw] at Hst
            clear hw
            cases hop : r.op with
            | false =>
              rw [hop] at Hst
              go_wp2_with fail
              go_ret
              exact ⟨ret_int (by rw [HE.out, Hst.out]; rfl), Hup.out _⟩
            | true =>
              rw [hop] at Hst
              go_wp2_with fail
              go_ret
              exact ⟨ret_int (by rw [HE.out, Hst.out]; rfl), Hup.out _⟩
        | true =>
          rw [hz] at heq Hst
          clear hz
          by_cases hw : r.wh = 3
          · have hwb : (r.wh == 3) = true := by simpa using hw
            rw [decide_eq_true hw] at Hst
            clear hw
            cases hop : r.op with
            | false =>
              rw [hop] at Hst
              go_wp2_with fail
              go_ret
              exact ⟨ret_int (by rw [HE.out, Hst.out]; rfl), Hup.out _⟩
            | true =>
              rw [hop] at Hst
              go_wp2_with fail
              go_ret
              exact ⟨ret_int (by rw [HE.out, Hst.out]; rfl), Hup.out _⟩
          · have hwb : (r.wh == 3) = false := by simpa using hw
            rw [decide_eq_false hw] at Hst
            clear hw
            cases hop : r.op with
            | false =>
              rw [hop] at Hst
              go_wp2_with fail
              go_ret
              exact ⟨ret_int (by rw [HE.out, Hst.out]; rfl), Hup.out _⟩
            | true =>
              rw [hop] at Hst
              go_wp2_with fail
              go_ret
              exact ⟨ret_int (by rw [HE.out, Hst.out]; rfl), Hup.out _⟩
end Go.Proofs.Ytefodfpnedcodaa
/- The walks of the reference's check of a ride, sixth part: the check; short lists of rides. -/
namespace Go.Proofs.Ytefodfpnedcodaa
open Go.RowKit

set_option maxRecDepth 100000 in
set_option maxHeartbeats 8000000 in
theorem rcheck_calls (w : World) (x : Since w) (r : Ride) (h : r.At w) :
    Calls Try.prog 35 #[.agg #[.int .i64 r.id, .int .i64 r.rd, .int .i64 r.s0, .int .i64 r.s1, .int .i64 r.e0, .int .i64 r.e1, .bool r.op, .slice r.la r.legs.length r.lc, .slice r.pa r.pauses.length r.pc, .int .i64 r.fw, .int .i64 r.fp, .int .i64 r.wh, .int .i64 r.pl]] x.w fun o w' => o = .returned (.int .i64 (rideE r)) ∧ ∃ y : Since w, w' = y.w := by
  have H := Lib.hid h
  clear h
  go_enter Try.func35, Try.ntmps35
  go_upto_region 1 with fail
  have hb0_0 : ∀ y : Since (x.w.alloc (.cells #[.int .i64 r.id, .int .i64 r.rd, .int .i64 r.s0, .int .i64 r.s1, .int .i64 r.e0, .int .i64 r.e1, .bool r.op, .slice r.la r.legs.length r.lc, .slice r.pa r.pauses.length r.pc, .int .i64 r.fw, .int .i64 r.fp, .int .i64 r.wh, .int .i64 r.pl] 27)), y.w.cell? ⟨x.w.heap.size, 0, none⟩ = some (.int .i64 r.id) := fun y => Since.cell (by simp [go_sem]) (by first | (simp; done) | (simp; omega)) y
  have hb0_1 : ∀ y : Since (x.w.alloc (.cells #[.int .i64 r.id, .int .i64 r.rd, .int .i64 r.s0, .int .i64 r.s1, .int .i64 r.e0, .int .i64 r.e1, .bool r.op, .slice r.la r.legs.length r.lc, .slice r.pa r.pauses.length r.pc, .int .i64 r.fw, .int .i64 r.fp, .int .i64 r.wh, .int .i64 r.pl] 27)), y.w.cell? ⟨x.w.heap.size, 1, none⟩ = some (.int .i64 r.rd) := fun y => Since.cell (by simp [go_sem]) (by first | (simp; done) | (simp; omega)) y
  have hb0_2 : ∀ y : Since (x.w.alloc (.cells #[.int .i64 r.id, .int .i64 r.rd, .int .i64 r.s0, .int .i64 r.s1, .int .i64 r.e0, .int .i64 r.e1, .bool r.op, .slice r.la r.legs.length r.lc, .slice r.pa r.pauses.length r.pc, .int .i64 r.fw, .int .i64 r.fp, .int .i64 r.wh, .int .i64 r.pl] 27)), y.w.cell? ⟨x.w.heap.size, 2, none⟩ = some (.int .i64 r.s0) := fun y => Since.cell (by simp [go_sem]) (by first | (simp; done) | (simp; omega)) y
  have hb0_3 : ∀ y : Since (x.w.alloc (.cells #[.int .i64 r.id, .int .i64 r.rd, .int .i64 r.s0, .int .i64 r.s1, .int .i64 r.e0, .int .i64 r.e1, .bool r.op, .slice r.la r.legs.length r.lc, .slice r.pa r.pauses.length r.pc, .int .i64 r.fw, .int .i64 r.fp, .int .i64 r.wh, .int .i64 r.pl] 27)), y.w.cell? ⟨x.w.heap.size, 3, none⟩ = some (.int .i64 r.s1) := fun y => Since.cell (by simp [go_sem]) (by first | (simp; done) | (simp; omega)) y
  have hb0_4 : ∀ y : Since (x.w.alloc (.cells #[.int .i64 r.id, .int .i64 r.rd, .int .i64 r.s0, .int .i64 r.s1, .int .i64 r.e0, .int .i64 r.e1, .bool r.op, .slice r.la r.legs.length r.lc, .slice r.pa r.pauses.length r.pc, .int .i64 r.fw, .int .i64 r.fp, .int .i64 r.wh, .int .i64 r.pl] 27)), y.w.cell? ⟨x.w.heap.size, 4, none⟩ = some (.int .i64 r.e0) := fun y => Since.cell (by simp [go_sem]) (by first | (simp; done) | (simp; omega)) y
  have hb0_5 : ∀ y : Since (x.w.alloc (.cells #[.int .i64 r.id, .int .i64 r.rd, .int .i64 r.s0, .int .i64 r.s1, .int .i64 r.e0, .int .i64 r.e1, .bool r.op, .slice r.la r.legs.length r.lc, .slice r.pa r.pauses.length r.pc, .int .i64 r.fw, .int .i64 r.fp, .int .i64 r.wh, .int .i64 r.pl] 27)), y.w.cell? ⟨x.w.heap.size, 5, none⟩ = some (.int .i64 r.e1) := fun y => Since.cell (by simp [go_sem]) (by first | (simp; done) | (simp; omega)) y
  have hb0_6 : ∀ y : Since (x.w.alloc (.cells #[.int .i64 r.id, .int .i64 r.rd, .int .i64 r.s0, .int .i64 r.s1, .int .i64 r.e0, .int .i64 r.e1, .bool r.op, .slice r.la r.legs.length r.lc, .slice r.pa r.pauses.length r.pc, .int .i64 r.fw, .int .i64 r.fp, .int .i64 r.wh, .int .i64 r.pl] 27)), y.w.cell? ⟨x.w.heap.size, 6, none⟩ = some (.bool r.op) := fun y => Since.cell (by simp [go_sem]) (by first | (simp; done) | (simp; omega)) y
  have hb0_7 : ∀ y : Since (x.w.alloc (.cells #[.int .i64 r.id, .int .i64 r.rd, .int .i64 r.s0, .int .i64 r.s1, .int .i64 r.e0, .int .i64 r.e1, .bool r.op, .slice r.la r.legs.length r.lc, .slice r.pa r.pauses.length r.pc, .int .i64 r.fw, .int .i64 r.fp, .int .i64 r.wh, .int .i64 r.pl] 27)), y.w.cell? ⟨x.w.heap.size, 7, none⟩ = some (.slice r.la r.legs.length r.lc) := fun y => Since.cell (by simp [go_sem]) (by first | (simp; done) | (simp; omega)) y
  have hb0_8 : ∀ y : Since (x.w.alloc (.cells #[.int .i64 r.id, .int .i64 r.rd, .int .i64 r.s0, .int .i64 r.s1, .int .i64 r.e0, .int .i64 r.e1, .bool r.op, .slice r.la r.legs.length r.lc, .slice r.pa r.pauses.length r.pc, .int .i64 r.fw, .int .i64 r.fp, .int .i64 r.wh, .int .i64 r.pl] 27)), y.w.cell? ⟨x.w.heap.size, 8, none⟩ = some (.slice r.pa r.pauses.length r.pc) := fun y => Since.cell (by simp [go_sem]) (by first | (simp; done) | (simp; omega)) y
  have hb0_9 : ∀ y : Since (x.w.alloc (.cells #[.int .i64 r.id, .int .i64 r.rd, .int .i64 r.s0, .int .i64 r.s1, .int .i64 r.e0, .int .i64 r.e1, .bool r.op, .slice r.la r.legs.length r.lc, .slice r.pa r.pauses.length r.pc, .int .i64 r.fw, .int .i64 r.fp, .int .i64 r.wh, .int .i64 r.pl] 27)), y.w.cell? ⟨x.w.heap.size, 9, none⟩ = some (.int .i64 r.fw) := fun y => Since.cell (by simp [go_sem]) (by first | (simp; done) | (simp; omega)) y
  have hb0_10 : ∀ y : Since (x.w.alloc (.cells #[.int .i64 r.id, .int .i64 r.rd, .int .i64 r.s0, .int .i64 r.s1, .int .i64 r.e0, .int .i64 r.e1, .bool r.op, .slice r.la r.legs.length r.lc, .slice r.pa r.pauses.length r.pc, .int .i64 r.fw, .int .i64 r.fp, .int .i64 r.wh, .int .i64 r.pl] 27)), y.w.cell? ⟨x.w.heap.size, 10, none⟩ = some (.int .i64 r.fp) := fun y => Since.cell (by simp [go_sem]) (by first | (simp; done) | (simp; omega)) y
  have hb0_11 : ∀ y : Since (x.w.alloc (.cells #[.int .i64 r.id, .int .i64 r.rd, .int .i64 r.s0, .int .i64 r.s1, .int .i64 r.e0, .int .i64 r.e1, .bool r.op, .slice r.la r.legs.length r.lc, .slice r.pa r.pauses.length r.pc, .int .i64 r.fw, .int .i64 r.fp, .int .i64 r.wh, .int .i64 r.pl] 27)), y.w.cell? ⟨x.w.heap.size, 11, none⟩ = some (.int .i64 r.wh) := fun y => Since.cell (by simp [go_sem]) (by first | (simp; done) | (simp; omega)) y
  have hb0_12 : ∀ y : Since (x.w.alloc (.cells #[.int .i64 r.id, .int .i64 r.rd, .int .i64 r.s0, .int .i64 r.s1, .int .i64 r.e0, .int .i64 r.e1, .bool r.op, .slice r.la r.legs.length r.lc, .slice r.pa r.pauses.length r.pc, .int .i64 r.fw, .int .i64 r.fp, .int .i64 r.wh, .int .i64 r.pl] 27)), y.w.cell? ⟨x.w.heap.size, 12, none⟩ = some (.int .i64 r.pl) := fun y => Since.cell (by simp [go_sem]) (by first | (simp; done) | (simp; omega)) y
  have hf0 : ∀ (y : Since (x.w.alloc (.cells #[.int .i64 r.id, .int .i64 r.rd, .int .i64 r.s0, .int .i64 r.s1, .int .i64 r.e0, .int .i64 r.e1, .bool r.op, .slice r.la r.legs.length r.lc, .slice r.pa r.pauses.length r.pc, .int .i64 r.fw, .int .i64 r.fp, .int .i64 r.wh, .int .i64 r.pl] 27))) (o : Nat), y.w.frozen? ⟨x.w.heap.size, o, none⟩ = false := fun y o => Since.free (by simp [go_sem]) (by first | (simp; done) | (simp; omega)) y
  have hWup : ∃ z : Since w, (x.w.alloc (.cells #[.int .i64 r.id, .int .i64 r.rd, .int .i64 r.s0, .int .i64 r.s1, .int .i64 r.e0, .int .i64 r.e1, .bool r.op, .slice r.la r.legs.length r.lc, .slice r.pa r.pauses.length r.pc, .int .i64 r.fw, .int .i64 r.fp, .int .i64 r.wh, .int .i64 r.pl] 27)) = z.w := x.alloc _
  obtain ⟨y0, hy0⟩ := Since.refl (x.w.alloc (.cells #[.int .i64 r.id, .int .i64 r.rd, .int .i64 r.s0, .int .i64 r.s1, .int .i64 r.e0, .int .i64 r.e1, .bool r.op, .slice r.la r.legs.length r.lc, .slice r.pa r.pauses.length r.pc, .int .i64 r.fw, .int .i64 r.fp, .int .i64 r.wh, .int .i64 r.pl] 27))
  have Hbx := Lib.hid (And.intro x.b.size (show x.w.heap.size + 1 = (x.w.alloc (.cells #[.int .i64 r.id, .int .i64 r.rd, .int .i64 r.s0, .int .i64 r.s1, .int .i64 r.e0, .int .i64 r.e1, .bool r.op, .slice r.la r.legs.length r.lc, .slice r.pa r.pauses.length r.pc, .int .i64 r.fw, .int .i64 r.fp, .int .i64 r.wh, .int .i64 r.pl] 27)).heap.size from by simp))
  generalize hW : (x.w.alloc (.cells #[.int .i64 r.id, .int .i64 r.rd, .int .i64 r.s0, .int .i64 r.s1, .int .i64 r.e0, .int .i64 r.e1, .bool r.op, .slice r.la r.legs.length r.lc, .slice r.pa r.pauses.length r.pc, .int .i64 r.fw, .int .i64 r.fp, .int .i64 r.wh, .int .i64 r.pl] 27)) = W at *
  clear hW
  generalize x.w.heap.size = bx at *
  have Hup := Lib.hid (Since.up hWup)
  rw [hy0]
  clear hy0
  replace H := Lib.hid (H.out.to hWup)
  clear hWup
  have Hra := Lib.hid (fun y : Since W => rranged_calls W y r H.out)
  have Hjo := Lib.hid (fun y : Since W => rjoined_calls W y r H.out)
  have Hor := Lib.hid (fun (hj : joinedB r = true) (y : Since W) => rordered_calls W y r H.out (by unfold joinedB at hj; simp only [Bool.and_eq_true, decide_eq_true_eq] at hj; omega))
  have hgd := span_guard
  have heq := span_equal r.e0 r.e1 0 0
  have HE := Lib.hid (show rideE r = if rangedB r = false then 1 else if joinedB r = false then 3 else if orderedB r = false then 9 else if stateB r = true then 12 else 0 from rfl)
  have Hst := Lib.hid (show stateB r = ((r.op && !(decide (r.e0 = 0) && decide (r.e1 = 0))) || (r.op != decide (r.wh = 3))) from rfl)
  generalize stateB r = sb at *
  generalize rangedB r = rb at *
  generalize joinedB r = jb at *
  generalize orderedB r = ob at *
  cases rb with
  | false =>
    go_wp2_with (go_at_call 49; ((with_reducible refine (Hra.out _).mono ?_); rintro _ _ ⟨rfl, y1, rfl⟩))
    go_ret
    exact ⟨ret_int (by rw [HE.out]; rfl), Hup.out _⟩
  | true =>
    cases jb with
    | false =>
      go_wp2_with (first | (go_at_call 49; ((with_reducible refine (Hra.out _).mono ?_); rintro _ _ ⟨rfl, y1, rfl⟩)) | (go_at_call 50; ((with_reducible refine (Hjo.out _).mono ?_); rintro _ _ ⟨rfl, y2, rfl⟩)))
      go_ret
      exact ⟨ret_int (by rw [HE.out]; rfl), Hup.out _⟩
    | true =>
      cases ob with
      | false =>
        go_wp2_with (first | (go_at_call 49; ((with_reducible refine (Hra.out _).mono ?_); rintro _ _ ⟨rfl, y1, rfl⟩)) | (go_at_call 50; ((with_reducible refine (Hjo.out _).mono ?_); rintro _ _ ⟨rfl, y2, rfl⟩)) | (go_at_call 51; ((with_reducible refine (Hor.out (by trivial) _).mono ?_); rintro _ _ ⟨rfl, y3, rfl⟩)))
        go_ret
        exact ⟨ret_int (by rw [HE.out]; rfl), Hup.out _⟩
      | true =>
        go_upto_region 7 with (first | (go_at_call 49; ((with_reducible refine (Hra.out _).mono ?_); rintro _ _ ⟨rfl, y1, rfl⟩)) | (go_at_call 50; ((with_reducible refine (Hjo.out _).mono ?_); rintro _ _ ⟨rfl, y2, rfl⟩)) | (go_at_call 51; ((with_reducible refine (Hor.out (by trivial) _).mono ?_); rintro _ _ ⟨rfl, y3, rfl⟩)))
        clear Hra Hjo Hor
        cases hz : (decide (r.e0 = 0) && decide (r.e1 = 0)) with
        | false =>
          rw [hz] at heq Hst
          clear hz
          by_cases hw : r.wh = 3
          · have hwb : (r.wh == 3) = true := by simpa using hw
            rw [decide_eq_true hw] at Hst
            clear hw
            cases hop : r.op with
            | false =>
              rw [hop] at Hst
              go_wp2_with fail
              go_ret
              exact ⟨ret_int (by rw [HE.out, Hst.out]; rfl), Hup.out _⟩
            | true =>
              rw [hop] at Hst
              go_wp2_with fail
              go_ret
              exact ⟨ret_int (by rw [HE.out, Hst.out]; rfl), Hup.out _⟩
          · have hwb : (r.wh == 3) = false := by simpa using hw
            rw [decide_eq_false hw] at Hst
            clear hw
            cases hop : r.op with
            | false =>
              rw [hop] at Hst
              go_wp2_with fail
              go_ret
              exact ⟨ret_int (by rw [HE.out, Hst.out]; rfl), Hup.out _⟩
            | true =>
              rw [hop] at Hst
              go_wp2_with fail
              go_ret
              exact ⟨ret_int (by rw [HE.out, Hst.out]; rfl), Hup.out _⟩
        | true =>
          rw [hz] at heq Hst
          clear hz
          by_cases hw : r.wh = 3
          · have hwb : (r.wh == 3) = true := by simpa using hw
            rw [decide_eq_true hw] at Hst
            clear hw
            cases hop : r.op with
            | false =>
              rw [hop] at Hst
              go_wp2_with fail
              go_ret
              exact ⟨ret_int (by rw [HE.out, Hst.out]; rfl), Hup.out _⟩
            | true =>
              rw [hop] at Hst
              go_wp2_with fail
              go_ret
              exact ⟨ret_int (by rw [HE.out, Hst.out]; rfl), Hup.out _⟩
          · have hwb : (r.wh == 3) = false := by simpa using hw
            rw [decide_eq_false hw] at Hst
            clear hw
            cases hop : r.op with
            | false =>
              rw [hop] at Hst
              go_wp2_with fail
              go_ret
              exact ⟨ret_int (by rw [HE.out, Hst.out]; rfl), Hup.out _⟩
            | true =>
              rw [hop] at Hst
              go_wp2_with fail
              go_ret
              exact ⟨ret_int (by rw [HE.out, Hst.out]; rfl), Hup.out _⟩
end Go.Proofs.Ytefodfpnedcodaa
/- The library's functions that the program of windows calls, laid over its translation. -/
namespace Go.Proofs.Ytefodfpnedcodaa
open Go.Shelf Go.RowKit Go.Lib Go.Sort

def Try.sortWin_ren : Go.Shelf.Ren := ⟨fun | 6 => 64 | 15 => 69 | 14 => 68 | 28 => 79 | 29 => 80 | 20 => 71 | 21 => 72 | 22 => 73 | 23 => 74 | 24 => 75 | 25 => 76 | 26 => 77 | 27 => 78 | 46 => 81 | 47 => 82 | 48 => 83 | 49 => 84 | 50 => 85 | 57 => 86 | n => n, fun | 22 => 35 | 24 => 31 | 25 => 78 | 3 => 3 | 39 => 82 | 0 => 0 | 53 => 93 | 55 => 95 | 4 => 4 | 46 => 86 | 45 => 85 | 50 => 90 | 5 => 5 | 9 => 9 | 66 => 96 | 70 => 100 | 76 => 102 | 77 => 103 | n => n, fun | n => n⟩
theorem Try.sortWin : Go.Proofs.SlLaysF0.n6 Try.prog Try.sortWin_ren := {
  mixed := by kernel_rfl
  f6 := ⟨Try.f64.name, by decide, Try.func64.trans (congrArg some (by kernel_rfl))⟩
  f14 := ⟨Try.f68.name, by decide, Try.func68.trans (congrArg some (by kernel_rfl))⟩
  f15 := Try.func69.trans (congrArg some (by kernel_rfl))
  f20 := ⟨Try.f71.name, by decide, Try.func71.trans (congrArg some (by kernel_rfl))⟩
  f21 := ⟨Try.f72.name, by decide, Try.func72.trans (congrArg some (by kernel_rfl))⟩
  f22 := ⟨Try.f73.name, by decide, Try.func73.trans (congrArg some (by kernel_rfl))⟩
  f23 := ⟨Try.f74.name, by decide, Try.func74.trans (congrArg some (by kernel_rfl))⟩
  f24 := ⟨Try.f75.name, by decide, Try.func75.trans (congrArg some (by kernel_rfl))⟩
  f25 := ⟨Try.f76.name, by decide, Try.func76.trans (congrArg some (by kernel_rfl))⟩
  f26 := ⟨Try.f77.name, by decide, Try.func77.trans (congrArg some (by kernel_rfl))⟩
  f27 := ⟨Try.f78.name, by decide, Try.func78.trans (congrArg some (by kernel_rfl))⟩
  f28 := Try.func79.trans (congrArg some (by kernel_rfl))
  f29 := Try.func80.trans (congrArg some (by kernel_rfl))
  f46 := ⟨Try.f81.name, by decide, Try.func81.trans (congrArg some (by kernel_rfl))⟩
  f47 := Try.func82.trans (congrArg some (by kernel_rfl))
  f48 := Try.func83.trans (congrArg some (by kernel_rfl))
  f49 := ⟨Try.f84.name, by decide, Try.func84.trans (congrArg some (by kernel_rfl))⟩
  f50 := ⟨Try.f85.name, by decide, Try.func85.trans (congrArg some (by kernel_rfl))⟩
  f57 := ⟨Try.f86.name, by decide, Try.func86.trans (congrArg some (by kernel_rfl))⟩
  t0 := Try.underlying0
  a0 := Try.isAgg0
  z0 := Try.sizeOf0
  v0 := Try.zeroValue0
  t3 := Try.underlying3
  a3 := Try.isAgg3
  z3 := Try.sizeOf3
  v3 := Try.zeroValue3
  t4 := Try.underlying4
  a4 := Try.isAgg4
  z4 := Try.sizeOf4
  v4 := Try.zeroValue4
  t5 := Try.underlying5
  a5 := Try.isAgg5
  z5 := Try.sizeOf5
  v5 := Try.zeroValue5
  t9 := Try.underlying9
  a9 := Try.isAgg9
  z9 := Try.sizeOf9
  v9 := Try.zeroValue9
  t22 := Try.underlying35
  a22 := Try.isAgg35
  z22 := Try.sizeOf35
  v22 := Try.zeroValue35
  t25 := Try.underlying78
  a25 := Try.isAgg78
  z25 := Try.sizeOf78
  v25 := Try.zeroValue78
  t39 := Try.underlying82
  a39 := Try.isAgg82
  z39 := Try.sizeOf82
  v39 := Try.zeroValue82
  t45 := Try.underlying85
  a45 := Try.isAgg85
  z45 := Try.sizeOf85
  v45 := Try.zeroValue85
  t46 := Try.underlying86
  a46 := Try.isAgg86
  z46 := Try.sizeOf86
  v46 := Try.zeroValue86
  t50 := Try.underlying90
  a50 := Try.isAgg90
  z50 := Try.sizeOf90
  v50 := Try.zeroValue90
  t53 := Try.underlying93
  a53 := Try.isAgg93
  z53 := Try.sizeOf93
  v53 := Try.zeroValue93
  t55 := Try.underlying95
  a55 := Try.isAgg95
  z55 := Try.sizeOf95
  v55 := Try.zeroValue95
  t66 := Try.underlying96
  a66 := Try.isAgg96
  z66 := Try.sizeOf96
  v66 := Try.zeroValue96
  t70 := Try.underlying100
  a70 := Try.isAgg100
  z70 := Try.sizeOf100
  v70 := Try.zeroValue100
  t76 := Try.underlying102
  a76 := Try.isAgg102
  z76 := Try.sizeOf102
  v76 := Try.zeroValue102
  t77 := Try.underlying103
  a77 := Try.isAgg103
  z77 := Try.sizeOf103
  v77 := Try.zeroValue103 }
def Try.idxWin_ren : Go.Shelf.Ren := ⟨fun | 6 => 67 | n => n, fun | 22 => 35 | 23 => 31 | 25 => 67 | 3 => 3 | 0 => 0 | 4 => 4 | n => n, fun | n => n⟩
theorem Try.idxWin : Go.Proofs.SlLaysH0.n6 Try.prog Try.idxWin_ren := {
  mixed := by kernel_rfl
  f6 := ⟨Try.f67.name, by decide, Try.func67.trans (congrArg some (by kernel_rfl))⟩
  t0 := Try.underlying0
  a0 := Try.isAgg0
  z0 := Try.sizeOf0
  v0 := Try.zeroValue0
  t3 := Try.underlying3
  a3 := Try.isAgg3
  z3 := Try.sizeOf3
  v3 := Try.zeroValue3
  t4 := Try.underlying4
  a4 := Try.isAgg4
  z4 := Try.sizeOf4
  v4 := Try.zeroValue4
  t22 := Try.underlying35
  a22 := Try.isAgg35
  z22 := Try.sizeOf35
  v22 := Try.zeroValue35
  t25 := Try.underlying67
  a25 := Try.isAgg67
  z25 := Try.sizeOf67
  v25 := Try.zeroValue67 }
end Go.Proofs.Ytefodfpnedcodaa
/- Windows of moments as plain data: what a list of windows contains, normal form, what makes it: plain mathematics, no program in sight. -/
namespace Go.Proofs.Ytefodfpnedcodaa
open Go.RowKit

/-- a window: its first moment, the one behind its last -/
structure Win where
  f : Int
  t : Int
deriving DecidableEq
def Win.cs (x : Win) : List Value := [.int .i64 x.f, .int .i64 x.t]
theorem Win.len (x : Win) : x.cs.length = 2 := rfl
theorem win_one (x : Win) : ∀ u ∈ x.cs, u.oneCell' = true := by
  intro u hu
  simp [Win.cs] at hu
  rcases hu with h | h <;> subst h <;> rfl
instance : Inhabited Win := ⟨⟨0, 0⟩⟩
abbrev WinRow (w : World) (a : Option Addr) (l : List Win) : Prop := Els Win.cs 2 w a l
structure WinCells (w : World) (b o : Nat) (e : Win) : Prop where
  c0 : ∀ y : Since w, y.w.cell? ⟨b, o, none⟩ = some (.int .i64 e.f)
  c1 : ∀ y : Since w, y.w.cell? ⟨b, o + 1, none⟩ = some (.int .i64 e.t)
theorem Els.win {w : World} {a : Option Addr} {l : List Win} (h : Els Win.cs 2 w a l) {k : Nat} {x : Win} (hk : l[k]? = some x) : ∃ b off, a = some ⟨b, off, none⟩ ∧ WinCells w b (off + k * 2) x := by
  obtain ⟨b, off, ha, hb, hc⟩ := h k x hk
  refine ⟨b, off, ha, ?_⟩
  have hh : ∀ j v, x.cs[j]? = some v → ∀ y : Since w, y.w.cell? ⟨b, off + k * 2 + j, none⟩ = some v := fun j v hv => Since.cell (hc j v hv) hb
  exact ⟨hh 0 _ rfl, hh 1 _ rfl⟩
/-- a window of moments is valid -/
def vldW (x : Win) : Bool := decide (0 ≤ x.f) && decide (x.f ≤ x.t) && decide (x.t ≤ 4294944000)
theorem vldW_iff (x : Win) : vldW x = true ↔ 0 ≤ x.f ∧ x.f ≤ x.t ∧ x.t ≤ 4294944000 := by simp [vldW, and_assoc]
/-- the moment t belongs to the window -/
def inW (t : Int) (x : Win) : Bool := decide (x.f ≤ t) && decide (t < x.t)
theorem inW_iff (t : Int) (x : Win) : inW t x = true ↔ x.f ≤ t ∧ t < x.t := by simp [inW]
/-- the moment t belongs to one of the windows -/
def hasW (l : List Win) (t : Int) : Bool := l.any (inW t)
theorem hasW_iff {l : List Win} {t : Int} : hasW l t = true ↔ ∃ x ∈ l, x.f ≤ t ∧ t < x.t := by simp [hasW, List.any_eq_true, inW_iff]
theorem hasW_nil (t : Int) : hasW [] t = false := rfl
theorem hasW_cons (x : Win) (l : List Win) (t : Int) : hasW (x :: l) t = (inW t x || hasW l t) := rfl
theorem hasW_append (l m : List Win) (t : Int) : hasW (l ++ m) t = (hasW l t || hasW m t) := by simp [hasW]
theorem hasW_one (x : Win) (t : Int) : hasW [x] t = inW t x := by simp [hasW]
theorem hasW_perm {l m : List Win} (h : l.Perm m) (t : Int) : hasW l t = hasW m t := by
  rw [Bool.eq_iff_iff, hasW_iff, hasW_iff]
  constructor <;> rintro ⟨x, hx, hh⟩
  · exact ⟨x, h.mem_iff.1 hx, hh⟩
  · exact ⟨x, h.mem_iff.2 hx, hh⟩
/-- normal form -/
structure Norm (l : List Win) : Prop where
  v : ∀ x ∈ l, 0 ≤ x.f ∧ x.f < x.t ∧ x.t ≤ 4294944000
  s : l.Pairwise fun a b => a.t < b.f
theorem norm_nil : Norm [] := ⟨fun x h => (by cases h), List.Pairwise.nil⟩
theorem Norm.tail {x : Win} {l : List Win} (h : Norm (x :: l)) : Norm l := ⟨fun y hy => h.v y (by simp [hy]), (List.pairwise_cons.1 h.s).2⟩
theorem Norm.hd {x : Win} {l : List Win} (h : Norm (x :: l)) : ∀ y ∈ l, x.t < y.f := (List.pairwise_cons.1 h.s).1
theorem Norm.drop {l : List Win} (h : Norm l) (k : Nat) : Norm (l.drop k) := ⟨fun y hy => h.v y (List.mem_of_mem_drop hy), h.s.sublist (List.drop_sublist k l)⟩
theorem Norm.snoc {l : List Win} {x : Win} (h : Norm l) (hx : 0 ≤ x.f ∧ x.f < x.t ∧ x.t ≤ 4294944000) (hs : ∀ y ∈ l, y.t < x.f) : Norm (l ++ [x]) :=
  ⟨fun y hy => by
    rcases List.mem_append.1 hy with h1 | h1
    · exact h.v y h1
    · simp at h1; subst h1; exact hx, List.pairwise_append.2 ⟨h.s, by simp, fun a ha b hb => by simp at hb; subst hb; exact hs a ha⟩⟩
/-- **Lists in normal form with the same moments are equal.** -/
theorem norm_unique : ∀ {u v : List Win}, Norm u → Norm v → (∀ t, hasW u t = hasW v t) → u = v
  | [], [], _, _, _ => rfl
  | [], y :: v, _, hv, h => by
    have := h y.f
    rw [hasW_nil, hasW_cons, show inW y.f y = true from (inW_iff _ _).2 ⟨Int.le_refl _, (hv.v y (by simp)).2.1⟩] at this
    cases this
  | x :: u, [], hu, _, h => by
    have := h x.f
    rw [hasW_nil, hasW_cons, show inW x.f x = true from (inW_iff _ _).2 ⟨Int.le_refl _, (hu.v x (by simp)).2.1⟩] at this
    cases this
  | x :: u, y :: v, hu, hv, h => by
    have vx := hu.v x (by simp)
    have vy := hv.v y (by simp)
    have low : ∀ {x : Win} {u : List Win}, Norm (x :: u) → ∀ t, hasW (x :: u) t = true → x.f ≤ t := fun {x u} hu t ht => by
      obtain ⟨z, hz, h1, h2⟩ := hasW_iff.1 ht
      rcases List.mem_cons.1 hz with rfl | hz
      · exact h1
      · have := hu.hd z hz
        have := hu.v x (by simp)
        omega
    have gap : ∀ {x : Win} {u : List Win}, Norm (x :: u) → hasW (x :: u) x.t = false := fun {x u} hu => by
      cases hh : hasW (x :: u) x.t
      · rfl
      · obtain ⟨z, hz, h1, h2⟩ := hasW_iff.1 hh
        rcases List.mem_cons.1 hz with rfl | hz
        · omega
        · have := hu.hd z hz; omega
    have ins : ∀ {x : Win} {u : List Win} (t : Int), x.f ≤ t → t < x.t → hasW (x :: u) t = true := fun {x u} t h1 h2 => hasW_iff.2 ⟨x, by simp, h1, h2⟩
    have e1 : x.f = y.f := by
      have a1 := low hv x.f (by rw [← h]; exact ins _ (Int.le_refl _) vx.2.1)
      have a2 := low hu y.f (by rw [h]; exact ins _ (Int.le_refl _) vy.2.1)
      omega
    have e2 : x.t = y.t := by
      rcases Int.lt_trichotomy x.t y.t with h1 | h1 | h1
      · have := gap hu
        rw [h, ins (x := y) (u := v) x.t (by omega) h1] at this; cases this
      · exact h1
      · have := gap hv
        rw [← h, ins (x := x) (u := u) y.t (by omega) h1] at this; cases this
    have exy : x = y := by cases x; cases y; simp at e1 e2; simp [e1, e2]
    subst exy
    rw [norm_unique hu.tail hv.tail (fun t => ?_)]
    have ht := h t
    rw [hasW_cons, hasW_cons] at ht
    cases hi : inW t x
    · rw [hi, Bool.false_or, Bool.false_or] at ht; exact ht
    · obtain ⟨i1, i2⟩ := (inW_iff _ _).1 hi
      have no : ∀ {u : List Win}, Norm (x :: u) → hasW u t = false := fun {u} hu => by
        cases hh : hasW u t
        · rfl
        · obtain ⟨z, hz, h1, h2⟩ := hasW_iff.1 hh
          have := hu.hd z hz; omega
      rw [no hu, no hv]
/-- u is the normal form of the moments S -/
structure IsSet (u : List Win) (S : Int → Bool) : Prop where
  n : Norm u
  h : ∀ t, hasW u t = S t
theorem IsSet.unique {u v : List Win} {S : Int → Bool} (h : IsSet u S) (k : IsSet v S) : u = v := norm_unique h.n k.n fun t => by rw [h.h, k.h]
/-- what the joining of sorted windows keeps: 'out' is made of the windows 'done' -/
structure Mrg (done out : List Win) : Prop where
  n : Norm out
  h : ∀ t, hasW out t = hasW done t
  b : ∀ c, (∀ x ∈ done, x.f ≤ c) → ∀ v ∈ out, v.f ≤ c
theorem mrg_nil : Mrg [] [] := ⟨norm_nil, fun _ => rfl, fun _ _ v h => (by cases h)⟩
theorem Mrg.skip {done out : List Win} (h : Mrg done out) {w : Win} (he : w.f = w.t) : Mrg (done ++ [w]) out := by
  refine ⟨h.n, fun t => ?_, fun c hc v hv => h.b c (fun x hx => hc x (by simp [hx])) v hv⟩
  rw [hasW_append, hasW_one, h.h]
  have : inW t w = false := by
    cases hi : inW t w
    · rfl
    · have := (inW_iff _ _).1 hi; omega
  rw [this, Bool.or_false]
theorem Mrg.join {done o : List Win} {l w : Win} (h : Mrg done (o ++ [l])) (hw : vldW w = true) (h1 : l.f ≤ w.f) (h2 : w.f ≤ l.t) (_hs : ∀ x ∈ done, x.f ≤ w.f) : Mrg (done ++ [w]) (o ++ [⟨l.f, max l.t w.t⟩]) := by
  obtain ⟨v1, v2, v3⟩ := (vldW_iff w).1 hw
  have hl := h.n.v l (by simp)
  have hno : Norm o := ⟨fun x hx => h.n.v x (by simp [hx]), (List.pairwise_append.1 h.n.s).1⟩
  refine ⟨hno.snoc ⟨hl.1, by show l.f < max l.t w.t; omega, by show max l.t w.t ≤ _; omega⟩ fun y hy => (List.pairwise_append.1 h.n.s).2.2 y hy l (by simp), fun t => ?_, fun c hc v hv => ?_⟩
  · have := h.h t
    rw [hasW_append, hasW_one] at this ⊢
    rw [hasW_append, hasW_one, ← this, Bool.or_assoc]
    congr 1
    rw [Bool.eq_iff_iff, Bool.or_eq_true, inW_iff, inW_iff, inW_iff]
    show l.f ≤ t ∧ t < max l.t w.t ↔ _
    omega
  · rcases List.mem_append.1 hv with hv | hv
    · exact h.b c (fun x hx => hc x (by simp [hx])) v (by simp [hv])
    · simp at hv; subst hv
      exact h.b c (fun x hx => hc x (by simp [hx])) l (by simp)
theorem Mrg.new {done out : List Win} {w : Win} (h : Mrg done out) (hw : vldW w = true) (hne : w.f < w.t) (hs : ∀ v ∈ out, v.t < w.f) : Mrg (done ++ [w]) (out ++ [w]) := by
  obtain ⟨v1, v2, v3⟩ := (vldW_iff w).1 hw
  refine ⟨h.n.snoc ⟨v1, hne, v3⟩ hs, fun t => by rw [hasW_append, hasW_append, h.h], fun c hc v hv => ?_⟩
  rcases List.mem_append.1 hv with hv | hv
  · exact h.b c (fun x hx => hc x (by simp [hx])) v hv
  · simp at hv; subst hv; exact hc v (by simp)
theorem Mrg.set {done out : List Win} (h : Mrg done out) : IsSet out (hasW done) := ⟨h.n, h.h⟩
/-- the last one of a list in normal form bounds all -/
theorem norm_last {o : List Win} {l : Win} (h : Norm (o ++ [l])) {c : Int} (hc : l.t < c) : ∀ v ∈ o ++ [l], v.t < c := fun v hv => by
  rcases List.mem_append.1 hv with h1 | h1
  · have := (List.pairwise_append.1 h.s).2.2 v h1 l (by simp)
    have := h.v l (by simp)
    omega
  · simp at h1; subst h1; exact hc
/-- how many moments -/
def lenW (l : List Win) : Int := (l.map fun x => x.t - x.f).sum
theorem lenW_snoc (l : List Win) (x : Win) : lenW (l ++ [x]) = lenW l + (x.t - x.f) := by simp [lenW]
/-- some window of the list is not valid -/
def badW (l : List Win) : Bool := l.any fun x => !vldW x
theorem badW_false {l : List Win} : badW l = false ↔ ∀ x ∈ l, vldW x = true := by
  unfold badW
  rw [List.any_eq_false]
  constructor
  · intro h x hx; simpa using h x hx
  · intro h x hx; simpa using h x hx
end Go.Proofs.Ytefodfpnedcodaa
