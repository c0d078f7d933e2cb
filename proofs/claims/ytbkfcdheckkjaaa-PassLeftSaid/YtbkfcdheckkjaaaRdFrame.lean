/- The frame of the laws about rides: opening rides. -/
import Derived.Test.YtbkfcdheckkjaaaFrameR
import Derived.Test.YtbkfcdheckkjaaaFrame2
import Derived.Test.YtbkfcdheckkjaaaRdSpec
import Derived.Test.YtbkfcdheckkjaaaProg
set_option linter.all false
namespace Go.Proofs.Ytbkfcdheckkjaaa
open Go.ChangeShapes Go.WideShapes Go.ChangeAt Go.RowKit

theorem own : ownKnob Try.prog.godebug = none := by kernel_rfl
theorem laidOut : laidOutB Try.prog = true := by kernel_rfl
theorem cInt : Try.prog.cellsOf 3 = 1 := by kernel_rfl
theorem cBool : Try.prog.cellsOf 4 = 1 := by kernel_rfl
theorem cSpan : Try.prog.cellsOf 40 = 2 := by kernel_rfl
theorem cLeg : Try.prog.cellsOf 69 = 5 := by kernel_rfl
theorem cPause : Try.prog.cellsOf 85 = 4 := by kernel_rfl
theorem cRide : Try.prog.cellsOf 44 = 13 := by kernel_rfl
theorem cLegs : Try.prog.cellsOf 41 = 1 := by kernel_rfl
theorem cPauses : Try.prog.cellsOf 42 = 1 := by kernel_rfl
section
variable {H : Type} {enc : TypeId × Value → H} {w : World} {base fuel : Nat} {spare : Nat → Bool} {held : Bool} {cs : List Value} {y : DataW H × List MemPlace}
noncomputable def spanF : Array Field := Try.prog.fieldsOf 40
theorem uSpan : Try.prog.underlying 40 = some (.struct spanF) := by kernel_rfl
theorem spanL : (spanF.toList.map fun f => (f.offset, f.type)) = [(0, 3), (1, 3)] := by kernel_rfl
noncomputable def legF : Array Field := Try.prog.fieldsOf 69
theorem uLeg : Try.prog.underlying 69 = some (.struct legF) := by kernel_rfl
theorem legL : (legF.toList.map fun f => (f.offset, f.type)) = [(0, 3), (1, 40), (3, 40)] := by kernel_rfl
noncomputable def pauseF : Array Field := Try.prog.fieldsOf 85
theorem uPause : Try.prog.underlying 85 = some (.struct pauseF) := by kernel_rfl
theorem pauseL : (pauseF.toList.map fun f => (f.offset, f.type)) = [(0, 40), (2, 40)] := by kernel_rfl
noncomputable def rideF : Array Field := Try.prog.fieldsOf 44
theorem uRide : Try.prog.underlying 44 = some (.struct rideF) := by kernel_rfl
theorem rideFL : (rideF.toList.map fun f => (f.offset, f.type)) = [(0, 3), (1, 3), (2, 40), (4, 40), (6, 4), (7, 41), (8, 42), (9, 3), (10, 3), (11, 3), (12, 3)] := by kernel_rfl
theorem int1 {c : Value} (h : DataW.trod enc Try.prog w base spare held fuel 3 [c] = some y) : ∃ n : Int, c = .int .i64 n ∧ I64 n := by
  obtain ⟨k, hcs, _, hwf⟩ := DataW.trod_int Try.underlying3 h
  simp at hcs
  exact ⟨k, hcs, wf_i64 hwf⟩
theorem span1 {c d : Value} (h : DataW.trod enc Try.prog w base spare held fuel 40 [c, d] = some y) : ∃ m n : Int, c = .int .i64 m ∧ d = .int .i64 n ∧ I64 m ∧ I64 n := by
  obtain ⟨_, hf⟩ := trod_fields uSpan spanL h
  obtain ⟨_, _, h0⟩ := hf 0 _ rfl
  obtain ⟨_, _, h1⟩ := hf 1 _ rfl
  simp only [cInt] at h0 h1
  obtain ⟨m, rfl, hm⟩ := int1 h0
  obtain ⟨n, rfl, hn⟩ := int1 h1
  exact ⟨m, n, rfl, rfl, hm, hn⟩
def Leg.I (x : Leg) : Prop := I64 x.b ∧ I64 x.f0 ∧ I64 x.f1 ∧ I64 x.t0 ∧ I64 x.t1
def Pse.I (x : Pse) : Prop := I64 x.f0 ∧ I64 x.f1 ∧ I64 x.t0 ∧ I64 x.t1
def Ride.I (x : Ride) : Prop := I64 x.id ∧ I64 x.rd ∧ I64 x.s0 ∧ I64 x.s1 ∧ I64 x.e0 ∧ I64 x.e1 ∧ I64 x.fw ∧ I64 x.fp ∧ I64 x.wh ∧ I64 x.pl ∧ (∀ l ∈ x.legs, l.I) ∧ (∀ p ∈ x.pauses, p.I)
set_option maxRecDepth 20000 in
theorem leg1 (h : DataW.trod enc Try.prog w base spare held fuel 69 cs = some y) : ∃ x : Leg, cs = x.cs ∧ x.I := by
  obtain ⟨hl, hf⟩ := trod_fields uLeg legL h
  rw [cLeg] at hl
  match cs, hl with
  | [c0, c1, c2, c3, c4], _ =>
    obtain ⟨_, _, h0⟩ := hf 0 _ rfl
    obtain ⟨_, _, h1⟩ := hf 1 _ rfl
    obtain ⟨_, _, h2⟩ := hf 2 _ rfl
    simp only [cInt, cSpan] at h0 h1 h2
    obtain ⟨b, rfl, i0⟩ := int1 h0
    obtain ⟨f0, f1, rfl, rfl, i1, i2⟩ := span1 h1
    obtain ⟨t0, t1, rfl, rfl, i3, i4⟩ := span1 h2
    exact ⟨⟨b, f0, f1, t0, t1⟩, rfl, i0, i1, i2, i3, i4⟩
set_option maxRecDepth 20000 in
theorem pause1 (h : DataW.trod enc Try.prog w base spare held fuel 85 cs = some y) : ∃ x : Pse, cs = x.cs ∧ x.I := by
  obtain ⟨hl, hf⟩ := trod_fields uPause pauseL h
  rw [cPause] at hl
  match cs, hl with
  | [c1, c2, c3, c4], _ =>
    obtain ⟨_, _, h1⟩ := hf 0 _ rfl
    obtain ⟨_, _, h2⟩ := hf 1 _ rfl
    simp only [cSpan] at h1 h2
    obtain ⟨f0, f1, rfl, rfl, i1, i2⟩ := span1 h1
    obtain ⟨t0, t1, rfl, rfl, i3, i4⟩ := span1 h2
    exact ⟨⟨f0, f1, t0, t1⟩, rfl, i1, i2, i3, i4⟩
/-- a ride that came in -/
def RideIn (w : World) (x : Ride) : Prop := x.At w ∧ x.I ∧ (x.la = none → x.lc = 0) ∧ (x.pa = none → x.pc = 0) ∧ x.legs.length ≤ x.lc ∧ x.lc ≤ 9223372036854775807 ∧ x.pauses.length ≤ x.pc ∧ x.pc ≤ 9223372036854775807
set_option maxRecDepth 20000 in
theorem ride1 (h : DataW.trod enc Try.prog w base spare held fuel 44 cs = some y) : ∃ x : Ride, cs = x.cs ∧ RideIn w x := by
  obtain ⟨hl, hf⟩ := trod_fields uRide rideFL h
  rw [cRide] at hl
  match cs, hl with
  | [c0, c1, c2, c3, c4, c5, c6, c7, c8, c9, c10, c11, c12], _ =>
    obtain ⟨_, _, h0⟩ := hf 0 _ rfl
    obtain ⟨_, _, h1⟩ := hf 1 _ rfl
    obtain ⟨_, _, h2⟩ := hf 2 _ rfl
    obtain ⟨_, _, h3⟩ := hf 3 _ rfl
    obtain ⟨_, _, h4⟩ := hf 4 _ rfl
    obtain ⟨_, _, h5⟩ := hf 5 _ rfl
    obtain ⟨_, _, h6⟩ := hf 6 _ rfl
    obtain ⟨_, _, h7⟩ := hf 7 _ rfl
    obtain ⟨_, _, h8⟩ := hf 8 _ rfl
    obtain ⟨_, _, h9⟩ := hf 9 _ rfl
    obtain ⟨_, _, h10⟩ := hf 10 _ rfl
    simp only [cInt, cSpan, cBool, cLegs, cPauses] at h0 h1 h2 h3 h4 h5 h6 h7 h8 h9 h10
    obtain ⟨id, rfl, i0⟩ := int1 h0
    obtain ⟨rd, rfl, i1⟩ := int1 h1
    obtain ⟨s0, s1, rfl, rfl, i2, i3⟩ := span1 h2
    obtain ⟨e0, e1, rfl, rfl, i4, i5⟩ := span1 h3
    obtain ⟨op, ho, _⟩ := DataW.trod_bool Try.underlying4 h4
    have ho : c6 = .bool op := by simpa using ho
    subst ho
    obtain ⟨la, legs, lc, hlc, l1, l2, l3, l4, l5⟩ := open_sliceG (encA := Leg.cs) (Q := Leg.I) Try.underlying41 cLeg (by decide) Leg.len (fun _ _ _ h => leg1 h) h5
    subst hlc
    obtain ⟨pa, pauses, pc, hpc, p1, p2, p3, p4, p5⟩ := open_sliceG (encA := Pse.cs) (Q := Pse.I) Try.underlying42 cPause (by decide) Pse.len (fun _ _ _ h => pause1 h) h6
    subst hpc
    obtain ⟨fw, rfl, i6⟩ := int1 h7
    obtain ⟨fp, rfl, i7⟩ := int1 h8
    obtain ⟨wh, rfl, i8⟩ := int1 h9
    obtain ⟨pl, rfl, i9⟩ := int1 h10
    exact ⟨⟨id, rd, s0, s1, e0, e1, op, la, legs, lc, pa, pauses, pc, fw, fp, wh, pl⟩, rfl, ⟨l4, p4, by show legs.length ≤ _; omega, by show pauses.length ≤ _; omega⟩, ⟨i0, i1, i2, i3, i4, i5, i6, i7, i8, i9, l5, p5⟩, l3, p3, l1, l2, p1, p2⟩
end
section
variable {H : Type} {enc : TypeId × Value → H} {w : World} {b0 : Nat} {r : Reach} {held : Bool} {v : Value} {d : DataW H} {p : List MemPlace}
set_option maxRecDepth 20000 in
theorem open_rides (hv : Value.okWide Try.prog w r b0 27 v) (h : DataW.Trod enc Try.prog w 0 (fun _ => true) held 27 v d p) :
    ∃ (a : Option Addr) (l : List Ride) (cap : Nat), v = .slice a l.length cap ∧ l.length ≤ cap ∧ cap ≤ 9223372036854775807 ∧ (a = none → cap = 0) ∧ RideRow w a l ∧ ∀ x ∈ l, RideIn w x := by
  obtain ⟨a0, n0, c0, rfl⟩ := okWide_slice Try.underlying27 hv
  obtain ⟨fuel, hf⟩ := h
  obtain ⟨a, l, cap, hs, h1, h2, h3, h4, h5⟩ := open_sliceG (encA := Ride.cs) (Q := RideIn w) Try.underlying27 cRide (by decide) Ride.len (fun _ _ _ h => ride1 h) (c := .slice a0 n0 c0) hf
  exact ⟨a, l, cap, hs, h1, h2, h3, ⟨h4, fun x hx => (h5 x hx).1⟩, h5⟩
set_option maxRecDepth 20000 in
theorem open_ride (hv : Value.okWide Try.prog w r b0 44 v) (h : DataW.Trod enc Try.prog w 0 (fun _ => true) held 44 v d p) :
    ∃ x : Ride, v = x.ag ∧ RideIn w x := by
  obtain ⟨cs, rfl, hsz⟩ := okWide_struct uRide hv
  obtain ⟨l⟩ := cs
  obtain ⟨fuel, hf⟩ := h
  obtain ⟨x, hx, hi⟩ := ride1 (show DataW.trod enc Try.prog w 0 (fun _ => true) held fuel 44 l = some (d, p) from hf)
  subst hx
  exact ⟨x, rfl, hi⟩
end
end Go.Proofs.Ytbkfcdheckkjaaa
