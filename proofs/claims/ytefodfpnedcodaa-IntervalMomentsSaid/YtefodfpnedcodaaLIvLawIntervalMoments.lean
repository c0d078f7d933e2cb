/- The law IntervalMoments, walked. -/
import Derived.Test.YtefodfpnedcodaaIvMe
set_option linter.all false
namespace Go.Proofs.Ytefodfpnedcodaa
open Go.RowKit

/-- what the law computes: the moment is certain; it is in a pause; in none -/
def momS (r : Ride) (t : Int) : Bool := decide (r.s1 ≤ t) && decide (t < r.e0)
def pB (l : List Pse) (t : Int) : Bool := l.any fun p => decide (p.f1 ≤ t) && decide (t < p.t0)
def rB (l : List Pse) (t : Int) : Bool := l.all fun p => decide (t < p.f0) || decide (p.t1 ≤ t)
theorem pB_snoc (l : List Pse) (e : Pse) (t : Int) : pB (l ++ [e]) t = (pB l t || (decide (e.f1 ≤ t) && decide (t < e.t0))) := by simp [pB]
theorem rB_snoc (l : List Pse) (e : Pse) (t : Int) : rB (l ++ [e]) t = (rB l t && (decide (t < e.f0) || decide (e.t1 ≤ t))) := by simp [rB]
theorem mom_sure {r : Ride} (he : ivE r = 0) (t : Int) : inW t (sureW r) = momS r t := by
  rw [show sureW r = ⟨r.s1, max r.s1 r.e0⟩ from if_pos he, Bool.eq_iff_iff, inW_iff]
  unfold momS
  rw [Bool.and_eq_true, decide_eq_true_eq, decide_eq_true_eq]
  show r.s1 ≤ t ∧ t < max r.s1 r.e0 ↔ _
  omega
theorem mom_pau {r : Ride} (he : ivE r = 0) (t : Int) : pauS r t = (momS r t && pB r.pauses t) := by
  unfold pauS
  rw [mom_sure he, hasW_map]
  congr 1
  unfold pB
  congr 1
  funext p
  rw [Bool.eq_iff_iff, inW_iff, Bool.and_eq_true, decide_eq_true_eq, decide_eq_true_eq]
  show p.f1 ≤ t ∧ t < max p.f1 p.t0 ↔ _
  omega
theorem mom_rid {r : Ride} (he : ivE r = 0) (t : Int) : ridS r t = (momS r t && rB r.pauses t) := by
  have hr := rideOk_of he
  unfold ridS
  rw [mom_sure he, hasW_map]
  congr 1
  unfold rB
  rw [Bool.eq_iff_iff, Bool.not_eq_true', List.any_eq_false, List.all_eq_true]
  constructor
  · intro h p hp
    have := h p hp
    have hk := hr.p p hp
    rw [Bool.not_eq_true, ← Bool.not_eq_true, inW_iff] at this
    have h2 : ¬ (p.f0 ≤ t ∧ t < max p.f0 p.t1) := this
    rw [Bool.or_eq_true, decide_eq_true_eq, decide_eq_true_eq]
    omega
  · intro h p hp
    have := h p hp
    have hk := hr.p p hp
    rw [Bool.or_eq_true, decide_eq_true_eq, decide_eq_true_eq] at this
    rw [inW_iff]
    show ¬ (p.f0 ≤ t ∧ t < max p.f0 p.t1)
    omega
set_option maxRecDepth 100000 in
set_option maxHeartbeats 8000000 in
theorem intervalMoments_calls (w : World) (x : Since w) (r : Ride) (t : Int) (h : r.At w) :
    Calls Try.prog 7 #[.agg #[.int .i64 r.id, .int .i64 r.rd, .int .i64 r.s0, .int .i64 r.s1, .int .i64 r.e0, .int .i64 r.e1, .bool r.op, .slice r.la r.legs.length r.lc, .slice r.pa r.pauses.length r.pc, .int .i64 r.fw, .int .i64 r.fp, .int .i64 r.wh, .int .i64 r.pl], .int .i64 t] x.w fun o w' => o = .returned (.bool true) ∧ ∃ y : Since w, w' = y.w := by
  have H := Lib.hid h
  clear h
  have Hf := Lib.hid (fun (w : World) (x : Since w) (h : r.At w) => few23_calls w x r h)
  have Hk := Lib.hid (fun (w : World) (x : Since w) (h : r.At w) => rcheck23_calls w x r h)
  have Hfew := Lib.hid (show few23 r = (decide (r.legs.length ≤ 100) && decide (r.pauses.length ≤ 100)) from rfl)
  cases hfw : few23 r with
  | false =>
    rw [hfw] at Hf
    clear hfw Hk
    go_enter Try.func7, Try.ntmps7
    go_upto_region 1 with fail
    have hb0_0 : ∀ y : Since (x.w.alloc (.cells #[.int .i64 r.id, .int .i64 r.rd, .int .i64 r.s0, .int .i64 r.s1, .int .i64 r.e0, .int .i64 r.e1, .bool r.op, .slice r.la r.legs.length r.lc, .slice r.pa r.pauses.length r.pc, .int .i64 r.fw, .int .i64 r.fp, .int .i64 r.wh, .int .i64 r.pl] 27)), y.w.cell? ⟨x.w.heap.size, 0, none⟩ = some (.int .i64 r.id) := fun y => Since.cell (by simp [go_sem]) (by first | (simp; done) | (simp; omega)) y
    have hb0_1 : ∀ y : Since (x.w.alloc (.cells #[.int .i64 r.id, .int .i64 r.rd, .int .i64 r.s0, .int .i64 r.s1, .int .i64 r.e0, .int .i64 r.e1, .bool r.op, .slice r.la r.legs.length r.lc, .slice r.pa r.pauses.length r.pc, .int .i64 r.fw, .int .i64 r.fp, .int .i64 r.wh, .int .i64 r.pl] 27)), y.w.cell? ⟨x.w.heap.size, 1, none⟩ = some (.int .i64 r.rd) := fun y => Since.cell (by simp [go_sem]) (by first | (simp; done) | (simp; omega)) y
    have hb0_2 : ∀ y : Since (x.w.alloc (.cells #[.int .i64 r.id, .int .i64 r.rd, .int .i64 r.s0, .int .i64 r.s1, .int .i64 r.e0, .int .i64 r.e1, .bool r.op, .slice r.la r.legs.length r.lc, .slice r.pa r.pauses.length r.pc, .int .i64 r.fw, .int .i64 r.fp, .int .i64 r.wh, .int .i64 r.pl] 27)), y.w.cell? ⟨x.w.heap.size, 2, none⟩ = some (.int .i64 r.s0) := fun y => Since.cell (by simp [go_sem]) (by first | (simp; done) | (simp; omega)) y
    have hb0_3 : ∀ y : Since (x.w.alloc (.cells #[.int .i64 r.id, .int .i64 r.rd, .int .i64 r.s0, .int .i64 r.s1, .int .i64 r.e0, .int .i64 r.e1, .bool r.op, .slice r.la r.legs.length r.lc, .slice r.pa r.pauses.length r.pc, .int .i64 r.fw, .int .i64 r.fp, .int .i64 r.wh, .int .i64 r.pl] 27)), y.w.cell? ⟨x.w.heap.size, 3, none⟩ = some (.int .i64 r.s1) := fun y => Since.cell (by simp [go_sem]) (by first | (simp; done) | (simp; omega)) y
    have hb0_4 : ∀ y : Since (x.w.alloc (.cells #[.int .i64 r.id, .int .i64 r.rd, .int .i64 r.s0, .int .i64 r.s1, .int .i64 r.e0, .int .i64 r.e1, .bool r.op, .slice r.la r.legs.length r.lc, .slice r.pa r.pauses.length r.pc, .int .i64 r.fw, .int .i64 r.fp, .int .i64 r.wh, .int .i64 r.pl] 27)), y.w.cell? ⟨x.w.heap.size, 4, none⟩ = some (.int .i64 r.e0) := fun y => Since.cell (by simp [go_sem]) (by first | (simp; done) | (simp; omega)) y
    have hb0_5 : ∀ y : Since (x.w.alloc (.cells #[.int .i64 r.id, .int .i64 r.rd, .int .i64 r.s0, .int .i64 r.s1, .int .i64 r.e0, .int .i64 r.e1, .bool r.op, .slice r.la r.legs.length r.lc, .slice r.pa r.pauses.length r.pc, .int .i64 r.fw, .int .i64 r.fp, .int .i64 r.wh, .int .i64 r.pl] 27)), y.w.cell? ⟨x.w.heap.size, 5, none⟩ = some (.int .i64 r.e1) := fun y => Since.cell (by simp [go_sem]) (by first | (simp; done) | (simp; omega)) y
    have hb0_6 : ∀ y : Since (x.w.alloc (.cells #[.int .i64 r.id, .int .i64 r.rd, .int .i64 r.s0, .int .i64 r.s1, .int .i64 r.e0, .int .i64 r.e1, .bool r.op, .slice r.la r.legs.length r.lc, .slice r.pa r.pauses.length r.pc, .int .i64 r.fw, .int .i64 r.fp, .int .i64 r.wh, .int .i64 r.pl] 27)), y.w.cell? ⟨x.w.heap.size, 6, none⟩ = some (.bool r.op) := fun y => Since.cell (by simp [go_sem]) (by first | (simp; done) | (simp; omega)) y
    have hb0_7 : ∀ y : Since (x.w.alloc (.cells #[.int .i64 r.id, .int .i64 r.rd, .int .i64 r.s0, .int .i64 r.s1, .int .i64 r.e0, .int .i64 r.e1, .bool r.op, .slice r.la r.legs.length r.lc, .slice r.pa r.pauses.length r.pc, .int .i64 r.fw, .int .i64 r.fp, .int .i64 r.wh, .int .i64 r.pl] 27)), y.w.cell? ⟨x.w.heap.size, 7, none⟩ = some (.slice r.la r.legs.length r.lc) := fun y => Since.cell (by simp [go_sem]) (by first | (simp; done) | (simp; omega)) y
    have hb0_8 : ∀ y : Since (x.w.alloc (.cells #[.int .i64 r.id, .int .i64 r.rd, .int .i64 r.s0, .int .i64 r.s1, .int .i64 r.e0, .int .i64 r.e1, .bool r.op, .slice r.la r.legs.length r.lc, .slice r.pa r.pauses.length r.pc, .int .i64 r.fw, .int .i64 r.fp, .int .i64 r.wh, .int .i64 r.pl] 27)), y.w.cell? ⟨x.w.heap.size, 8, none⟩ = some (.slice r.pa r.pauses.length r.pc) := fun y => Since.cell (by simp [go_sem]) (by first | (simp; done) | (simp; omega)) y
    have hb0_9 : ∀ y : Since (x.w.alloc (.cells #[.int .i64 r.id, .int .i64 r.rd, .int .i64 r.s0, .int .i64 r.s1, .int .i64 r.e0, .int .i64 r.e1, .bool r.op, .slice r.la r.legs.length r.lc, .slice r.pa r.pauses.length r.pc, .int .i64 r.fw, .int .i64 r.fp, .int .i64 r.wh, .int .i64 r.pl] 27)), y.w.cell? ⟨x.w.heap.size, 9, none⟩ = some (.int .i64 r.fw) := fun y => Since.cell (by simp [go_sem]) (by first | (simp; done) | (simp; omega)) y
    have hb0_10 : ∀ y : Since (x.w.alloc (.cells #[.int .i64 r.id, .int .i64 r.rd, .int .i64 r.s0, .int .i64 r.s1, .int .i64 r.e0, .int .i64 r.e1, .bool r.op, .slice r.la r.legs.length r.lc, .slice r.pa r.pauses.length r.pc, .int .i64 r.fw, .int .i64 r.fp, .int .i64 r.wh, .int .i64 r.pl] 27)), y.w.cell? ⟨x.w.heap.size, 10, none⟩ = some (.int .i64 r.fp) := fun y => Since.cell (by simp [go_sem]) (by first | (simp; done) | (simp; omega)) y
    have hb0_11 : ∀ y : Since (x.w.alloc (.cells #[.int .i64 r.id, .int .i64 r.rd, .int .i64 r.s0, .int .i64 r.s1, .int .i64 r.e0, .int .i64 r.e1, .bool r.op, .slice r.la r.legs.length r.lc, .slice r.pa r.pauses.length r.pc, .int .i64 r.fw, .int .i64 r.fp, .int .i64 r.wh, .int .i64 r.pl] 27)), y.w.cell? ⟨x.w.heap.size, 11, none⟩ = some (.int .i64 r.wh) := fun y => Since.cell (by simp [go_sem]) (by first | (simp; done) | (simp; omega)) y
    have hb0_12 : ∀ y : Since (x.w.alloc (.cells #[.int .i64 r.id, .int .i64 r.rd, .int .i64 r.s0, .int .i64 r.s1, .int .i64 r.e0, .int .i64 r.e1, .bool r.op, .slice r.la r.legs.length r.lc, .slice r.pa r.pauses.length r.pc, .int .i64 r.fw, .int .i64 r.fp, .int .i64 r.wh, .int .i64 r.pl] 27)), y.w.cell? ⟨x.w.heap.size, 12, none⟩ = some (.int .i64 r.pl) := fun y => Since.cell (by simp [go_sem]) (by first | (simp; done) | (simp; omega)) y
    have hf0 : ∀ (y : Since (x.w.alloc (.cells #[.int .i64 r.id, .int .i64 r.rd, .int .i64 r.s0, .int .i64 r.s1, .int .i64 r.e0, .int .i64 r.e1, .bool r.op, .slice r.la r.legs.length r.lc, .slice r.pa r.pauses.length r.pc, .int .i64 r.fw, .int .i64 r.fp, .int .i64 r.wh, .int .i64 r.pl] 27))) (o : Nat), y.w.frozen? ⟨x.w.heap.size, o, none⟩ = false := fun y o => Since.free (by simp [go_sem]) (by first | (simp; done) | (simp; omega)) y
    have hWup : ∃ z : Since w, (x.w.alloc (.cells #[.int .i64 r.id, .int .i64 r.rd, .int .i64 r.s0, .int .i64 r.s1, .int .i64 r.e0, .int .i64 r.e1, .bool r.op, .slice r.la r.legs.length r.lc, .slice r.pa r.pauses.length r.pc, .int .i64 r.fw, .int .i64 r.fp, .int .i64 r.wh, .int .i64 r.pl] 27)) = z.w := x.alloc _
    obtain ⟨y0, hy0⟩ := Since.refl (x.w.alloc (.cells #[.int .i64 r.id, .int .i64 r.rd, .int .i64 r.s0, .int .i64 r.s1, .int .i64 r.e0, .int .i64 r.e1, .bool r.op, .slice r.la r.legs.length r.lc, .slice r.pa r.pauses.length r.pc, .int .i64 r.fw, .int .i64 r.fp, .int .i64 r.wh, .int .i64 r.pl] 27))
    have Hbx := Lib.hid (And.intro x.b.size (show x.w.heap.size + 1 = (x.w.alloc (.cells #[.int .i64 r.id, .int .i64 r.rd, .int .i64 r.s0, .int .i64 r.s1, .int .i64 r.e0, .int .i64 r.e1, .bool r.op, .slice r.la r.legs.length r.lc, .slice r.pa r.pauses.length r.pc, .int .i64 r.fw, .int .i64 r.fp, .int .i64 r.wh, .int .i64 r.pl] 27)).heap.size from by simp))
    generalize hW : (x.w.alloc (.cells #[.int .i64 r.id, .int .i64 r.rd, .int .i64 r.s0, .int .i64 r.s1, .int .i64 r.e0, .int .i64 r.e1, .bool r.op, .slice r.la r.legs.length r.lc, .slice r.pa r.pauses.length r.pc, .int .i64 r.fw, .int .i64 r.fp, .int .i64 r.wh, .int .i64 r.pl] 27)) = W at *
    clear hW
    generalize x.w.heap.size = bx at *
    have Hup := Lib.hid (Since.up hWup)
    rw [hy0]
    clear hy0
    replace H := Lib.hid (H.out.to hWup)
    clear hWup
    go_wp2_with (first | (go_at_call 10; ((with_reducible refine (Hf.out W y0 H.out).mono ?_); rintro _ _ ⟨rfl, y1, rfl⟩)) | (go_at_call 11; ((with_reducible refine (awake_calls W y1).mono ?_); rintro _ _ ⟨rfl, yz, rfl⟩)))
    go_ret
    exact ⟨rfl, Hup.out yz⟩
  | true =>
    rw [hfw] at Hf
    have hpl : r.pauses.length ≤ 100 := by
      rw [Hfew.out, Bool.and_eq_true, decide_eq_true_eq, decide_eq_true_eq] at hfw; exact hfw.2
    have hll : r.legs.length ≤ 100 := by
      rw [Hfew.out, Bool.and_eq_true, decide_eq_true_eq, decide_eq_true_eq] at hfw; exact hfw.1
    clear hfw Hfew
    by_cases he : ivE r = 0
    case neg =>
      have hez : (ivE r != 0) = true := by simpa using he
      clear he
      go_enter Try.func7, Try.ntmps7
      go_upto_region 1 with fail
      have hb0_0 : ∀ y : Since (x.w.alloc (.cells #[.int .i64 r.id, .int .i64 r.rd, .int .i64 r.s0, .int .i64 r.s1, .int .i64 r.e0, .int .i64 r.e1, .bool r.op, .slice r.la r.legs.length r.lc, .slice r.pa r.pauses.length r.pc, .int .i64 r.fw, .int .i64 r.fp, .int .i64 r.wh, .int .i64 r.pl] 27)), y.w.cell? ⟨x.w.heap.size, 0, none⟩ = some (.int .i64 r.id) := fun y => Since.cell (by simp [go_sem]) (by first | (simp; done) | (simp; omega)) y
      have hb0_1 : ∀ y : Since (x.w.alloc (.cells #[.int .i64 r.id, .int .i64 r.rd, .int .i64 r.s0, .int .i64 r.s1, .int .i64 r.e0, .int .i64 r.e1, .bool r.op, .slice r.la r.legs.length r.lc, .slice r.pa r.pauses.length r.pc, .int .i64 r.fw, .int .i64 r.fp, .int .i64 r.wh, .int .i64 r.pl] 27)), y.w.cell? ⟨x.w.heap.size, 1, none⟩ = some (.int .i64 r.rd) := fun y => Since.cell (by simp [go_sem]) (by first | (simp; done) | (simp; omega)) y
      have hb0_2 : ∀ y : Since (x.w.alloc (.cells #[.int .i64 r.id, .int .i64 r.rd, .int .i64 r.s0, .int .i64 r.s1, .int .i64 r.e0, .int .i64 r.e1, .bool r.op, .slice r.la r.legs.length r.lc, .slice r.pa r.pauses.length r.pc, .int .i64 r.fw, .int .i64 r.fp, .int .i64 r.wh, .int .i64 r.pl] 27)), y.w.cell? ⟨x.w.heap.size, 2, none⟩ = some (.int .i64 r.s0) := fun y => Since.cell (by simp [go_sem]) (by first | (simp; done) | (simp; omega)) y
      have hb0_3 : ∀ y : Since (x.w.alloc (.cells #[.int .i64 r.id, .int .i64 r.rd, .int .i64 r.s0, .int .i64 r.s1, .int .i64 r.e0, .int .i64 r.e1, .bool r.op, .slice r.la r.legs.length r.lc, .slice r.pa r.pauses.length r.pc, .int .i64 r.fw, .int .i64 r.fp, .int .i64 r.wh, .int .i64 r.pl] 27)), y.w.cell? ⟨x.w.heap.size, 3, none⟩ = some (.int .i64 r.s1) := fun y => Since.cell (by simp [go_sem]) (by first | (simp; done) | (simp; omega)) y
      have hb0_4 : ∀ y : Since (x.w.alloc (.cells #[.int .i64 r.id, .int .i64 r.rd, .int .i64 r.s0, .int .i64 r.s1, .int .i64 r.e0, .int .i64 r.e1, .bool r.op, .slice r.la r.legs.length r.lc, .slice r.pa r.pauses.length r.pc, .int .i64 r.fw, .int .i64 r.fp, .int .i64 r.wh, .int .i64 r.pl] 27)), y.w.cell? ⟨x.w.heap.size, 4, none⟩ = some (.int .i64 r.e0) := fun y => Since.cell (by simp [go_sem]) (by first | (simp; done) | (simp; omega)) y
      have hb0_5 : ∀ y : Since (x.w.alloc (.cells #[.int .i64 r.id, .int .i64 r.rd, .int .i64 r.s0, .int .i64 r.s1, .int .i64 r.e0, .int .i64 r.e1, .bool r.op, .slice r.la r.legs.length r.lc, .slice r.pa r.pauses.length r.pc, .int .i64 r.fw, .int .i64 r.fp, .int .i64 r.wh, .int .i64 r.pl] 27)), y.w.cell? ⟨x.w.heap.size, 5, none⟩ = some (.int .i64 r.e1) := fun y => Since.cell (by simp [go_sem]) (by first | (simp; done) | (simp; omega)) y
      have hb0_6 : ∀ y : Since (x.w.alloc (.cells #[.int .i64 r.id, .int .i64 r.rd, .int .i64 r.s0, .int .i64 r.s1, .int .i64 r.e0, .int .i64 r.e1, .bool r.op, .slice r.la r.legs.length r.lc, .slice r.pa r.pauses.length r.pc, .int .i64 r.fw, .int .i64 r.fp, .int .i64 r.wh, .int .i64 r.pl] 27)), y.w.cell? ⟨x.w.heap.size, 6, none⟩ = some (.bool r.op) := fun y => Since.cell (by simp [go_sem]) (by first | (simp; done) | (simp; omega)) y
      have hb0_7 : ∀ y : Since (x.w.alloc (.cells #[.int .i64 r.id, .int .i64 r.rd, .int .i64 r.s0, .int .i64 r.s1, .int .i64 r.e0, .int .i64 r.e1, .bool r.op, .slice r.la r.legs.length r.lc, .slice r.pa r.pauses.length r.pc, .int .i64 r.fw, .int .i64 r.fp, .int .i64 r.wh, .int .i64 r.pl] 27)), y.w.cell? ⟨x.w.heap.size, 7, none⟩ = some (.slice r.la r.legs.length r.lc) := fun y => Since.cell (by simp [go_sem]) (by first | (simp; done) | (simp; omega)) y
      have hb0_8 : ∀ y : Since (x.w.alloc (.cells #[.int .i64 r.id, .int .i64 r.rd, .int .i64 r.s0, .int .i64 r.s1, .int .i64 r.e0, .int .i64 r.e1, .bool r.op, .slice r.la r.legs.length r.lc, .slice r.pa r.pauses.length r.pc, .int .i64 r.fw, .int .i64 r.fp, .int .i64 r.wh, .int .i64 r.pl] 27)), y.w.cell? ⟨x.w.heap.size, 8, none⟩ = some (.slice r.pa r.pauses.length r.pc) := fun y => Since.cell (by simp [go_sem]) (by first | (simp; done) | (simp; omega)) y
      have hb0_9 : ∀ y : Since (x.w.alloc (.cells #[.int .i64 r.id, .int .i64 r.rd, .int .i64 r.s0, .int .i64 r.s1, .int .i64 r.e0, .int .i64 r.e1, .bool r.op, .slice r.la r.legs.length r.lc, .slice r.pa r.pauses.length r.pc, .int .i64 r.fw, .int .i64 r.fp, .int .i64 r.wh, .int .i64 r.pl] 27)), y.w.cell? ⟨x.w.heap.size, 9, none⟩ = some (.int .i64 r.fw) := fun y => Since.cell (by simp [go_sem]) (by first | (simp; done) | (simp; omega)) y
      have hb0_10 : ∀ y : Since (x.w.alloc (.cells #[.int .i64 r.id, .int .i64 r.rd, .int .i64 r.s0, .int .i64 r.s1, .int .i64 r.e0, .int .i64 r.e1, .bool r.op, .slice r.la r.legs.length r.lc, .slice r.pa r.pauses.length r.pc, .int .i64 r.fw, .int .i64 r.fp, .int .i64 r.wh, .int .i64 r.pl] 27)), y.w.cell? ⟨x.w.heap.size, 10, none⟩ = some (.int .i64 r.fp) := fun y => Since.cell (by simp [go_sem]) (by first | (simp; done) | (simp; omega)) y
      have hb0_11 : ∀ y : Since (x.w.alloc (.cells #[.int .i64 r.id, .int .i64 r.rd, .int .i64 r.s0, .int .i64 r.s1, .int .i64 r.e0, .int .i64 r.e1, .bool r.op, .slice r.la r.legs.length r.lc, .slice r.pa r.pauses.length r.pc, .int .i64 r.fw, .int .i64 r.fp, .int .i64 r.wh, .int .i64 r.pl] 27)), y.w.cell? ⟨x.w.heap.size, 11, none⟩ = some (.int .i64 r.wh) := fun y => Since.cell (by simp [go_sem]) (by first | (simp; done) | (simp; omega)) y
      have hb0_12 : ∀ y : Since (x.w.alloc (.cells #[.int .i64 r.id, .int .i64 r.rd, .int .i64 r.s0, .int .i64 r.s1, .int .i64 r.e0, .int .i64 r.e1, .bool r.op, .slice r.la r.legs.length r.lc, .slice r.pa r.pauses.length r.pc, .int .i64 r.fw, .int .i64 r.fp, .int .i64 r.wh, .int .i64 r.pl] 27)), y.w.cell? ⟨x.w.heap.size, 12, none⟩ = some (.int .i64 r.pl) := fun y => Since.cell (by simp [go_sem]) (by first | (simp; done) | (simp; omega)) y
      have hf0 : ∀ (y : Since (x.w.alloc (.cells #[.int .i64 r.id, .int .i64 r.rd, .int .i64 r.s0, .int .i64 r.s1, .int .i64 r.e0, .int .i64 r.e1, .bool r.op, .slice r.la r.legs.length r.lc, .slice r.pa r.pauses.length r.pc, .int .i64 r.fw, .int .i64 r.fp, .int .i64 r.wh, .int .i64 r.pl] 27))) (o : Nat), y.w.frozen? ⟨x.w.heap.size, o, none⟩ = false := fun y o => Since.free (by simp [go_sem]) (by first | (simp; done) | (simp; omega)) y
      have hWup : ∃ z : Since w, (x.w.alloc (.cells #[.int .i64 r.id, .int .i64 r.rd, .int .i64 r.s0, .int .i64 r.s1, .int .i64 r.e0, .int .i64 r.e1, .bool r.op, .slice r.la r.legs.length r.lc, .slice r.pa r.pauses.length r.pc, .int .i64 r.fw, .int .i64 r.fp, .int .i64 r.wh, .int .i64 r.pl] 27)) = z.w := x.alloc _
      obtain ⟨y0, hy0⟩ := Since.refl (x.w.alloc (.cells #[.int .i64 r.id, .int .i64 r.rd, .int .i64 r.s0, .int .i64 r.s1, .int .i64 r.e0, .int .i64 r.e1, .bool r.op, .slice r.la r.legs.length r.lc, .slice r.pa r.pauses.length r.pc, .int .i64 r.fw, .int .i64 r.fp, .int .i64 r.wh, .int .i64 r.pl] 27))
      have Hbx := Lib.hid (And.intro x.b.size (show x.w.heap.size + 1 = (x.w.alloc (.cells #[.int .i64 r.id, .int .i64 r.rd, .int .i64 r.s0, .int .i64 r.s1, .int .i64 r.e0, .int .i64 r.e1, .bool r.op, .slice r.la r.legs.length r.lc, .slice r.pa r.pauses.length r.pc, .int .i64 r.fw, .int .i64 r.fp, .int .i64 r.wh, .int .i64 r.pl] 27)).heap.size from by simp))
      generalize hW : (x.w.alloc (.cells #[.int .i64 r.id, .int .i64 r.rd, .int .i64 r.s0, .int .i64 r.s1, .int .i64 r.e0, .int .i64 r.e1, .bool r.op, .slice r.la r.legs.length r.lc, .slice r.pa r.pauses.length r.pc, .int .i64 r.fw, .int .i64 r.fp, .int .i64 r.wh, .int .i64 r.pl] 27)) = W at *
      clear hW
      generalize x.w.heap.size = bx at *
      have Hup := Lib.hid (Since.up hWup)
      rw [hy0]
      clear hy0
      replace H := Lib.hid (H.out.to hWup)
      clear hWup
      go_wp2_with (first | (go_at_call 10; ((with_reducible refine (Hf.out W y0 H.out).mono ?_); rintro _ _ ⟨rfl, y1, rfl⟩)) | (go_at_call 25; ((with_reducible refine (Hk.out W y1 H.out).mono ?_); rintro _ _ ⟨rfl, y2, rfl⟩)) | (go_at_call 11; ((with_reducible refine (awake_calls W y2).mono ?_); rintro _ _ ⟨rfl, yz, rfl⟩)))
      go_ret
      exact ⟨rfl, Hup.out yz⟩
    case pos =>
      have He := Lib.hid he
      rw [he] at Hk
      clear he
      have HPs := Lib.hid H.out.p
      have Hpau := Lib.hid (fun (W : World) (h : r.At W) (w' : World) (hw : IsSince W w') => pausing_s w' hw r h)
      have Hrid := Lib.hid (fun (W : World) (h : r.At W) (w' : World) (hw : IsSince W w') => riding_s w' hw r h)
      rw [He.out] at Hpau Hrid
      generalize r.pa = pa at *
      generalize hps : r.pauses = ps at *
      have Hps := Lib.hid hps
      clear hps
      go_enter Try.func7, Try.ntmps7
      go_upto_region 1 with fail
      have hb0_0 : ∀ y : Since (x.w.alloc (.cells #[.int .i64 r.id, .int .i64 r.rd, .int .i64 r.s0, .int .i64 r.s1, .int .i64 r.e0, .int .i64 r.e1, .bool r.op, .slice r.la r.legs.length r.lc, .slice pa ps.length r.pc, .int .i64 r.fw, .int .i64 r.fp, .int .i64 r.wh, .int .i64 r.pl] 27)), y.w.cell? ⟨x.w.heap.size, 0, none⟩ = some (.int .i64 r.id) := fun y => Since.cell (by simp [go_sem]) (by first | (simp; done) | (simp; omega)) y
      have hb0_1 : ∀ y : Since (x.w.alloc (.cells #[.int .i64 r.id, .int .i64 r.rd, .int .i64 r.s0, .int .i64 r.s1, .int .i64 r.e0, .int .i64 r.e1, .bool r.op, .slice r.la r.legs.length r.lc, .slice pa ps.length r.pc, .int .i64 r.fw, .int .i64 r.fp, .int .i64 r.wh, .int .i64 r.pl] 27)), y.w.cell? ⟨x.w.heap.size, 1, none⟩ = some (.int .i64 r.rd) := fun y => Since.cell (by simp [go_sem]) (by first | (simp; done) | (simp; omega)) y
      have hb0_2 : ∀ y : Since (x.w.alloc (.cells #[.int .i64 r.id, .int .i64 r.rd, .int .i64 r.s0, .int .i64 r.s1, .int .i64 r.e0, .int .i64 r.e1, .bool r.op, .slice r.la r.legs.length r.lc, .slice pa ps.length r.pc, .int .i64 r.fw, .int .i64 r.fp, .int .i64 r.wh, .int .i64 r.pl] 27)), y.w.cell? ⟨x.w.heap.size, 2, none⟩ = some (.int .i64 r.s0) := fun y => Since.cell (by simp [go_sem]) (by first | (simp; done) | (simp; omega)) y
      have hb0_3 : ∀ y : Since (x.w.alloc (.cells #[.int .i64 r.id, .int .i64 r.rd, .int .i64 r.s0, .int .i64 r.s1, .int .i64 r.e0, .int .i64 r.e1, .bool r.op, .slice r.la r.legs.length r.lc, .slice pa ps.length r.pc, .int .i64 r.fw, .int .i64 r.fp, .int .i64 r.wh, .int .i64 r.pl] 27)), y.w.cell? ⟨x.w.heap.size, 3, none⟩ = some (.int .i64 r.s1) := fun y => Since.cell (by simp [go_sem]) (by first | (simp; done) | (simp; omega)) y
      have hb0_4 : ∀ y : Since (x.w.alloc (.cells #[.int .i64 r.id, .int .i64 r.rd, .int .i64 r.s0, .int .i64 r.s1, .int .i64 r.e0, .int .i64 r.e1, .bool r.op, .slice r.la r.legs.length r.lc, .slice pa ps.length r.pc, .int .i64 r.fw, .int .i64 r.fp, .int .i64 r.wh, .int .i64 r.pl] 27)), y.w.cell? ⟨x.w.heap.size, 4, none⟩ = some (.int .i64 r.e0) := fun y => Since.cell (by simp [go_sem]) (by first | (simp; done) | (simp; omega)) y
      have hb0_5 : ∀ y : Since (x.w.alloc (.cells #[.int .i64 r.id, .int .i64 r.rd, .int .i64 r.s0, .int .i64 r.s1, .int .i64 r.e0, .int .i64 r.e1, .bool r.op, .slice r.la r.legs.length r.lc, .slice pa ps.length r.pc, .int .i64 r.fw, .int .i64 r.fp, .int .i64 r.wh, .int .i64 r.pl] 27)), y.w.cell? ⟨x.w.heap.size, 5, none⟩ = some (.int .i64 r.e1) := fun y => Since.cell (by simp [go_sem]) (by first | (simp; done) | (simp; omega)) y
      have hb0_6 : ∀ y : Since (x.w.alloc (.cells #[.int .i64 r.id, .int .i64 r.rd, .int .i64 r.s0, .int .i64 r.s1, .int .i64 r.e0, .int .i64 r.e1, .bool r.op, .slice r.la r.legs.length r.lc, .slice pa ps.length r.pc, .int .i64 r.fw, .int .i64 r.fp, .int .i64 r.wh, .int .i64 r.pl] 27)), y.w.cell? ⟨x.w.heap.size, 6, none⟩ = some (.bool r.op) := fun y => Since.cell (by simp [go_sem]) (by first | (simp; done) | (simp; omega)) y
      have hb0_7 : ∀ y : Since (x.w.alloc (.cells #[.int .i64 r.id, .int .i64 r.rd, .int .i64 r.s0, .int .i64 r.s1, .int .i64 r.e0, .int .i64 r.e1, .bool r.op, .slice r.la r.legs.length r.lc, .slice pa ps.length r.pc, .int .i64 r.fw, .int .i64 r.fp, .int .i64 r.wh, .int .i64 r.pl] 27)), y.w.cell? ⟨x.w.heap.size, 7, none⟩ = some (.slice r.la r.legs.length r.lc) := fun y => Since.cell (by simp [go_sem]) (by first | (simp; done) | (simp; omega)) y
      have hb0_8 : ∀ y : Since (x.w.alloc (.cells #[.int .i64 r.id, .int .i64 r.rd, .int .i64 r.s0, .int .i64 r.s1, .int .i64 r.e0, .int .i64 r.e1, .bool r.op, .slice r.la r.legs.length r.lc, .slice pa ps.length r.pc, .int .i64 r.fw, .int .i64 r.fp, .int .i64 r.wh, .int .i64 r.pl] 27)), y.w.cell? ⟨x.w.heap.size, 8, none⟩ = some (.slice pa ps.length r.pc) := fun y => Since.cell (by simp [go_sem]) (by first | (simp; done) | (simp; omega)) y
      have hb0_9 : ∀ y : Since (x.w.alloc (.cells #[.int .i64 r.id, .int .i64 r.rd, .int .i64 r.s0, .int .i64 r.s1, .int .i64 r.e0, .int .i64 r.e1, .bool r.op, .slice r.la r.legs.length r.lc, .slice pa ps.length r.pc, .int .i64 r.fw, .int .i64 r.fp, .int .i64 r.wh, .int .i64 r.pl] 27)), y.w.cell? ⟨x.w.heap.size, 9, none⟩ = some (.int .i64 r.fw) := fun y => Since.cell (by simp [go_sem]) (by first | (simp; done) | (simp; omega)) y
      have hb0_10 : ∀ y : Since (x.w.alloc (.cells #[.int .i64 r.id, .int .i64 r.rd, .int .i64 r.s0, .int .i64 r.s1, .int .i64 r.e0, .int .i64 r.e1, .bool r.op, .slice r.la r.legs.length r.lc, .slice pa ps.length r.pc, .int .i64 r.fw, .int .i64 r.fp, .int .i64 r.wh, .int .i64 r.pl] 27)), y.w.cell? ⟨x.w.heap.size, 10, none⟩ = some (.int .i64 r.fp) := fun y => Since.cell (by simp [go_sem]) (by first | (simp; done) | (simp; omega)) y
      have hb0_11 : ∀ y : Since (x.w.alloc (.cells #[.int .i64 r.id, .int .i64 r.rd, .int .i64 r.s0, .int .i64 r.s1, .int .i64 r.e0, .int .i64 r.e1, .bool r.op, .slice r.la r.legs.length r.lc, .slice pa ps.length r.pc, .int .i64 r.fw, .int .i64 r.fp, .int .i64 r.wh, .int .i64 r.pl] 27)), y.w.cell? ⟨x.w.heap.size, 11, none⟩ = some (.int .i64 r.wh) := fun y => Since.cell (by simp [go_sem]) (by first | (simp; done) | (simp; omega)) y
      have hb0_12 : ∀ y : Since (x.w.alloc (.cells #[.int .i64 r.id, .int .i64 r.rd, .int .i64 r.s0, .int .i64 r.s1, .int .i64 r.e0, .int .i64 r.e1, .bool r.op, .slice r.la r.legs.length r.lc, .slice pa ps.length r.pc, .int .i64 r.fw, .int .i64 r.fp, .int .i64 r.wh, .int .i64 r.pl] 27)), y.w.cell? ⟨x.w.heap.size, 12, none⟩ = some (.int .i64 r.pl) := fun y => Since.cell (by simp [go_sem]) (by first | (simp; done) | (simp; omega)) y
      have hf0 : ∀ (y : Since (x.w.alloc (.cells #[.int .i64 r.id, .int .i64 r.rd, .int .i64 r.s0, .int .i64 r.s1, .int .i64 r.e0, .int .i64 r.e1, .bool r.op, .slice r.la r.legs.length r.lc, .slice pa ps.length r.pc, .int .i64 r.fw, .int .i64 r.fp, .int .i64 r.wh, .int .i64 r.pl] 27))) (o : Nat), y.w.frozen? ⟨x.w.heap.size, o, none⟩ = false := fun y o => Since.free (by simp [go_sem]) (by first | (simp; done) | (simp; omega)) y
      have hWup : ∃ z : Since w, (x.w.alloc (.cells #[.int .i64 r.id, .int .i64 r.rd, .int .i64 r.s0, .int .i64 r.s1, .int .i64 r.e0, .int .i64 r.e1, .bool r.op, .slice r.la r.legs.length r.lc, .slice pa ps.length r.pc, .int .i64 r.fw, .int .i64 r.fp, .int .i64 r.wh, .int .i64 r.pl] 27)) = z.w := x.alloc _
      obtain ⟨y0, hy0⟩ := Since.refl (x.w.alloc (.cells #[.int .i64 r.id, .int .i64 r.rd, .int .i64 r.s0, .int .i64 r.s1, .int .i64 r.e0, .int .i64 r.e1, .bool r.op, .slice r.la r.legs.length r.lc, .slice pa ps.length r.pc, .int .i64 r.fw, .int .i64 r.fp, .int .i64 r.wh, .int .i64 r.pl] 27))
      have Hbx := Lib.hid (And.intro x.b.size (show x.w.heap.size + 1 = (x.w.alloc (.cells #[.int .i64 r.id, .int .i64 r.rd, .int .i64 r.s0, .int .i64 r.s1, .int .i64 r.e0, .int .i64 r.e1, .bool r.op, .slice r.la r.legs.length r.lc, .slice pa ps.length r.pc, .int .i64 r.fw, .int .i64 r.fp, .int .i64 r.wh, .int .i64 r.pl] 27)).heap.size from by simp))
      generalize hW : (x.w.alloc (.cells #[.int .i64 r.id, .int .i64 r.rd, .int .i64 r.s0, .int .i64 r.s1, .int .i64 r.e0, .int .i64 r.e1, .bool r.op, .slice r.la r.legs.length r.lc, .slice pa ps.length r.pc, .int .i64 r.fw, .int .i64 r.fp, .int .i64 r.wh, .int .i64 r.pl] 27)) = W at *
      clear hW
      generalize x.w.heap.size = bx at *
      have Hup := Lib.hid (Since.up hWup)
      rw [hy0]
      clear hy0
      replace HPs := Lib.hid (HPs.out.to hWup)
      replace H := Lib.hid (H.out.to hWup)
      have HW := Lib.hid hWup
      have HU := Lib.hid (show IsSince w W from hWup)
      clear hWup hf0 Hbx Hup
      go_upto_region 3 with (first | (go_at_call 10; ((with_reducible refine (Hf.out W y0 H.out).mono ?_); rintro _ _ ⟨rfl, y1, rfl⟩)) | (go_at_call 25; ((with_reducible refine (Hk.out W y1 H.out).mono ?_); rintro _ _ ⟨rfl, y2, rfl⟩)))
      clear Hf Hk
      go_upto_region 4 with (go_at_call 16; ((with_reducible refine (Hpau.out W H.out _ (IsSince.of y2)).mono ?_); rintro _ _ ⟨ap, cp, u, y3, rfl, rfl, hz, hl, _, hQ⟩; have HP := Lib.hid hl; have HPo := Lib.hid hQ; clear hl hQ; clear hz))
      go_upto_region 5 with (go_at_call 18; ((with_reducible refine (Hrid.out W H.out _ (IsSince.of y3)).mono ?_); rintro _ _ ⟨ar, cr, s, y4, rfl, rfl, hz, hl, _, hQ⟩; replace HP := Lib.hid (HP.out.to hz); have HR := Lib.hid hl; have HRo := Lib.hid hQ; clear hl hQ; clear hz))
      have hul := HPo.out.n
      have hsl := HRo.out.n
      have HSu := Lib.hid (show ∀ t, hasW u t = pauS r t from (HPo.out.ok rfl).h)
      have HSs := Lib.hid (show ∀ t, hasW s t = ridS r t from (HRo.out.ok rfl).h)
      clear HPo HRo
      replace hb0_0 := Since.cellTo ⟨y4, rfl⟩ hb0_0
      replace hb0_1 := Since.cellTo ⟨y4, rfl⟩ hb0_1
      replace hb0_2 := Since.cellTo ⟨y4, rfl⟩ hb0_2
      replace hb0_3 := Since.cellTo ⟨y4, rfl⟩ hb0_3
      replace hb0_4 := Since.cellTo ⟨y4, rfl⟩ hb0_4
      replace hb0_5 := Since.cellTo ⟨y4, rfl⟩ hb0_5
      replace hb0_6 := Since.cellTo ⟨y4, rfl⟩ hb0_6
      replace hb0_7 := Since.cellTo ⟨y4, rfl⟩ hb0_7
      replace hb0_8 := Since.cellTo ⟨y4, rfl⟩ hb0_8
      replace hb0_9 := Since.cellTo ⟨y4, rfl⟩ hb0_9
      replace hb0_10 := Since.cellTo ⟨y4, rfl⟩ hb0_10
      replace hb0_11 := Since.cellTo ⟨y4, rfl⟩ hb0_11
      replace hb0_12 := Since.cellTo ⟨y4, rfl⟩ hb0_12
      replace HPs := Lib.hid (HPs.out.to ⟨y4, rfl⟩)
      replace H := Lib.hid (H.out.to ⟨y4, rfl⟩)
      replace HU := Lib.hid (HU.out.trans (IsSince.of y4))
      obtain ⟨q9, hq0⟩ := Since.refl y4.w
      rw [hq0]
      clear hq0
      obtain ⟨n, hn⟩ : ∃ n, n = ps.length := ⟨_, rfl⟩
      rw [← hn] at hb0_8 hpl ⊢
      have Hn := Lib.hid hn
      clear hn
      generalize hS : momS r t = S at *
      have HS := Lib.hid (show momS r t = (decide (r.s1 ≤ t) && decide (t < r.e0)) from rfl)
      rw [hS] at HS
      have HS2 := Lib.hid hS
      clear hS
      go_upto_region 7 with fail
      go_cut [9] (fun s9 wr => s9 = .bool S ∧ wr = q9.w)
      case first =>
        rcases (by omega : t < r.s1 ∨ (r.s1 ≤ t ∧ r.e0 ≤ t) ∨ (r.s1 ≤ t ∧ t < r.e0)) with hc | ⟨hc, hc2⟩ | ⟨hc, hc2⟩
        all_goals
          first | rw [decide_eq_true hc] at HS | rw [decide_eq_false (show ¬ r.s1 ≤ t by omega)] at HS
          first | rw [decide_eq_true hc2] at HS | rw [decide_eq_false (show ¬ t < r.e0 by omega)] at HS | skip
          go_wp2_with fail
          go_meet
          exact ⟨by rw [HS.out]; first | rfl | (simp; done) | (simp; omega), rfl⟩
      case rest =>
        obtain ⟨rfl, rfl⟩ := hcut
        go_wp2_with fail
        go_loopw [10, 11, 12] (fun sp sr si wr => ∃ (k : Nat) (y : Since y4.w), k ≤ n ∧ si = .int .i64 k ∧ wr = y.w ∧ sp = .bool (S && pB (ps.take k) t) ∧ sr = .bool (S && rB (ps.take k) t)) (fun _ _ si _ => n - (intOf si).toNat)
        case atStart => exact ⟨0, q9, by omega, rfl, rfl, by simp [pB], by simp [rB]⟩
        case round =>
          obtain ⟨k, y, hk, rfl, rfl, rfl, rfl⟩ := hrel
          by_cases hlt : k < n
          · obtain ⟨e, he⟩ : ∃ e, ps[k]? = some e := ⟨_, List.getElem?_eq_getElem (by have := Hn.out; omega)⟩
            have hk0 : (0 : Int) ≤ (k : Int) := by omega
            have hkl : (k : Int) < (n : Int) := by omega
            have Htk := Lib.hid (show ps.take (k + 1) = ps.take k ++ [e] by rw [List.take_add_one, he]; rfl)
            have Hp2 := Lib.hid (show (S && pB (ps.take (k + 1)) t) = ((S && pB (ps.take k) t) || (S && (decide (e.f1 ≤ t) && decide (t < e.t0)))) by rw [Htk.out, pB_snoc]; cases S <;> simp)
            have Hr2 := Lib.hid (show (S && rB (ps.take (k + 1)) t) = ((S && rB (ps.take k) t) && (decide (t < e.f0) || decide (e.t1 ≤ t))) by rw [Htk.out, rB_snoc, Bool.and_assoc])
            generalize (S && pB (ps.take k) t) = PB at *
            generalize (S && rB (ps.take k) t) = RB at *
            obtain ⟨b1, off1, rfl, h1'⟩ := Els.pse (HPs.out) he
            have ra0 := h1'.c0
            have ra1 := h1'.c1
            have ra2 := h1'.c2
            have ra3 := h1'.c3
            clear h1' he
            go_upto_region 13 with fail
            have hp0 : (y.w.alloc (.cells #[.int .i64 e.f0, .int .i64 e.f1, .int .i64 e.t0, .int .i64 e.t1] 52)).cell? ⟨y.w.heap.size, 0, none⟩ = some (.int .i64 e.f0) := by simp [go_sem]
            have hp1 : (y.w.alloc (.cells #[.int .i64 e.f0, .int .i64 e.f1, .int .i64 e.t0, .int .i64 e.t1] 52)).cell? ⟨y.w.heap.size, 1, none⟩ = some (.int .i64 e.f1) := by simp [go_sem]
            have hp2 : (y.w.alloc (.cells #[.int .i64 e.f0, .int .i64 e.f1, .int .i64 e.t0, .int .i64 e.t1] 52)).cell? ⟨y.w.heap.size, 2, none⟩ = some (.int .i64 e.t0) := by simp [go_sem]
            have hp3 : (y.w.alloc (.cells #[.int .i64 e.f0, .int .i64 e.f1, .int .i64 e.t0, .int .i64 e.t1] 52)).cell? ⟨y.w.heap.size, 3, none⟩ = some (.int .i64 e.t1) := by simp [go_sem]
            have hpf : ∀ o, (y.w.alloc (.cells #[.int .i64 e.f0, .int .i64 e.f1, .int .i64 e.t0, .int .i64 e.t1] 52)).frozen? ⟨y.w.heap.size, o, none⟩ = false := fun o => by simp [go_sem]
            have hlt0 : y.w.heap.size < (y.w.alloc (.cells #[.int .i64 e.f0, .int .i64 e.f1, .int .i64 e.t0, .int .i64 e.t1] 52)).heap.size := by simp
            have hst0 : ∃ zz : Since y.w, (y.w.alloc (.cells #[.int .i64 e.f0, .int .i64 e.f1, .int .i64 e.t0, .int .i64 e.t1] 52)) = zz.w := IsSince.alloc (IsSince.self _) _
            have hsz0 := y.b.size
            obtain ⟨y3, e2⟩ := IsSince.alloc (IsSince.of y) (.cells #[.int .i64 e.f0, .int .i64 e.f1, .int .i64 e.t0, .int .i64 e.t1] 52)
            rw [e2] at hp0 hp1 hp2 hp3 hpf hlt0 hst0 ⊢
            skip
            clear e2 hst0
            generalize y.w.heap.size = gp at *
            have Hhp0 : ∀ q : Since y3.w, q.w.cell? ⟨gp, 0, none⟩ = some (.int .i64 e.f0) := fun q => Since.cell hp0 (by omega) q
            have Hhp1 : ∀ q : Since y3.w, q.w.cell? ⟨gp, 1, none⟩ = some (.int .i64 e.f1) := fun q => Since.cell hp1 (by omega) q
            have Hhp2 : ∀ q : Since y3.w, q.w.cell? ⟨gp, 2, none⟩ = some (.int .i64 e.t0) := fun q => Since.cell hp2 (by omega) q
            have Hhp3 : ∀ q : Since y3.w, q.w.cell? ⟨gp, 3, none⟩ = some (.int .i64 e.t1) := fun q => Since.cell hp3 (by omega) q
            have Hhpf : ∀ (q : Since y3.w) (o : Nat), q.w.frozen? ⟨gp, o, none⟩ = false := fun q o => Since.free (hpf o) (by omega) q
            have Hhpg := Lib.hid (And.intro hsz0 hlt0)
            clear hlt0 hsz0
            clear Hhp0 Hhp1 Hhp2 Hhp3 Hhpf hpf
            go_cut [10] (fun s10 wr => s10 = .bool (PB || (S && (decide (e.f1 ≤ t) && decide (t < e.t0)))) ∧ wr = y3.w)
            case first =>
              rcases (by omega : t < e.f1 ∨ (e.f1 ≤ t ∧ e.t0 ≤ t) ∨ (e.f1 ≤ t ∧ t < e.t0)) with hc | ⟨hc, hc2⟩ | ⟨hc, hc2⟩
              all_goals
                cases PB <;> cases S
                all_goals
                  go_wp2_with fail
                  go_meet
                  exact ⟨by first | rfl | (simp; done) | (simp; omega), rfl⟩
            case rest =>
              obtain ⟨rfl, rfl⟩ := hcut
              rcases (by omega : t < e.f0 ∨ (e.f0 ≤ t ∧ t < e.t1) ∨ (e.f0 ≤ t ∧ e.t1 ≤ t)) with hc | ⟨hc, hc2⟩ | ⟨hc, hc2⟩
              all_goals
                cases RB
                all_goals
                  go_wp2_with fail
                  go_roundw
                  case rel => exact ⟨k + 1, y3, by omega, by go_num, rfl, by rw [Hp2.out], by rw [Hr2.out]; first | rfl | (simp; done) | (simp; omega)⟩
                  case measure => simp [intOf] <;> omega
          · obtain rfl : k = n := by omega
            have Ha := Lib.hid (show hasW u t = (S && pB (ps.take k) t) by rw [HSu.out, List.take_of_length_le (by have := Hn.out; omega), mom_pau He.out, ← HS2.out, Hps.out])
            have Hb := Lib.hid (show hasW s t = (S && rB (ps.take k) t) by rw [HSs.out, List.take_of_length_le (by have := Hn.out; omega), mom_rid He.out, ← HS2.out, Hps.out])
            have hab : (hasW u t == (S && pB (ps.take k) t)) = true := by rw [Ha.out]; simp
            have hbb : (hasW s t == (S && rB (ps.take k) t)) = true := by rw [Hb.out]; simp
            generalize (S && pB (ps.take k) t) = PB at *
            generalize (S && rB (ps.take k) t) = RB at *
            replace HP := Lib.hid (HP.out.to (IsSince.of y))
            replace HR := Lib.hid (HR.out.to (IsSince.of y))
            have hs2 : s.length ≤ 100000 := by have := Hn.out; omega
            have hu2 : u.length ≤ 100000 := by have := Hn.out; omega
            go_wp2_with (first | (go_at_call 31; ((with_reducible refine (has_s (W := y4.w) _ (IsSince.of y) ap u cp t HP.out hu2).mono ?_); rintro _ _ ⟨rfl, ya, rfl, hz⟩; replace HR := Lib.hid (HR.out.to hz); clear hz)) | (go_at_call 31; ((with_reducible refine (has_s (W := y4.w) _ (IsSince.of ya) ar s cr t HR.out hs2).mono ?_); rintro _ _ ⟨rfl, yb, rfl, _⟩)) | (go_at_call 11; ((with_reducible refine (awake_calls _ yb).mono ?_); rintro _ _ ⟨rfl, yz, rfl⟩)))
            go_ret
            exact ⟨rfl, HU.out.trans (IsSince.of yz)⟩
end Go.Proofs.Ytefodfpnedcodaa
