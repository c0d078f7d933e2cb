/- The walks of the program's check of a ride, third part: the ends of legs and pauses are in order; the check. -/
import Derived.Test.YtbkfcdheckkjaaaRdW2
set_option linter.all false
namespace Go.Proofs.Ytbkfcdheckkjaaa
open Go.RowKit

theorem drop_cons {α : Type} {l : List α} {k : Nat} {e : α} (he : l[k]? = some e) : l.drop k = e :: l.drop (k + 1) := by
  rw [List.drop_eq_getElem_cons (List.getElem?_eq_some_iff.1 he).1, (List.getElem?_eq_some_iff.1 he).2]
theorem drop_last {α : Type} {l : List α} {k : Nat} (h : k < l.length) : (l.drop (k + 1)).isEmpty = decide (k + 1 = l.length) := by
  rw [Bool.eq_iff_iff, List.isEmpty_iff, List.drop_eq_nil_iff, decide_eq_true_eq]; omega
set_option maxRecDepth 100000 in
set_option maxHeartbeats 8000000 in
theorem ordered_calls (w : World) (x : Since w) (r : Ride) (h : r.At w) :
    Calls Try.prog 45 #[.agg #[.int .i64 r.id, .int .i64 r.rd, .int .i64 r.s0, .int .i64 r.s1, .int .i64 r.e0, .int .i64 r.e1, .bool r.op, .slice r.la r.legs.length r.lc, .slice r.pa r.pauses.length r.pc, .int .i64 r.fw, .int .i64 r.fp, .int .i64 r.wh, .int .i64 r.pl]] x.w fun o w' => o = .returned (.bool (orderedB r)) ∧ ∃ y : Since w, w' = y.w := by
  have HL := Lib.hid h.l; have HP := Lib.hid h.p
  have hlm := h.lm
  have hpm := h.pm
  have hO : orderedB r = (legsO r.op r.legs && (r.pauses.isEmpty || psesO r.op r.e0 r.s0 r.pauses)) := rfl
  have HO := Lib.hid hO
  clear h hO
  generalize r.la = la at HL ⊢
  generalize r.pa = pa at HP ⊢
  generalize r.op = op at HO ⊢
  go_enter Try.func45, Try.ntmps45
  go_upto_region 1 with fail
  have hb0_0 : ∀ y : Since (x.w.alloc (.cells #[.int .i64 r.id, .int .i64 r.rd, .int .i64 r.s0, .int .i64 r.s1, .int .i64 r.e0, .int .i64 r.e1, .bool op, .slice la r.legs.length r.lc, .slice pa r.pauses.length r.pc, .int .i64 r.fw, .int .i64 r.fp, .int .i64 r.wh, .int .i64 r.pl] 44)), y.w.cell? ⟨x.w.heap.size, 0, none⟩ = some (.int .i64 r.id) := fun y => Since.cell (by simp [go_sem]) (by first | (simp; done) | (simp; omega)) y
  have hb0_1 : ∀ y : Since (x.w.alloc (.cells #[.int .i64 r.id, .int .i64 r.rd, .int .i64 r.s0, .int .i64 r.s1, .int .i64 r.e0, .int .i64 r.e1, .bool op, .slice la r.legs.length r.lc, .slice pa r.pauses.length r.pc, .int .i64 r.fw, .int .i64 r.fp, .int .i64 r.wh, .int .i64 r.pl] 44)), y.w.cell? ⟨x.w.heap.size, 1, none⟩ = some (.int .i64 r.rd) := fun y => Since.cell (by simp [go_sem]) (by first | (simp; done) | (simp; omega)) y
  have hb0_2 : ∀ y : Since (x.w.alloc (.cells #[.int .i64 r.id, .int .i64 r.rd, .int .i64 r.s0, .int .i64 r.s1, .int .i64 r.e0, .int .i64 r.e1, .bool op, .slice la r.legs.length r.lc, .slice pa r.pauses.length r.pc, .int .i64 r.fw, .int .i64 r.fp, .int .i64 r.wh, .int .i64 r.pl] 44)), y.w.cell? ⟨x.w.heap.size, 2, none⟩ = some (.int .i64 r.s0) := fun y => Since.cell (by simp [go_sem]) (by first | (simp; done) | (simp; omega)) y
  have hb0_3 : ∀ y : Since (x.w.alloc (.cells #[.int .i64 r.id, .int .i64 r.rd, .int .i64 r.s0, .int .i64 r.s1, .int .i64 r.e0, .int .i64 r.e1, .bool op, .slice la r.legs.length r.lc, .slice pa r.pauses.length r.pc, .int .i64 r.fw, .int .i64 r.fp, .int .i64 r.wh, .int .i64 r.pl] 44)), y.w.cell? ⟨x.w.heap.size, 3, none⟩ = some (.int .i64 r.s1) := fun y => Since.cell (by simp [go_sem]) (by first | (simp; done) | (simp; omega)) y
  have hb0_4 : ∀ y : Since (x.w.alloc (.cells #[.int .i64 r.id, .int .i64 r.rd, .int .i64 r.s0, .int .i64 r.s1, .int .i64 r.e0, .int .i64 r.e1, .bool op, .slice la r.legs.length r.lc, .slice pa r.pauses.length r.pc, .int .i64 r.fw, .int .i64 r.fp, .int .i64 r.wh, .int .i64 r.pl] 44)), y.w.cell? ⟨x.w.heap.size, 4, none⟩ = some (.int .i64 r.e0) := fun y => Since.cell (by simp [go_sem]) (by first | (simp; done) | (simp; omega)) y
  have hb0_5 : ∀ y : Since (x.w.alloc (.cells #[.int .i64 r.id, .int .i64 r.rd, .int .i64 r.s0, .int .i64 r.s1, .int .i64 r.e0, .int .i64 r.e1, .bool op, .slice la r.legs.length r.lc, .slice pa r.pauses.length r.pc, .int .i64 r.fw, .int .i64 r.fp, .int .i64 r.wh, .int .i64 r.pl] 44)), y.w.cell? ⟨x.w.heap.size, 5, none⟩ = some (.int .i64 r.e1) := fun y => Since.cell (by simp [go_sem]) (by first | (simp; done) | (simp; omega)) y
  have hb0_6 : ∀ y : Since (x.w.alloc (.cells #[.int .i64 r.id, .int .i64 r.rd, .int .i64 r.s0, .int .i64 r.s1, .int .i64 r.e0, .int .i64 r.e1, .bool op, .slice la r.legs.length r.lc, .slice pa r.pauses.length r.pc, .int .i64 r.fw, .int .i64 r.fp, .int .i64 r.wh, .int .i64 r.pl] 44)), y.w.cell? ⟨x.w.heap.size, 6, none⟩ = some (.bool op) := fun y => Since.cell (by simp [go_sem]) (by first | (simp; done) | (simp; omega)) y
  have hb0_7 : ∀ y : Since (x.w.alloc (.cells #[.int .i64 r.id, .int .i64 r.rd, .int .i64 r.s0, .int .i64 r.s1, .int .i64 r.e0, .int .i64 r.e1, .bool op, .slice la r.legs.length r.lc, .slice pa r.pauses.length r.pc, .int .i64 r.fw, .int .i64 r.fp, .int .i64 r.wh, .int .i64 r.pl] 44)), y.w.cell? ⟨x.w.heap.size, 7, none⟩ = some (.slice la r.legs.length r.lc) := fun y => Since.cell (by simp [go_sem]) (by first | (simp; done) | (simp; omega)) y
  have hb0_8 : ∀ y : Since (x.w.alloc (.cells #[.int .i64 r.id, .int .i64 r.rd, .int .i64 r.s0, .int .i64 r.s1, .int .i64 r.e0, .int .i64 r.e1, .bool op, .slice la r.legs.length r.lc, .slice pa r.pauses.length r.pc, .int .i64 r.fw, .int .i64 r.fp, .int .i64 r.wh, .int .i64 r.pl] 44)), y.w.cell? ⟨x.w.heap.size, 8, none⟩ = some (.slice pa r.pauses.length r.pc) := fun y => Since.cell (by simp [go_sem]) (by first | (simp; done) | (simp; omega)) y
  have hb0_9 : ∀ y : Since (x.w.alloc (.cells #[.int .i64 r.id, .int .i64 r.rd, .int .i64 r.s0, .int .i64 r.s1, .int .i64 r.e0, .int .i64 r.e1, .bool op, .slice la r.legs.length r.lc, .slice pa r.pauses.length r.pc, .int .i64 r.fw, .int .i64 r.fp, .int .i64 r.wh, .int .i64 r.pl] 44)), y.w.cell? ⟨x.w.heap.size, 9, none⟩ = some (.int .i64 r.fw) := fun y => Since.cell (by simp [go_sem]) (by first | (simp; done) | (simp; omega)) y
  have hb0_10 : ∀ y : Since (x.w.alloc (.cells #[.int .i64 r.id, .int .i64 r.rd, .int .i64 r.s0, .int .i64 r.s1, .int .i64 r.e0, .int .i64 r.e1, .bool op, .slice la r.legs.length r.lc, .slice pa r.pauses.length r.pc, .int .i64 r.fw, .int .i64 r.fp, .int .i64 r.wh, .int .i64 r.pl] 44)), y.w.cell? ⟨x.w.heap.size, 10, none⟩ = some (.int .i64 r.fp) := fun y => Since.cell (by simp [go_sem]) (by first | (simp; done) | (simp; omega)) y
  have hb0_11 : ∀ y : Since (x.w.alloc (.cells #[.int .i64 r.id, .int .i64 r.rd, .int .i64 r.s0, .int .i64 r.s1, .int .i64 r.e0, .int .i64 r.e1, .bool op, .slice la r.legs.length r.lc, .slice pa r.pauses.length r.pc, .int .i64 r.fw, .int .i64 r.fp, .int .i64 r.wh, .int .i64 r.pl] 44)), y.w.cell? ⟨x.w.heap.size, 11, none⟩ = some (.int .i64 r.wh) := fun y => Since.cell (by simp [go_sem]) (by first | (simp; done) | (simp; omega)) y
  have hb0_12 : ∀ y : Since (x.w.alloc (.cells #[.int .i64 r.id, .int .i64 r.rd, .int .i64 r.s0, .int .i64 r.s1, .int .i64 r.e0, .int .i64 r.e1, .bool op, .slice la r.legs.length r.lc, .slice pa r.pauses.length r.pc, .int .i64 r.fw, .int .i64 r.fp, .int .i64 r.wh, .int .i64 r.pl] 44)), y.w.cell? ⟨x.w.heap.size, 12, none⟩ = some (.int .i64 r.pl) := fun y => Since.cell (by simp [go_sem]) (by first | (simp; done) | (simp; omega)) y
  have hf0 : ∀ (y : Since (x.w.alloc (.cells #[.int .i64 r.id, .int .i64 r.rd, .int .i64 r.s0, .int .i64 r.s1, .int .i64 r.e0, .int .i64 r.e1, .bool op, .slice la r.legs.length r.lc, .slice pa r.pauses.length r.pc, .int .i64 r.fw, .int .i64 r.fp, .int .i64 r.wh, .int .i64 r.pl] 44))) (o : Nat), y.w.frozen? ⟨x.w.heap.size, o, none⟩ = false := fun y o => Since.free (by simp [go_sem]) (by first | (simp; done) | (simp; omega)) y
  have hWup : ∃ z : Since w, (x.w.alloc (.cells #[.int .i64 r.id, .int .i64 r.rd, .int .i64 r.s0, .int .i64 r.s1, .int .i64 r.e0, .int .i64 r.e1, .bool op, .slice la r.legs.length r.lc, .slice pa r.pauses.length r.pc, .int .i64 r.fw, .int .i64 r.fp, .int .i64 r.wh, .int .i64 r.pl] 44)) = z.w := x.alloc _
  obtain ⟨y0, hy0⟩ := Since.refl (x.w.alloc (.cells #[.int .i64 r.id, .int .i64 r.rd, .int .i64 r.s0, .int .i64 r.s1, .int .i64 r.e0, .int .i64 r.e1, .bool op, .slice la r.legs.length r.lc, .slice pa r.pauses.length r.pc, .int .i64 r.fw, .int .i64 r.fp, .int .i64 r.wh, .int .i64 r.pl] 44))
  have Hbx := Lib.hid (And.intro x.b.size (show x.w.heap.size + 1 = (x.w.alloc (.cells #[.int .i64 r.id, .int .i64 r.rd, .int .i64 r.s0, .int .i64 r.s1, .int .i64 r.e0, .int .i64 r.e1, .bool op, .slice la r.legs.length r.lc, .slice pa r.pauses.length r.pc, .int .i64 r.fw, .int .i64 r.fp, .int .i64 r.wh, .int .i64 r.pl] 44)).heap.size from by simp))
  generalize hW : (x.w.alloc (.cells #[.int .i64 r.id, .int .i64 r.rd, .int .i64 r.s0, .int .i64 r.s1, .int .i64 r.e0, .int .i64 r.e1, .bool op, .slice la r.legs.length r.lc, .slice pa r.pauses.length r.pc, .int .i64 r.fw, .int .i64 r.fp, .int .i64 r.wh, .int .i64 r.pl] 44)) = W at *
  clear hW
  generalize x.w.heap.size = bx at *
  have Hup := Lib.hid (Since.up hWup)
  rw [hy0]
  clear hy0
  replace HL := Lib.hid (HL.out.to hWup); replace HP := Lib.hid (HP.out.to hWup)
  clear hWup
  go_wp2_with fail
  go_loopw [11] (fun i wr => ∃ (k : Nat) (y : Since W), k ≤ r.legs.length ∧ i = .int .i64 k ∧ wr = y.w ∧ legsO op r.legs = legsO op (r.legs.drop k)) (fun i _ => r.legs.length - (intOf i).toNat)
  case atStart => exact ⟨0, _, by omega, rfl, rfl, rfl⟩
  case round =>
    obtain ⟨k, y, hk, rfl, rfl, hch⟩ := hrel
    have Hch := Lib.hid hch; clear hch
    by_cases hlt : k < r.legs.length
    · obtain ⟨e, he⟩ : ∃ e, r.legs[k]? = some e := ⟨_, List.getElem?_eq_getElem hlt⟩
      obtain ⟨b1, off1, rfl, h1'⟩ := Els.leg HL.out he
      have pa0 := h1'.c0
      have pa1 := h1'.c1
      have pa2 := h1'.c2
      have pa3 := h1'.c3
      have pa4 := h1'.c4
      have hstep : legsO op (r.legs.drop k) = ((decide (e.f0 ≤ e.t0) || (op && decide (k + 1 = r.legs.length))) && legsO op (r.legs.drop (k + 1))) := by
        rw [drop_cons he, ← drop_last hlt]; rfl
      have Hstep := Lib.hid hstep
      have hk0 : (0 : Int) ≤ (k : Int) := by omega
      have hkl : (k : Int) < (r.legs.length : Int) := by omega
      clear h1' he hstep
      go_upto_region 4 with fail
      have hx0 : (y.w.alloc (.cells #[.int .i64 e.b, .int .i64 e.f0, .int .i64 e.f1, .int .i64 e.t0, .int .i64 e.t1] 69)).cell? ⟨y.w.heap.size, 0, none⟩ = some (.int .i64 e.b) := by simp [go_sem]
      have hx1 : (y.w.alloc (.cells #[.int .i64 e.b, .int .i64 e.f0, .int .i64 e.f1, .int .i64 e.t0, .int .i64 e.t1] 69)).cell? ⟨y.w.heap.size, 1, none⟩ = some (.int .i64 e.f0) := by simp [go_sem]
      have hx2 : (y.w.alloc (.cells #[.int .i64 e.b, .int .i64 e.f0, .int .i64 e.f1, .int .i64 e.t0, .int .i64 e.t1] 69)).cell? ⟨y.w.heap.size, 2, none⟩ = some (.int .i64 e.f1) := by simp [go_sem]
      have hx3 : (y.w.alloc (.cells #[.int .i64 e.b, .int .i64 e.f0, .int .i64 e.f1, .int .i64 e.t0, .int .i64 e.t1] 69)).cell? ⟨y.w.heap.size, 3, none⟩ = some (.int .i64 e.t0) := by simp [go_sem]
      have hx4 : (y.w.alloc (.cells #[.int .i64 e.b, .int .i64 e.f0, .int .i64 e.f1, .int .i64 e.t0, .int .i64 e.t1] 69)).cell? ⟨y.w.heap.size, 4, none⟩ = some (.int .i64 e.t1) := by simp [go_sem]
      have hxf : ∀ o, (y.w.alloc (.cells #[.int .i64 e.b, .int .i64 e.f0, .int .i64 e.f1, .int .i64 e.t0, .int .i64 e.t1] 69)).frozen? ⟨y.w.heap.size, o, none⟩ = false := fun o => by simp [go_sem]
      have hlt0 : y.w.heap.size < (y.w.alloc (.cells #[.int .i64 e.b, .int .i64 e.f0, .int .i64 e.f1, .int .i64 e.t0, .int .i64 e.t1] 69)).heap.size := by simp
      have hst0 : ∃ zz : Since y.w, (y.w.alloc (.cells #[.int .i64 e.b, .int .i64 e.f0, .int .i64 e.f1, .int .i64 e.t0, .int .i64 e.t1] 69)) = zz.w := IsSince.alloc (IsSince.self _) _
      have hsz0 := y.b.size
      obtain ⟨y2, e2⟩ := IsSince.alloc (IsSince.of y) (.cells #[.int .i64 e.b, .int .i64 e.f0, .int .i64 e.f1, .int .i64 e.t0, .int .i64 e.t1] 69)
      rw [e2] at hx0 hx1 hx2 hx3 hx4 hxf hlt0 hst0 ⊢
      skip
      clear e2 hst0
      generalize y.w.heap.size = g at *
      have Hhx0 : ∀ q : Since y2.w, q.w.cell? ⟨g, 0, none⟩ = some (.int .i64 e.b) := fun q => Since.cell hx0 (by omega) q
      have Hhx1 : ∀ q : Since y2.w, q.w.cell? ⟨g, 1, none⟩ = some (.int .i64 e.f0) := fun q => Since.cell hx1 (by omega) q
      have Hhx2 : ∀ q : Since y2.w, q.w.cell? ⟨g, 2, none⟩ = some (.int .i64 e.f1) := fun q => Since.cell hx2 (by omega) q
      have Hhx3 : ∀ q : Since y2.w, q.w.cell? ⟨g, 3, none⟩ = some (.int .i64 e.t0) := fun q => Since.cell hx3 (by omega) q
      have Hhx4 : ∀ q : Since y2.w, q.w.cell? ⟨g, 4, none⟩ = some (.int .i64 e.t1) := fun q => Since.cell hx4 (by omega) q
      have Hhxf : ∀ (q : Since y2.w) (o : Nat), q.w.frozen? ⟨g, o, none⟩ = false := fun q o => Since.free (hxf o) (by omega) q
      have Hhxg := Lib.hid (And.intro hsz0 hlt0)
      clear hlt0 hsz0
      replace hb0_0 := Since.cellTo ⟨y2, rfl⟩ hb0_0
      replace hb0_1 := Since.cellTo ⟨y2, rfl⟩ hb0_1
      replace hb0_2 := Since.cellTo ⟨y2, rfl⟩ hb0_2
      replace hb0_3 := Since.cellTo ⟨y2, rfl⟩ hb0_3
      replace hb0_4 := Since.cellTo ⟨y2, rfl⟩ hb0_4
      replace hb0_5 := Since.cellTo ⟨y2, rfl⟩ hb0_5
      replace hb0_6 := Since.cellTo ⟨y2, rfl⟩ hb0_6
      replace hb0_7 := Since.cellTo ⟨y2, rfl⟩ hb0_7
      replace hb0_8 := Since.cellTo ⟨y2, rfl⟩ hb0_8
      replace hb0_9 := Since.cellTo ⟨y2, rfl⟩ hb0_9
      replace hb0_10 := Since.cellTo ⟨y2, rfl⟩ hb0_10
      replace hb0_11 := Since.cellTo ⟨y2, rfl⟩ hb0_11
      replace hb0_12 := Since.cellTo ⟨y2, rfl⟩ hb0_12
      obtain ⟨q0, hq0⟩ := Since.refl y2.w
      rw [hq0]
      clear hq0
      rcases (by omega : e.f0 ≤ e.t0 ∨ (e.t0 < e.f0 ∧ k + 1 = r.legs.length) ∨ (e.t0 < e.f0 ∧ k + 1 < r.legs.length)) with hle | ⟨hgt, hkk⟩ | ⟨hgt, hkk⟩
      · have Hr := Lib.hid (show legsO op (r.legs.drop k) = legsO op (r.legs.drop (k + 1)) by rw [Hstep.out]; simp [hle])
        go_wp2_with fail
        obtain ⟨q, eq⟩ := y2.trans q0
        rw [eq]
        go_roundw
        case rel => exact ⟨k + 1, q, by omega, by go_num, rfl, by rw [Hch.out, Hr.out]⟩
        case measure => simp [intOf] <;> omega
      · have hkb : ((k : Int) == (r.legs.length : Int) - 1) = true := by simp; omega
        have Hkk := Lib.hid hkk; clear hkk
        cases op with
        | true =>
          have Hr := Lib.hid (show legsO true (r.legs.drop k) = legsO true (r.legs.drop (k + 1)) by rw [Hstep.out]; simp [Hkk.out])
          go_wp2_with fail
          obtain ⟨q, eq⟩ := y2.trans q0
          rw [eq]
          go_roundw
          case rel => exact ⟨k + 1, q, by omega, by go_num, rfl, by rw [Hch.out, Hr.out]⟩
          case measure => simp [intOf] <;> omega
        | false =>
          have Hr := Lib.hid (show orderedB r = false by rw [HO.out, Hch.out, Hstep.out]; simp; omega)
          go_wp2_with fail
          go_ret
          exact ⟨ret_bool Hr.out.symm, by obtain ⟨q, e⟩ := y2.trans q0; rw [e]; exact Hup.out q⟩
      · have hkb : ((k : Int) == (r.legs.length : Int) - 1) = false := by simp; omega
        have Hr := Lib.hid (show orderedB r = false by rw [HO.out, Hch.out, Hstep.out]; simp; omega)
        cases op
        all_goals
          go_wp2_with fail
          go_ret
          exact ⟨ret_bool Hr.out.symm, by obtain ⟨q, e⟩ := y2.trans q0; rw [e]; exact Hup.out q⟩
    · obtain rfl : k = r.legs.length := by omega
      rw [List.drop_length] at Hch
      have HO2 := Lib.hid (show orderedB r = (r.pauses.isEmpty || psesO op r.e0 r.s0 r.pauses) by rw [HO.out, Hch.out]; rfl)
      clear HO Hch
      go_wp2_with fail
      go_loopw [5, 43] (fun v i wr => ∃ (k : Nat) (a : Int) (y : Since W), k ≤ r.pauses.length ∧ i = .int .i64 k ∧ v = .int .i64 a ∧ wr = y.w ∧ psesO op r.e0 r.s0 r.pauses = psesO op r.e0 a (r.pauses.drop k)) (fun _ i _ => r.pauses.length - (intOf i).toNat)
      case atStart => exact ⟨0, r.s0, y, by omega, rfl, rfl, rfl, rfl⟩
      case round =>
        obtain ⟨k, a, y, hk, rfl, rfl, rfl, hch⟩ := hrel
        have Hch := Lib.hid hch; clear hch
        by_cases hlt : k < r.pauses.length
        · obtain ⟨e, he⟩ : ∃ e, r.pauses[k]? = some e := ⟨_, List.getElem?_eq_getElem hlt⟩
          obtain ⟨b1, off1, rfl, h1'⟩ := Els.pse HP.out he
          have pb0 := h1'.c0
          have pb1 := h1'.c1
          have pb2 := h1'.c2
          have pb3 := h1'.c3
          have hstep : psesO op r.e0 a (r.pauses.drop k) = (decide (a ≤ e.f0) && ((op && decide (k + 1 = r.pauses.length) && decide (e.t0 = 0)) || (decide (e.f0 ≤ e.t0) && psesO op r.e0 e.t0 (r.pauses.drop (k + 1))))) := by
            rw [drop_cons he, ← drop_last hlt]; rfl
          have Hstep := Lib.hid hstep
          have hne : r.pauses.isEmpty = false := by cases hh : r.pauses <;> simp_all
          have HO3 := Lib.hid (show orderedB r = psesO op r.e0 a (r.pauses.drop k) by rw [HO2.out, hne, Hch.out]; rfl)
          have hk0 : (0 : Int) ≤ (k : Int) := by omega
          have hkl : (k : Int) < (r.pauses.length : Int) := by omega
          clear h1' he hstep hne
          go_upto_region 11 with fail
          have hx0 : (y.w.alloc (.cells #[.int .i64 e.f0, .int .i64 e.f1, .int .i64 e.t0, .int .i64 e.t1] 85)).cell? ⟨y.w.heap.size, 0, none⟩ = some (.int .i64 e.f0) := by simp [go_sem]
          have hx1 : (y.w.alloc (.cells #[.int .i64 e.f0, .int .i64 e.f1, .int .i64 e.t0, .int .i64 e.t1] 85)).cell? ⟨y.w.heap.size, 1, none⟩ = some (.int .i64 e.f1) := by simp [go_sem]
          have hx2 : (y.w.alloc (.cells #[.int .i64 e.f0, .int .i64 e.f1, .int .i64 e.t0, .int .i64 e.t1] 85)).cell? ⟨y.w.heap.size, 2, none⟩ = some (.int .i64 e.t0) := by simp [go_sem]
          have hx3 : (y.w.alloc (.cells #[.int .i64 e.f0, .int .i64 e.f1, .int .i64 e.t0, .int .i64 e.t1] 85)).cell? ⟨y.w.heap.size, 3, none⟩ = some (.int .i64 e.t1) := by simp [go_sem]
          have hxf : ∀ o, (y.w.alloc (.cells #[.int .i64 e.f0, .int .i64 e.f1, .int .i64 e.t0, .int .i64 e.t1] 85)).frozen? ⟨y.w.heap.size, o, none⟩ = false := fun o => by simp [go_sem]
          have hlt0 : y.w.heap.size < (y.w.alloc (.cells #[.int .i64 e.f0, .int .i64 e.f1, .int .i64 e.t0, .int .i64 e.t1] 85)).heap.size := by simp
          have hst0 : ∃ zz : Since y.w, (y.w.alloc (.cells #[.int .i64 e.f0, .int .i64 e.f1, .int .i64 e.t0, .int .i64 e.t1] 85)) = zz.w := IsSince.alloc (IsSince.self _) _
          have hsz0 := y.b.size
          obtain ⟨y2, e2⟩ := IsSince.alloc (IsSince.of y) (.cells #[.int .i64 e.f0, .int .i64 e.f1, .int .i64 e.t0, .int .i64 e.t1] 85)
          rw [e2] at hx0 hx1 hx2 hx3 hxf hlt0 hst0 ⊢
          skip
          clear e2 hst0
          generalize y.w.heap.size = g at *
          have Hhx0 : ∀ q : Since y2.w, q.w.cell? ⟨g, 0, none⟩ = some (.int .i64 e.f0) := fun q => Since.cell hx0 (by omega) q
          have Hhx1 : ∀ q : Since y2.w, q.w.cell? ⟨g, 1, none⟩ = some (.int .i64 e.f1) := fun q => Since.cell hx1 (by omega) q
          have Hhx2 : ∀ q : Since y2.w, q.w.cell? ⟨g, 2, none⟩ = some (.int .i64 e.t0) := fun q => Since.cell hx2 (by omega) q
          have Hhx3 : ∀ q : Since y2.w, q.w.cell? ⟨g, 3, none⟩ = some (.int .i64 e.t1) := fun q => Since.cell hx3 (by omega) q
          have Hhxf : ∀ (q : Since y2.w) (o : Nat), q.w.frozen? ⟨g, o, none⟩ = false := fun q o => Since.free (hxf o) (by omega) q
          have Hhxg := Lib.hid (And.intro hsz0 hlt0)
          clear hlt0 hsz0
          replace hb0_0 := Since.cellTo ⟨y2, rfl⟩ hb0_0
          replace hb0_1 := Since.cellTo ⟨y2, rfl⟩ hb0_1
          replace hb0_2 := Since.cellTo ⟨y2, rfl⟩ hb0_2
          replace hb0_3 := Since.cellTo ⟨y2, rfl⟩ hb0_3
          replace hb0_4 := Since.cellTo ⟨y2, rfl⟩ hb0_4
          replace hb0_5 := Since.cellTo ⟨y2, rfl⟩ hb0_5
          replace hb0_6 := Since.cellTo ⟨y2, rfl⟩ hb0_6
          replace hb0_7 := Since.cellTo ⟨y2, rfl⟩ hb0_7
          replace hb0_8 := Since.cellTo ⟨y2, rfl⟩ hb0_8
          replace hb0_9 := Since.cellTo ⟨y2, rfl⟩ hb0_9
          replace hb0_10 := Since.cellTo ⟨y2, rfl⟩ hb0_10
          replace hb0_11 := Since.cellTo ⟨y2, rfl⟩ hb0_11
          replace hb0_12 := Since.cellTo ⟨y2, rfl⟩ hb0_12
          obtain ⟨q0, hq0⟩ := Since.refl y2.w
          rw [hq0]
          clear hq0
          by_cases hfa : e.f0 < a
          · have Hr := Lib.hid (show orderedB r = false by rw [HO3.out, Hstep.out, decide_eq_false (by omega)]; rfl)
            go_wp2_with fail
            go_ret
            exact ⟨ret_bool Hr.out.symm, by obtain ⟨q, e⟩ := y2.trans q0; rw [e]; exact Hup.out q⟩
          have hfa' : a ≤ e.f0 := by omega
          by_cases hret : op = true ∧ k + 1 = r.pauses.length ∧ e.t0 = 0
          · obtain ⟨rfl, hkk, ht0⟩ := hret
            have Hr := Lib.hid (show orderedB r = true by rw [HO3.out, Hstep.out, decide_eq_true hfa', decide_eq_true hkk, decide_eq_true ht0]; rfl)
            have hkb : ((k : Int) == (r.pauses.length : Int) - 1) = true := by simp; omega
            have htb : (e.t0 == 0) = true := by simpa using ht0
            have Hkk := Lib.hid hkk; have Ht0 := Lib.hid ht0
            clear hkk ht0 hfa
            go_wp2_with fail
            go_ret
            exact ⟨ret_bool Hr.out.symm, by obtain ⟨q, e⟩ := y2.trans q0; rw [e]; exact Hup.out q⟩
          have hno : (op && decide (k + 1 = r.pauses.length) && decide (e.t0 = 0)) = false := by
            cases op
            · rfl
            · by_cases h1 : k + 1 = r.pauses.length
              · by_cases h2 : e.t0 = 0
                · exact (hret ⟨rfl, h1, h2⟩).elim
                · simp [h2]
              · simp [h1]
          have Hno := Lib.hid hno
          have hcase : (op = false) ∨ (op = true ∧ ((k : Int) == (r.pauses.length : Int) - 1) = false) ∨ (op = true ∧ ((k : Int) == (r.pauses.length : Int) - 1) = true ∧ (e.t0 == 0) = false) := by
            cases op
            · exact .inl rfl
            · by_cases h1 : k + 1 = r.pauses.length
              · exact .inr (.inr ⟨rfl, by simp; omega, by simp; intro h2; exact hret ⟨rfl, h1, h2⟩⟩)
              · exact .inr (.inl ⟨rfl, by simp; omega⟩)
          clear hno hret hfa
          by_cases hft : e.f0 ≤ e.t0
          · have Hr := Lib.hid (show psesO op r.e0 a (r.pauses.drop k) = psesO op r.e0 e.t0 (r.pauses.drop (k + 1)) by rw [Hstep.out, Hno.out, decide_eq_true hfa', decide_eq_true hft]; rfl)
            rcases hcase with rfl | ⟨rfl, hkb⟩ | ⟨rfl, hkb, htb⟩
            all_goals
              go_wp2_with fail
              obtain ⟨q, eq⟩ := y2.trans q0
              rw [eq]
              go_roundw
              case rel => exact ⟨k + 1, e.t0, q, by omega, by go_num, rfl, rfl, by rw [Hch.out, Hr.out]⟩
              case measure => simp [intOf] <;> omega
          · have Hr := Lib.hid (show orderedB r = false by rw [HO3.out, Hstep.out, Hno.out, decide_eq_true hfa', decide_eq_false hft]; rfl)
            rcases hcase with rfl | ⟨rfl, hkb⟩ | ⟨rfl, hkb, htb⟩
            all_goals
              go_wp2_with fail
              go_ret
              exact ⟨ret_bool Hr.out.symm, by obtain ⟨q, e⟩ := y2.trans q0; rw [e]; exact Hup.out q⟩
        · obtain rfl : k = r.pauses.length := by omega
          rw [List.drop_length] at Hch
          have HO3 := Lib.hid (show orderedB r = (decide (r.pauses.length = 0) || op || decide (a ≤ r.e0)) by
            rw [HO2.out, Hch.out]
            have : r.pauses.isEmpty = decide (r.pauses.length = 0) := by rw [Bool.eq_iff_iff]; simp
            rw [this, Bool.or_assoc]; rfl)
          clear HO2 Hch
          have hcase : op = true ∨ (op = false ∧ ((r.pauses.length : Int) == 0) = true ∧ orderedB r = true) ∨ (op = false ∧ ((r.pauses.length : Int) == 0) = false ∧ orderedB r = decide (a ≤ r.e0)) := by
            cases op
            · by_cases h0 : r.pauses.length = 0
              · exact .inr (.inl ⟨rfl, by simp; simpa using h0, by rw [HO3.out, decide_eq_true h0]; rfl⟩)
              · exact .inr (.inr ⟨rfl, by simp; simpa using h0, by rw [HO3.out, decide_eq_false h0]; rfl⟩)
            · exact .inl rfl
          rcases hcase with rfl | ⟨rfl, h0, hr⟩ | ⟨rfl, h0, hr⟩
          · have Hr := Lib.hid (show orderedB r = true by rw [HO3.out]; simp)
            go_wp2_with fail
            go_ret
            exact ⟨ret_bool Hr.out.symm, Hup.out _⟩
          · have Hr := Lib.hid hr; clear hr
            go_wp2_with fail
            go_ret
            exact ⟨ret_bool Hr.out.symm, Hup.out _⟩
          · have Hr := Lib.hid hr; clear hr
            go_wp2_with fail
            go_ret
            exact ⟨ret_bool Hr.out.symm, Hup.out _⟩
end Go.Proofs.Ytbkfcdheckkjaaa
