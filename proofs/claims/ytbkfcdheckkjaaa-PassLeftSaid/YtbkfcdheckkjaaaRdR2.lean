/- The walks of the reference's check of a ride, second part: the legs follow one another. -/
import Derived.Test.YtbkfcdheckkjaaaRdR1
import Derived.Test.YtbkfcdheckkjaaaRdW3
import Derived.IntWalk
set_option linter.all false
namespace Go.Proofs.Ytbkfcdheckkjaaa
open Go.RowKit

/-- leg i begins where leg i - 1 ends -/
def linkB (l : List Leg) (i : Nat) : Bool := match l[i]?, l[i - 1]? with | some x, some y => decide (x.f0 = y.t0) && decide (x.f1 = y.t1) | _, _ => true
theorem linkB_at {l : List Leg} {i : Nat} {x y : Leg} (hx : l[i]? = some x) (hy : l[i - 1]? = some y) : linkB l i = (decide (x.f0 = y.t0) && decide (x.f1 = y.t1)) := by unfold linkB; rw [hx, hy]
theorem chainL_iff : ∀ (l : List Leg) (a0 a1 e0 e1 : Int) (x y : Leg), l[0]? = some x → l[l.length - 1]? = some y →
    (chainL a0 a1 l e0 e1 = true ↔ (x.f0 = a0 ∧ x.f1 = a1) ∧ (y.t0 = e0 ∧ y.t1 = e1) ∧ ∀ i, 1 ≤ i → i < l.length → linkB l i = true)
  | [], _, _, _, _, _, _, h, _ => by simp at h
  | [z], a0, a1, e0, e1, x, y, hx, hy => by
    simp at hx hy; subst hx; subst hy
    simp only [chainL, Bool.and_eq_true, decide_eq_true_eq, List.length_cons, List.length_nil]
    constructor
    · rintro ⟨h1, h2⟩; exact ⟨h1, h2, fun i h h' => by omega⟩
    · rintro ⟨h1, h2, _⟩; exact ⟨h1, h2⟩
  | z :: z2 :: l, a0, a1, e0, e1, x, y, hx, hy => by
    simp at hx; subst hx
    have hy' : (z2 :: l)[(z2 :: l).length - 1]? = some y := by
      simp only [List.length_cons, Nat.add_sub_cancel] at hy ⊢
      rw [← hy]; simp
    have ih := chainL_iff (z2 :: l) z.t0 z.t1 e0 e1 z2 y rfl hy'
    show (decide (z.f0 = a0) && decide (z.f1 = a1) && chainL z.t0 z.t1 (z2 :: l) e0 e1) = true ↔ _
    rw [Bool.and_eq_true, ih, Bool.and_eq_true, decide_eq_true_eq, decide_eq_true_eq]
    constructor
    · rintro ⟨h1, h2, h3, h4⟩
      refine ⟨h1, h3, fun i hi hil => ?_⟩
      by_cases hi1 : i = 1
      · subst hi1
        rw [linkB_at (x := z2) (y := z) rfl rfl]; simp [h2]
      · have := h4 (i - 1) (by omega) (by simp at hil ⊢; omega)
        unfold linkB at this ⊢
        obtain ⟨j, rfl⟩ : ∃ j, i = j + 2 := ⟨i - 2, by omega⟩
        simpa using this
    · rintro ⟨h1, h3, h4⟩
      have h2 := h4 1 (by omega) (by simp)
      rw [linkB_at (x := z2) (y := z) rfl rfl, Bool.and_eq_true, decide_eq_true_eq, decide_eq_true_eq] at h2
      refine ⟨h1, h2, h3, fun i hi hil => ?_⟩
      have := h4 (i + 1) (by omega) (by simp at hil ⊢; omega)
      unfold linkB at this ⊢
      obtain ⟨j, rfl⟩ : ∃ j, i = j + 1 := ⟨i - 1, by omega⟩
      simpa using this
set_option maxRecDepth 100000 in
set_option maxHeartbeats 8000000 in
theorem rjoined_calls (w : World) (x : Since w) (r : Ride) (h : r.At w) :
    Calls Try.prog 50 #[.agg #[.int .i64 r.id, .int .i64 r.rd, .int .i64 r.s0, .int .i64 r.s1, .int .i64 r.e0, .int .i64 r.e1, .bool r.op, .slice r.la r.legs.length r.lc, .slice r.pa r.pauses.length r.pc, .int .i64 r.fw, .int .i64 r.fp, .int .i64 r.wh, .int .i64 r.pl]] x.w fun o w' => o = .returned (.bool (joinedB r)) ∧ ∃ y : Since w, w' = y.w := by
  have HL := Lib.hid h.l
  have hlm := h.lm
  have hpm := h.pm
  clear h
  generalize r.la = la at HL ⊢
  rcases (by omega : r.legs.length < 1 ∨ (1 ≤ r.legs.length ∧ 512 < r.legs.length) ∨ (1 ≤ r.legs.length ∧ r.legs.length ≤ 512 ∧ 512 < r.pauses.length) ∨ (1 ≤ r.legs.length ∧ r.legs.length ≤ 512 ∧ r.pauses.length ≤ 512)) with h1 | ⟨h1, h2⟩ | ⟨h1, h2, h3⟩ | ⟨h1, h2, h3⟩
  case inr.inr.inr =>
    have hj : joinedB r = chainL r.s0 r.s1 r.legs r.e0 r.e1 := by unfold joinedB; simp [h1, h2, h3]
    obtain ⟨u, hu⟩ : ∃ e, r.legs[0]? = some e := ⟨_, List.getElem?_eq_getElem (by omega)⟩
    obtain ⟨v, hv⟩ : ∃ e, r.legs[r.legs.length - 1]? = some e := ⟨_, List.getElem?_eq_getElem (by omega)⟩
    have hci := chainL_iff r.legs r.s0 r.s1 r.e0 r.e1 u v hu hv
    rw [← hj] at hci
    have Hci := Lib.hid hci
    go_enter Try.func50, Try.ntmps50
    go_upto_region 1 with fail
    have hb0_0 : ∀ y : Since (x.w.alloc (.cells #[.int .i64 r.id, .int .i64 r.rd, .int .i64 r.s0, .int .i64 r.s1, .int .i64 r.e0, .int .i64 r.e1, .bool r.op, .slice la r.legs.length r.lc, .slice r.pa r.pauses.length r.pc, .int .i64 r.fw, .int .i64 r.fp, .int .i64 r.wh, .int .i64 r.pl] 44)), y.w.cell? ⟨x.w.heap.size, 0, none⟩ = some (.int .i64 r.id) := fun y => Since.cell (by simp [go_sem]) (by first | (simp; done) | (simp; omega)) y
    have hb0_1 : ∀ y : Since (x.w.alloc (.cells #[.int .i64 r.id, .int .i64 r.rd, .int .i64 r.s0, .int .i64 r.s1, .int .i64 r.e0, .int .i64 r.e1, .bool r.op, .slice la r.legs.length r.lc, .slice r.pa r.pauses.length r.pc, .int .i64 r.fw, .int .i64 r.fp, .int .i64 r.wh, .int .i64 r.pl] 44)), y.w.cell? ⟨x.w.heap.size, 1, none⟩ = some (.int .i64 r.rd) := fun y => Since.cell (by simp [go_sem]) (by first | (simp; done) | (simp; omega)) y
    have hb0_2 : ∀ y : Since (x.w.alloc (.cells #[.int .i64 r.id, .int .i64 r.rd, .int .i64 r.s0, .int .i64 r.s1, .int .i64 r.e0, .int .i64 r.e1, .bool r.op, .slice la r.legs.length r.lc, .slice r.pa r.pauses.length r.pc, .int .i64 r.fw, .int .i64 r.fp, .int .i64 r.wh, .int .i64 r.pl] 44)), y.w.cell? ⟨x.w.heap.size, 2, none⟩ = some (.int .i64 r.s0) := fun y => Since.cell (by simp [go_sem]) (by first | (simp; done) | (simp; omega)) y
    have hb0_3 : ∀ y : Since (x.w.alloc (.cells #[.int .i64 r.id, .int .i64 r.rd, .int .i64 r.s0, .int .i64 r.s1, .int .i64 r.e0, .int .i64 r.e1, .bool r.op, .slice la r.legs.length r.lc, .slice r.pa r.pauses.length r.pc, .int .i64 r.fw, .int .i64 r.fp, .int .i64 r.wh, .int .i64 r.pl] 44)), y.w.cell? ⟨x.w.heap.size, 3, none⟩ = some (.int .i64 r.s1) := fun y => Since.cell (by simp [go_sem]) (by first | (simp; done) | (simp; omega)) y
    have hb0_4 : ∀ y : Since (x.w.alloc (.cells #[.int .i64 r.id, .int .i64 r.rd, .int .i64 r.s0, .int .i64 r.s1, .int .i64 r.e0, .int .i64 r.e1, .bool r.op, .slice la r.legs.length r.lc, .slice r.pa r.pauses.length r.pc, .int .i64 r.fw, .int .i64 r.fp, .int .i64 r.wh, .int .i64 r.pl] 44)), y.w.cell? ⟨x.w.heap.size, 4, none⟩ = some (.int .i64 r.e0) := fun y => Since.cell (by simp [go_sem]) (by first | (simp; done) | (simp; omega)) y
    have hb0_5 : ∀ y : Since (x.w.alloc (.cells #[.int .i64 r.id, .int .i64 r.rd, .int .i64 r.s0, .int .i64 r.s1, .int .i64 r.e0, .int .i64 r.e1, .bool r.op, .slice la r.legs.length r.lc, .slice r.pa r.pauses.length r.pc, .int .i64 r.fw, .int .i64 r.fp, .int .i64 r.wh, .int .i64 r.pl] 44)), y.w.cell? ⟨x.w.heap.size, 5, none⟩ = some (.int .i64 r.e1) := fun y => Since.cell (by simp [go_sem]) (by first | (simp; done) | (simp; omega)) y
    have hb0_6 : ∀ y : Since (x.w.alloc (.cells #[.int .i64 r.id, .int .i64 r.rd, .int .i64 r.s0, .int .i64 r.s1, .int .i64 r.e0, .int .i64 r.e1, .bool r.op, .slice la r.legs.length r.lc, .slice r.pa r.pauses.length r.pc, .int .i64 r.fw, .int .i64 r.fp, .int .i64 r.wh, .int .i64 r.pl] 44)), y.w.cell? ⟨x.w.heap.size, 6, none⟩ = some (.bool r.op) := fun y => Since.cell (by simp [go_sem]) (by first | (simp; done) | (simp; omega)) y
    have hb0_7 : ∀ y : Since (x.w.alloc (.cells #[.int .i64 r.id, .int .i64 r.rd, .int .i64 r.s0, .int .i64 r.s1, .int .i64 r.e0, .int .i64 r.e1, .bool r.op, .slice la r.legs.length r.lc, .slice r.pa r.pauses.length r.pc, .int .i64 r.fw, .int .i64 r.fp, .int .i64 r.wh, .int .i64 r.pl] 44)), y.w.cell? ⟨x.w.heap.size, 7, none⟩ = some (.slice la r.legs.length r.lc) := fun y => Since.cell (by simp [go_sem]) (by first | (simp; done) | (simp; omega)) y
    have hb0_8 : ∀ y : Since (x.w.alloc (.cells #[.int .i64 r.id, .int .i64 r.rd, .int .i64 r.s0, .int .i64 r.s1, .int .i64 r.e0, .int .i64 r.e1, .bool r.op, .slice la r.legs.length r.lc, .slice r.pa r.pauses.length r.pc, .int .i64 r.fw, .int .i64 r.fp, .int .i64 r.wh, .int .i64 r.pl] 44)), y.w.cell? ⟨x.w.heap.size, 8, none⟩ = some (.slice r.pa r.pauses.length r.pc) := fun y => Since.cell (by simp [go_sem]) (by first | (simp; done) | (simp; omega)) y
    have hb0_9 : ∀ y : Since (x.w.alloc (.cells #[.int .i64 r.id, .int .i64 r.rd, .int .i64 r.s0, .int .i64 r.s1, .int .i64 r.e0, .int .i64 r.e1, .bool r.op, .slice la r.legs.length r.lc, .slice r.pa r.pauses.length r.pc, .int .i64 r.fw, .int .i64 r.fp, .int .i64 r.wh, .int .i64 r.pl] 44)), y.w.cell? ⟨x.w.heap.size, 9, none⟩ = some (.int .i64 r.fw) := fun y => Since.cell (by simp [go_sem]) (by first | (simp; done) | (simp; omega)) y
    have hb0_10 : ∀ y : Since (x.w.alloc (.cells #[.int .i64 r.id, .int .i64 r.rd, .int .i64 r.s0, .int .i64 r.s1, .int .i64 r.e0, .int .i64 r.e1, .bool r.op, .slice la r.legs.length r.lc, .slice r.pa r.pauses.length r.pc, .int .i64 r.fw, .int .i64 r.fp, .int .i64 r.wh, .int .i64 r.pl] 44)), y.w.cell? ⟨x.w.heap.size, 10, none⟩ = some (.int .i64 r.fp) := fun y => Since.cell (by simp [go_sem]) (by first | (simp; done) | (simp; omega)) y
    have hb0_11 : ∀ y : Since (x.w.alloc (.cells #[.int .i64 r.id, .int .i64 r.rd, .int .i64 r.s0, .int .i64 r.s1, .int .i64 r.e0, .int .i64 r.e1, .bool r.op, .slice la r.legs.length r.lc, .slice r.pa r.pauses.length r.pc, .int .i64 r.fw, .int .i64 r.fp, .int .i64 r.wh, .int .i64 r.pl] 44)), y.w.cell? ⟨x.w.heap.size, 11, none⟩ = some (.int .i64 r.wh) := fun y => Since.cell (by simp [go_sem]) (by first | (simp; done) | (simp; omega)) y
    have hb0_12 : ∀ y : Since (x.w.alloc (.cells #[.int .i64 r.id, .int .i64 r.rd, .int .i64 r.s0, .int .i64 r.s1, .int .i64 r.e0, .int .i64 r.e1, .bool r.op, .slice la r.legs.length r.lc, .slice r.pa r.pauses.length r.pc, .int .i64 r.fw, .int .i64 r.fp, .int .i64 r.wh, .int .i64 r.pl] 44)), y.w.cell? ⟨x.w.heap.size, 12, none⟩ = some (.int .i64 r.pl) := fun y => Since.cell (by simp [go_sem]) (by first | (simp; done) | (simp; omega)) y
    have hf0 : ∀ (y : Since (x.w.alloc (.cells #[.int .i64 r.id, .int .i64 r.rd, .int .i64 r.s0, .int .i64 r.s1, .int .i64 r.e0, .int .i64 r.e1, .bool r.op, .slice la r.legs.length r.lc, .slice r.pa r.pauses.length r.pc, .int .i64 r.fw, .int .i64 r.fp, .int .i64 r.wh, .int .i64 r.pl] 44))) (o : Nat), y.w.frozen? ⟨x.w.heap.size, o, none⟩ = false := fun y o => Since.free (by simp [go_sem]) (by first | (simp; done) | (simp; omega)) y
    have hWup : ∃ z : Since w, (x.w.alloc (.cells #[.int .i64 r.id, .int .i64 r.rd, .int .i64 r.s0, .int .i64 r.s1, .int .i64 r.e0, .int .i64 r.e1, .bool r.op, .slice la r.legs.length r.lc, .slice r.pa r.pauses.length r.pc, .int .i64 r.fw, .int .i64 r.fp, .int .i64 r.wh, .int .i64 r.pl] 44)) = z.w := x.alloc _
    obtain ⟨y0, hy0⟩ := Since.refl (x.w.alloc (.cells #[.int .i64 r.id, .int .i64 r.rd, .int .i64 r.s0, .int .i64 r.s1, .int .i64 r.e0, .int .i64 r.e1, .bool r.op, .slice la r.legs.length r.lc, .slice r.pa r.pauses.length r.pc, .int .i64 r.fw, .int .i64 r.fp, .int .i64 r.wh, .int .i64 r.pl] 44))
    have Hbx := Lib.hid (And.intro x.b.size (show x.w.heap.size + 1 = (x.w.alloc (.cells #[.int .i64 r.id, .int .i64 r.rd, .int .i64 r.s0, .int .i64 r.s1, .int .i64 r.e0, .int .i64 r.e1, .bool r.op, .slice la r.legs.length r.lc, .slice r.pa r.pauses.length r.pc, .int .i64 r.fw, .int .i64 r.fp, .int .i64 r.wh, .int .i64 r.pl] 44)).heap.size from by simp))
    generalize hW : (x.w.alloc (.cells #[.int .i64 r.id, .int .i64 r.rd, .int .i64 r.s0, .int .i64 r.s1, .int .i64 r.e0, .int .i64 r.e1, .bool r.op, .slice la r.legs.length r.lc, .slice r.pa r.pauses.length r.pc, .int .i64 r.fw, .int .i64 r.fp, .int .i64 r.wh, .int .i64 r.pl] 44)) = W at *
    clear hW
    generalize x.w.heap.size = bx at *
    have Hup := Lib.hid (Since.up hWup)
    rw [hy0]
    clear hy0
    replace HL := Lib.hid (HL.out.to hWup)
    clear hWup hj hci
    obtain ⟨b1, off1, rfl, h1'⟩ := Els.leg HL.out hu
    obtain ⟨b2, off2, hbo, h2'⟩ := Els.leg HL.out hv
    obtain ⟨rfl, rfl⟩ : b1 = b2 ∧ off1 = off2 := by simpa using hbo
    have pa0 := h1'.c0
    have pa1 := h1'.c1
    have pa2 := h1'.c2
    have pa3 := h1'.c3
    have pa4 := h1'.c4
    have qa0 := h2'.c0
    have qa1 := h2'.c1
    have qa2 := h2'.c2
    have qa3 := h2'.c3
    have qa4 := h2'.c4
    simp only [Nat.zero_mul, Nat.add_zero] at pa0 pa1 pa2 pa3 pa4
    first | have hd1 : decide ((r.legs.length : Int) < 1) = true := decide_eq_true (by omega) | have hd1 : decide ((r.legs.length : Int) < 1) = false := decide_eq_false (by omega)
    try first | have hd2 : decide ((512 : Int) < (r.legs.length : Int)) = true := decide_eq_true (by omega) | have hd2 : decide ((512 : Int) < (r.legs.length : Int)) = false := decide_eq_false (by omega)
    try first | have hd3 : decide ((512 : Int) < (r.pauses.length : Int)) = true := decide_eq_true (by omega) | have hd3 : decide ((512 : Int) < (r.pauses.length : Int)) = false := decide_eq_false (by omega)
    have heq0 := span_equal
    have hgd := span_guard
    have Heq := Lib.hid heq0; clear heq0
    have heq := Heq.out u.f0 u.f1 r.s0 r.s1
    have heq2 := Heq.out v.t0 v.t1 r.e0 r.e1
    have hm1 : (0 : Int) < (r.legs.length : Int) := by omega
    have hmw : IntKind.i64.wrap ((r.legs.length : Int) - 1) = ((r.legs.length - 1 : Nat) : Int) := by rw [show (r.legs.length : Int) - 1 = ((r.legs.length - 1 : Nat) : Int) by omega]; exact IntWalk.i64_in _ (by omega)
    have hmr : (0 : Int) ≤ ((r.legs.length - 1 : Nat) : Int) := by omega
    have hml : ((r.legs.length - 1 : Nat) : Int) < (r.legs.length : Int) := by omega
    clear hbo h1' h2' hu hv
    cases hb : (decide (u.f0 = r.s0) && decide (u.f1 = r.s1)) with
    | false =>
      rw [hb] at heq
      have Hr := Lib.hid (show joinedB r = false by
        cases hh : joinedB r
        · rfl
        · have := (Hci.out.1 hh).1; simp [this] at hb)
      clear hb
      go_wp2_with fail
      refine wp_region_since (by kernel_rfl) (by kernel_rfl) ?_
      repeat (go_big_quiet_step (fail))
      refine wpQuiet_nil ?_
      rintro _ ⟨y1, rfl⟩
      go_wp2_with fail
      go_ret
      exact ⟨ret_bool Hr.out.symm, Hup.out _⟩
    | true =>
      rw [hb] at heq
      have Hb := Lib.hid hb; clear hb
      cases hb2 : (decide (v.t0 = r.e0) && decide (v.t1 = r.e1)) with
      | false =>
        rw [hb2] at heq2
        have Hr := Lib.hid (show joinedB r = false by
          cases hh : joinedB r
          · rfl
          · have := (Hci.out.1 hh).2.1; simp [this] at hb2)
        clear hb2
        go_wp2_with fail
        refine wp_region_since (by kernel_rfl) (by kernel_rfl) ?_
        repeat (go_big_quiet_step (fail))
        refine wpQuiet_nil ?_
        rintro _ ⟨y1, rfl⟩
        go_wp2_with fail
        go_ret
        exact ⟨ret_bool Hr.out.symm, Hup.out _⟩
      | true =>
        rw [hb2] at heq2
        have Hb2 := Lib.hid hb2; clear hb2
        go_wp2_with fail
        refine wp_region_since (by kernel_rfl) (by kernel_rfl) ?_
        repeat (go_big_quiet_step (fail))
        refine wpQuiet_nil ?_
        rintro _ ⟨y1, rfl⟩
        clear pa0 pa1 pa2 pa3 pa4 qa0 qa1 qa2 qa3 qa4 heq heq2 hmw hmr hml
        go_wp2_with fail
        go_loopw [4] (fun i wr => ∃ (m : Nat) (y : Since W), 1 ≤ m ∧ m ≤ r.legs.length ∧ i = .int .i64 m ∧ wr = y.w ∧ ∀ i, 1 ≤ i → i < m → linkB r.legs i = true) (fun i _ => r.legs.length - (intOf i).toNat)
        case atStart => exact ⟨1, _, by omega, by omega, rfl, rfl, fun i hi hil => by omega⟩
        case round =>
          obtain ⟨m, y, hm1', hm2, rfl, rfl, hok⟩ := hrel
          have Hok := Lib.hid hok; clear hok
          by_cases hlt : m < r.legs.length
          · obtain ⟨u2, hu⟩ : ∃ e, r.legs[m]? = some e := ⟨_, List.getElem?_eq_getElem hlt⟩
            obtain ⟨v2, hv⟩ : ∃ e, r.legs[m - 1]? = some e := ⟨_, List.getElem?_eq_getElem (by omega)⟩
            obtain ⟨c1, of1, hbo1, h1'⟩ := Els.leg HL.out hu
            obtain ⟨rfl, rfl⟩ : b1 = c1 ∧ off1 = of1 := by simpa using hbo1
            obtain ⟨c2, of2, hbo2, h2'⟩ := Els.leg HL.out hv
            obtain ⟨rfl, rfl⟩ : b1 = c2 ∧ off1 = of2 := by simpa using hbo2
            have pa0 := h1'.c0
            have pa1 := h1'.c1
            have pa2 := h1'.c2
            have pa3 := h1'.c3
            have pa4 := h1'.c4
            have qa0 := h2'.c0
            have qa1 := h2'.c1
            have qa2 := h2'.c2
            have qa3 := h2'.c3
            have qa4 := h2'.c4
            have hm3 : (0 : Int) < (m : Int) := by omega
            have hmw : IntKind.i64.wrap ((m : Int) - 1) = ((m - 1 : Nat) : Int) := by rw [show (m : Int) - 1 = ((m - 1 : Nat) : Int) by omega]; exact IntWalk.i64_in _ (by omega)
            have hmr : (0 : Int) ≤ ((m - 1 : Nat) : Int) := by omega
            have hml : ((m - 1 : Nat) : Int) < (r.legs.length : Int) := by omega
            have hmk : (0 : Int) ≤ (m : Int) := by omega
            have hmj : (m : Int) < (r.legs.length : Int) := by omega
            have Hlk := Lib.hid (linkB_at hu hv)
            have heq := Heq.out u2.f0 u2.f1 v2.t0 v2.t1
            clear hbo1 hbo2 h1' h2' hu hv
            cases hb : (decide (u2.f0 = v2.t0) && decide (u2.f1 = v2.t1)) with
            | false =>
              rw [hb] at heq Hlk
              have Hr := Lib.hid (show joinedB r = false by
                cases hh : joinedB r
                · rfl
                · have := (Hci.out.1 hh).2.2 m hm1' hlt; rw [Hlk.out] at this; cases this)
              clear hb
              go_wp2_with fail
              refine wp_region_since (by kernel_rfl) (by kernel_rfl) ?_
              repeat (go_big_quiet_step (fail))
              refine wpQuiet_nil ?_
              rintro _ ⟨y2, rfl⟩
              clear pa0 pa1 pa2 pa3 pa4 qa0 qa1 qa2 qa3 qa4 heq hmw hmr hml
              go_wp2_with fail
              go_ret
              exact ⟨ret_bool Hr.out.symm, Hup.out _⟩
            | true =>
              rw [hb] at heq Hlk
              clear hb
              go_wp2_with fail
              refine wp_region_since (by kernel_rfl) (by kernel_rfl) ?_
              repeat (go_big_quiet_step (fail))
              refine wpQuiet_nil ?_
              rintro _ ⟨y2, rfl⟩
              clear pa0 pa1 pa2 pa3 pa4 qa0 qa1 qa2 qa3 qa4 heq hmw hmr hml
              go_wp2_with fail
              go_roundw
              case rel => exact ⟨m + 1, y2, by omega, by omega, by go_num, rfl, fun i hi hil => by
                by_cases him : i < m
                · exact Hok.out i hi him
                · obtain rfl : i = m := by omega
                  exact Hlk.out⟩
              case measure => simp [intOf] <;> omega
          · obtain rfl : m = r.legs.length := by omega
            have Hr := Lib.hid (show joinedB r = true from Hci.out.2 ⟨by simpa using Hb.out, by simpa using Hb2.out, Hok.out⟩)
            go_wp2_with fail
            go_ret
            exact ⟨ret_bool Hr.out.symm, Hup.out _⟩
  all_goals
    have Hr := Lib.hid (show joinedB r = false by
      cases hh : joinedB r
      · rfl
      · unfold joinedB at hh
        simp only [Bool.and_eq_true, decide_eq_true_eq] at hh
        omega)
    go_enter Try.func50, Try.ntmps50
    go_upto_region 1 with fail
    have hb0_0 : ∀ y : Since (x.w.alloc (.cells #[.int .i64 r.id, .int .i64 r.rd, .int .i64 r.s0, .int .i64 r.s1, .int .i64 r.e0, .int .i64 r.e1, .bool r.op, .slice la r.legs.length r.lc, .slice r.pa r.pauses.length r.pc, .int .i64 r.fw, .int .i64 r.fp, .int .i64 r.wh, .int .i64 r.pl] 44)), y.w.cell? ⟨x.w.heap.size, 0, none⟩ = some (.int .i64 r.id) := fun y => Since.cell (by simp [go_sem]) (by first | (simp; done) | (simp; omega)) y
    have hb0_1 : ∀ y : Since (x.w.alloc (.cells #[.int .i64 r.id, .int .i64 r.rd, .int .i64 r.s0, .int .i64 r.s1, .int .i64 r.e0, .int .i64 r.e1, .bool r.op, .slice la r.legs.length r.lc, .slice r.pa r.pauses.length r.pc, .int .i64 r.fw, .int .i64 r.fp, .int .i64 r.wh, .int .i64 r.pl] 44)), y.w.cell? ⟨x.w.heap.size, 1, none⟩ = some (.int .i64 r.rd) := fun y => Since.cell (by simp [go_sem]) (by first | (simp; done) | (simp; omega)) y
    have hb0_2 : ∀ y : Since (x.w.alloc (.cells #[.int .i64 r.id, .int .i64 r.rd, .int .i64 r.s0, .int .i64 r.s1, .int .i64 r.e0, .int .i64 r.e1, .bool r.op, .slice la r.legs.length r.lc, .slice r.pa r.pauses.length r.pc, .int .i64 r.fw, .int .i64 r.fp, .int .i64 r.wh, .int .i64 r.pl] 44)), y.w.cell? ⟨x.w.heap.size, 2, none⟩ = some (.int .i64 r.s0) := fun y => Since.cell (by simp [go_sem]) (by first | (simp; done) | (simp; omega)) y
    have hb0_3 : ∀ y : Since (x.w.alloc (.cells #[.int .i64 r.id, .int .i64 r.rd, .int .i64 r.s0, .int .i64 r.s1, .int .i64 r.e0, .int .i64 r.e1, .bool r.op, .slice la r.legs.length r.lc, .slice r.pa r.pauses.length r.pc, .int .i64 r.fw, .int .i64 r.fp, .int .i64 r.wh, .int .i64 r.pl] 44)), y.w.cell? ⟨x.w.heap.size, 3, none⟩ = some (.int .i64 r.s1) := fun y => Since.cell (by simp [go_sem]) (by first | (simp; done) | (simp; omega)) y
    have hb0_4 : ∀ y : Since (x.w.alloc (.cells #[.int .i64 r.id, .int .i64 r.rd, .int .i64 r.s0, .int .i64 r.s1, .int .i64 r.e0, .int .i64 r.e1, .bool r.op, .slice la r.legs.length r.lc, .slice r.pa r.pauses.length r.pc, .int .i64 r.fw, .int .i64 r.fp, .int .i64 r.wh, .int .i64 r.pl] 44)), y.w.cell? ⟨x.w.heap.size, 4, none⟩ = some (.int .i64 r.e0) := fun y => Since.cell (by simp [go_sem]) (by first | (simp; done) | (simp; omega)) y
    have hb0_5 : ∀ y : Since (x.w.alloc (.cells #[.int .i64 r.id, .int .i64 r.rd, .int .i64 r.s0, .int .i64 r.s1, .int .i64 r.e0, .int .i64 r.e1, .bool r.op, .slice la r.legs.length r.lc, .slice r.pa r.pauses.length r.pc, .int .i64 r.fw, .int .i64 r.fp, .int .i64 r.wh, .int .i64 r.pl] 44)), y.w.cell? ⟨x.w.heap.size, 5, none⟩ = some (.int .i64 r.e1) := fun y => Since.cell (by simp [go_sem]) (by first | (simp; done) | (simp; omega)) y
    have hb0_6 : ∀ y : Since (x.w.alloc (.cells #[.int .i64 r.id, .int .i64 r.rd, .int .i64 r.s0, .int .i64 r.s1, .int .i64 r.e0, .int .i64 r.e1, .bool r.op, .slice la r.legs.length r.lc, .slice r.pa r.pauses.length r.pc, .int .i64 r.fw, .int .i64 r.fp, .int .i64 r.wh, .int .i64 r.pl] 44)), y.w.cell? ⟨x.w.heap.size, 6, none⟩ = some (.bool r.op) := fun y => Since.cell (by simp [go_sem]) (by first | (simp; done) | (simp; omega)) y
    have hb0_7 : ∀ y : Since (x.w.alloc (.cells #[.int .i64 r.id, .int .i64 r.rd, .int .i64 r.s0, .int .i64 r.s1, .int .i64 r.e0, .int .i64 r.e1, .bool r.op, .slice la r.legs.length r.lc, .slice r.pa r.pauses.length r.pc, .int .i64 r.fw, .int .i64 r.fp, .int .i64 r.wh, .int .i64 r.pl] 44)), y.w.cell? ⟨x.w.heap.size, 7, none⟩ = some (.slice la r.legs.length r.lc) := fun y => Since.cell (by simp [go_sem]) (by first | (simp; done) | (simp; omega)) y
    have hb0_8 : ∀ y : Since (x.w.alloc (.cells #[.int .i64 r.id, .int .i64 r.rd, .int .i64 r.s0, .int .i64 r.s1, .int .i64 r.e0, .int .i64 r.e1, .bool r.op, .slice la r.legs.length r.lc, .slice r.pa r.pauses.length r.pc, .int .i64 r.fw, .int .i64 r.fp, .int .i64 r.wh, .int .i64 r.pl] 44)), y.w.cell? ⟨x.w.heap.size, 8, none⟩ = some (.slice r.pa r.pauses.length r.pc) := fun y => Since.cell (by simp [go_sem]) (by first | (simp; done) | (simp; omega)) y
    have hb0_9 : ∀ y : Since (x.w.alloc (.cells #[.int .i64 r.id, .int .i64 r.rd, .int .i64 r.s0, .int .i64 r.s1, .int .i64 r.e0, .int .i64 r.e1, .bool r.op, .slice la r.legs.length r.lc, .slice r.pa r.pauses.length r.pc, .int .i64 r.fw, .int .i64 r.fp, .int .i64 r.wh, .int .i64 r.pl] 44)), y.w.cell? ⟨x.w.heap.size, 9, none⟩ = some (.int .i64 r.fw) := fun y => Since.cell (by simp [go_sem]) (by first | (simp; done) | (simp; omega)) y
    have hb0_10 : ∀ y : Since (x.w.alloc (.cells #[.int .i64 r.id, .int .i64 r.rd, .int .i64 r.s0, .int .i64 r.s1, .int .i64 r.e0, .int .i64 r.e1, .bool r.op, .slice la r.legs.length r.lc, .slice r.pa r.pauses.length r.pc, .int .i64 r.fw, .int .i64 r.fp, .int .i64 r.wh, .int .i64 r.pl] 44)), y.w.cell? ⟨x.w.heap.size, 10, none⟩ = some (.int .i64 r.fp) := fun y => Since.cell (by simp [go_sem]) (by first | (simp; done) | (simp; omega)) y
    have hb0_11 : ∀ y : Since (x.w.alloc (.cells #[.int .i64 r.id, .int .i64 r.rd, .int .i64 r.s0, .int .i64 r.s1, .int .i64 r.e0, .int .i64 r.e1, .bool r.op, .slice la r.legs.length r.lc, .slice r.pa r.pauses.length r.pc, .int .i64 r.fw, .int .i64 r.fp, .int .i64 r.wh, .int .i64 r.pl] 44)), y.w.cell? ⟨x.w.heap.size, 11, none⟩ = some (.int .i64 r.wh) := fun y => Since.cell (by simp [go_sem]) (by first | (simp; done) | (simp; omega)) y
    have hb0_12 : ∀ y : Since (x.w.alloc (.cells #[.int .i64 r.id, .int .i64 r.rd, .int .i64 r.s0, .int .i64 r.s1, .int .i64 r.e0, .int .i64 r.e1, .bool r.op, .slice la r.legs.length r.lc, .slice r.pa r.pauses.length r.pc, .int .i64 r.fw, .int .i64 r.fp, .int .i64 r.wh, .int .i64 r.pl] 44)), y.w.cell? ⟨x.w.heap.size, 12, none⟩ = some (.int .i64 r.pl) := fun y => Since.cell (by simp [go_sem]) (by first | (simp; done) | (simp; omega)) y
    have hf0 : ∀ (y : Since (x.w.alloc (.cells #[.int .i64 r.id, .int .i64 r.rd, .int .i64 r.s0, .int .i64 r.s1, .int .i64 r.e0, .int .i64 r.e1, .bool r.op, .slice la r.legs.length r.lc, .slice r.pa r.pauses.length r.pc, .int .i64 r.fw, .int .i64 r.fp, .int .i64 r.wh, .int .i64 r.pl] 44))) (o : Nat), y.w.frozen? ⟨x.w.heap.size, o, none⟩ = false := fun y o => Since.free (by simp [go_sem]) (by first | (simp; done) | (simp; omega)) y
    have hWup : ∃ z : Since w, (x.w.alloc (.cells #[.int .i64 r.id, .int .i64 r.rd, .int .i64 r.s0, .int .i64 r.s1, .int .i64 r.e0, .int .i64 r.e1, .bool r.op, .slice la r.legs.length r.lc, .slice r.pa r.pauses.length r.pc, .int .i64 r.fw, .int .i64 r.fp, .int .i64 r.wh, .int .i64 r.pl] 44)) = z.w := x.alloc _
    obtain ⟨y0, hy0⟩ := Since.refl (x.w.alloc (.cells #[.int .i64 r.id, .int .i64 r.rd, .int .i64 r.s0, .int .i64 r.s1, .int .i64 r.e0, .int .i64 r.e1, .bool r.op, .slice la r.legs.length r.lc, .slice r.pa r.pauses.length r.pc, .int .i64 r.fw, .int .i64 r.fp, .int .i64 r.wh, .int .i64 r.pl] 44))
    have Hbx := Lib.hid (And.intro x.b.size (show x.w.heap.size + 1 = (x.w.alloc (.cells #[.int .i64 r.id, .int .i64 r.rd, .int .i64 r.s0, .int .i64 r.s1, .int .i64 r.e0, .int .i64 r.e1, .bool r.op, .slice la r.legs.length r.lc, .slice r.pa r.pauses.length r.pc, .int .i64 r.fw, .int .i64 r.fp, .int .i64 r.wh, .int .i64 r.pl] 44)).heap.size from by simp))
    generalize hW : (x.w.alloc (.cells #[.int .i64 r.id, .int .i64 r.rd, .int .i64 r.s0, .int .i64 r.s1, .int .i64 r.e0, .int .i64 r.e1, .bool r.op, .slice la r.legs.length r.lc, .slice r.pa r.pauses.length r.pc, .int .i64 r.fw, .int .i64 r.fp, .int .i64 r.wh, .int .i64 r.pl] 44)) = W at *
    clear hW
    generalize x.w.heap.size = bx at *
    have Hup := Lib.hid (Since.up hWup)
    rw [hy0]
    clear hy0
    clear hWup
    first | have hd1 : decide ((r.legs.length : Int) < 1) = true := decide_eq_true (by omega) | have hd1 : decide ((r.legs.length : Int) < 1) = false := decide_eq_false (by omega)
    try first | have hd2 : decide ((512 : Int) < (r.legs.length : Int)) = true := decide_eq_true (by omega) | have hd2 : decide ((512 : Int) < (r.legs.length : Int)) = false := decide_eq_false (by omega)
    try first | have hd3 : decide ((512 : Int) < (r.pauses.length : Int)) = true := decide_eq_true (by omega) | have hd3 : decide ((512 : Int) < (r.pauses.length : Int)) = false := decide_eq_false (by omega)
    go_wp2_with fail
    refine wp_region_since (by kernel_rfl) (by kernel_rfl) ?_
    repeat (go_big_quiet_step (fail))
    refine wpQuiet_nil ?_
    rintro _ ⟨y1, rfl⟩
    go_wp2_with fail
    go_ret
    exact ⟨ret_bool Hr.out.symm, Hup.out _⟩
end Go.Proofs.Ytbkfcdheckkjaaa
