/- The walks of the reference's check of a ride, second part: the legs follow one another. -/
import Derived.Test.YtdmmjapccgeffaaTrMb
import Derived.IntWalk
import Derived.Deep.QuietTactic
import Derived.BigQuiet
import Derived.Shelf.SlSortCmp.NoneTotal
import Derived.Test.YtdmmjapccgeffaaProg
import Derived.Deep.RegionWith
set_option linter.all false
namespace Go.Proofs.Ytdmmjapccgeffaa
open Go.RowKit

/-- leg i begins where leg i - 1 ends -/
def linkB (l : List Leg) (i : Nat) : Bool := match l[i]?, l[i - 1]? with | some x, some y => decide (x.f0 = y.t0) && decide (x.f1 = y.t1) | _, _ => true
theorem linkB_at {l : List Leg} {i : Nat} {x y : Leg} (hx : l[i]? = some x) (hy : l[i - 1]? = some y) : linkB l i = (decide (x.f0 = y.t0) && decide (x.f1 = y.t1)) := by unfold linkB; rw [hx, hy]
theorem chainL_iff : ∀ (l : List Leg) (a0 a1 e0 e1 : Int) (x y : Leg), l[0]? = some x → l[l.length - 1]? = some y →
    (chainL a0 a1 l e0 e1 = true ↔ (x.f0 = a0 ∧ x.f1 = a1) ∧ (y.t0 = e0 ∧ y.t1 = e1) ∧ ∀ i, 1 ≤ i → i < l.length → linkB l i = true)
  | [], _, _, _, _, _, _, h, _ => by simp at h
  | [z], a0, a1, e0, e1, x, y, hx, hy => by
    simp at hx hy; subst hx; subst hy
    simp only [chainL, Bool.and_eq_true, decide_eq_true_eq, List.length_cons, List.length_nil]
    constructor
    · rintro ⟨h1, h2⟩; exact ⟨h1, h2, fun i h h' => by omega⟩
    · rintro ⟨h1, h2, _⟩; exact ⟨h1, h2⟩
  | z :: z2 :: l, a0, a1, e0, e1, x, y, hx, hy => by
    simp at hx; subst hx
    have hy' : (z2 :: l)[(z2 :: l).length - 1]? = some y := by
      simp only [List.length_cons, Nat.add_sub_cancel] at hy ⊢
      rw [← hy]; simp
    have ih := chainL_iff (z2 :: l) z.t0 z.t1 e0 e1 z2 y rfl hy'
    show (decide (z.f0 = a0) && decide (z.f1 = a1) && chainL z.t0 z.t1 (z2 :: l) e0 e1) = true ↔ _
    rw [Bool.and_eq_true, ih, Bool.and_eq_true, decide_eq_true_eq, decide_eq_true_eq]
    constructor
    · rintro ⟨h1, h2, h3, h4⟩
      refine ⟨h1, h3, fun i hi hil => ?_⟩
      by_cases hi1 : i = 1
      · subst hi1
        rw [linkB_at (x := z2) (y := z) rfl rfl]; simp [h2]
      · have := h4 (i - 1) (by omega) (by simp at hil ⊢; omega)
        unfold linkB at this ⊢
        obtain ⟨j, rfl⟩ : ∃ j, i = j + 2 := ⟨i - 2, by omega⟩
        simpa using this
    · rintro ⟨h1, h3, h4⟩
      have h2 := h4 1 (by omega) (by simp)
      rw [linkB_at (x := z2) (y := z) rfl rfl, Bool.and_eq_true, decide_eq_true_eq, decide_eq_true_eq] at h2
      refine ⟨h1, h2, h3, fun i hi hil => ?_⟩
      have := h4 (i + 1) (by omega) (by simp at hil ⊢; omega)
      unfold linkB at this ⊢
      obtain ⟨j, rfl⟩ : ∃ j, i = j + 1 := ⟨i - 1, by omega⟩
      simpa using this
set_option maxRecDepth 100000 in
set_option maxHeartbeats 8000000 in
theorem rjoined_calls (w : World) (x : Since w) (r : Ride) (h : r.At w) :
    Calls Try.prog 55 #[.agg #[.int .i64 r.id, .int .i64 r.rd, .int .i64 r.s0, .int .i64 r.s1, .int .i64 r.e0, .int .i64 r.e1, .bool r.op, .slice r.la r.legs.length r.lc, .slice r.pa r.pauses.length r.pc, .int .i64 r.fw, .int .i64 r.fp, .int .i64 r.wh, .int .i64 r.pl]] x.w fun o w' => o = .returned (.bool (joinedB r)) ∧ ∃ y : Since w, w' = y.w := by
  have HL := Lib.hid h.l
  have hlm := h.lm
  have hpm := h.pm
  clear h
  generalize r.la = la at HL ⊢
  rcases (by omega : r.legs.length < 1 ∨ (1 ≤ r.legs.length ∧ 512 < r.legs.length) ∨ (1 ≤ r.legs.length ∧ r.legs.length ≤ 512 ∧ 512 < r.pauses.length) ∨ (1 ≤ r.legs.length ∧ r.legs.length ≤ 512 ∧ r.pauses.length ≤ 512)) with h1 | ⟨h1, h2⟩ | ⟨h1, h2, h3⟩ | ⟨h1, h2, h3⟩
  case inr.inr.inr =>
    have hj : joinedB r = chainL r.s0 r.s1 r.legs r.e0 r.e1 := by unfold joinedB; simp [h1, h2, h3]
    obtain ⟨u, hu⟩ : ∃ e, r.legs[0]? = some e := ⟨_, List.getElem?_eq_getElem (by omega)⟩
    obtain ⟨v, hv⟩ : ∃ e, r.legs[r.legs.length - 1]? = some e := ⟨_, List.getElem?_eq_getElem (by omega)⟩
    have hci := chainL_iff r.legs r.s0 r.s1 r.e0 r.e1 u v hu hv
    rw [← hj] at hci
    have Hci := Lib.hid hci
    go_enter Try.func55, Try.ntmps55
    go_upto_region 1 with fail
    have hb0_0 : ∀ y : Since (x.w.alloc (.cells #[.int .i64 r.id, .int .i64 r.rd, .int .i64 r.s0, .int .i64 r.s1, .int .i64 r.e0, .int .i64 r.e1, .bool r.op, .slice la r.legs.length r.lc, .slice r.pa r.pauses.length r.pc, .int .i64 r.fw, .int .i64 r.fp, .int .i64 r.wh, .int .i64 r.pl] 52)), y.w.cell? ⟨x.w.heap.size, 0, none⟩ = some (.int .i64 r.id) := fun y => Since.cell (by simp [go_sem]) (by first | (simp; done) | (simp; omega)) y
    have hb0_1 : ∀ y : Since (x.w.alloc (.cells #[.int .i64 r.id, .int .i64 r.rd, .int .i64 r.s0, .int .i64 r.s1, .int .i64 r.e0, .int .i64 r.e1, .bool r.op, .slice la r.legs.length r.lc, .slice r.pa r.pauses.length r.pc, .int .i64 r.fw, .int .i64 r.fp, .int .i64 r.wh, .int .i64 r.pl] 52)), y.w.cell? ⟨x.w.heap.size, 1, none⟩ = some (.int .i64 r.rd) := fun y => Since.cell (by simp [go_sem]) (by first | (simp; done) | (simp; omega)) y
    have hb0_2 : ∀ y : Since (x.w.alloc (.cells #[.int .i64 r.id, .int .i64 r.rd, .int .i64 r.s0, .int .i64 r.s1, .int .i64 r.e0, .int .i64 r.e1, .bool r.op, .slice la r.legs.length r.lc, .slice r.pa r.pauses.length r.pc, .int .i64 r.fw, .int .i64 r.fp, .int .i64 r.wh, .int .i64 r.pl] 52)), y.w.cell? ⟨x.w.heap.size, 2, none⟩ = some (.int .i64 r.s0) := fun y => Since.cell (by simp [go_sem]) (by first | (simp; done) | (simp; omega)) y
    have hb0_3 : ∀ y : Since (x.w.alloc (.cells #[.int .i64 r.id, .int .i64 r.rd, .int .i64 r.s0, .int .i64 r.s1, .int .i64 r.e0, .int .i64 r.e1, .bool r.op, .slice la r.legs.length r.lc, .slice r.pa r.pauses.length r.pc, .int .i64 r.fw, .int .i64 r.fp, .int .i64 r.wh, .int .i64 r.pl] 52)), y.w.cell? ⟨x.w.heap.size, 3, none⟩ = some (.int .i64 r.s1) := fun y => Since.cell (by simp [go_sem]) (by first | (simp; done) | (simp; omega)) y
    have hb0_4 : ∀ y : Since (x.w.alloc (.cells #[.int .i64 r.id, .int .i64 r.rd, .int .i64 r.s0, .int .i64 r.s1, .int .i64 r.e0, .int .i64 r.e1, .bool r.op, .slice la r.legs.length r.lc, .slice r.pa r.pauses.length r.pc, .int .i64 r.fw, .int .i64 r.fp, .int .i64 r.wh, .int .i64 r.pl] 52)), y.w.cell? ⟨x.w.heap.size, 4, none⟩ = some (.int .i64 r.e0) := fun y => Since.cell (by simp [go_sem]) (by first | (simp; done) | (simp; omega)) y
    have hb0_5 : ∀ y : Since (x.w.alloc (.cells #[.int .i64 r.id, .int .i64 r.rd, .int .i64 r.s0, .int .i64 r.s1, .int .i64 r.e0, .int .i64 r.e1, .bool r.op, .slice la r.legs.length r.lc, .slice r.pa r.pauses.length r.pc, .int .i64 r.fw, .int .i64 r.fp, .int .i64 r.wh, .int .i64 r.pl] 52)), y.w.cell? ⟨x.w.heap.size, 5, none⟩ = some (.int .i64 r.e1) := fun y => Since.cell (by simp [go_sem]) (by first | (simp; done) | (simp; omega)) y
    have hb0_6 : ∀ y : Since (x.w.alloc (.cells #[.int .i64 r.id, .int .i64 r.rd, .int .i64 r.s0, .int .i64 r.s1, .int .i64 r.e0, .int .i64 r.e1, .bool r.op, .slice la r.legs.length r.lc, .slice r.pa r.pauses.length r.pc, .int .i64 r.fw, .int .i64 r.fp, .int .i64 r.wh, .int .i64 r.pl] 52)), y.w.cell? ⟨x.w.heap.size, 6, none⟩ = some (.bool r.op) := fun y => Since.cell (by simp [go_sem]) (by first | (simp; done) | (simp; omega)) y
    have hb0_7 : ∀ y : Since (x.w.alloc (.cells #[.int .i64 r.id, .int .i64 r.rd, .int .i64 r.s0, .int .i64 r.s1, .int .i64 r.e0, .int .i64 r.e1, .bool r.op, .slice la r.legs.length r.lc, .slice r.pa r.pauses.length r.pc, .int .i64 r.fw, .int .i64 r.fp, .int .i64 r.wh, .int .i64 r.pl] 52)), y.w.cell? ⟨x.w.heap.size, 7, none⟩ = some (.slice la r.legs.length r.lc) := fun y => Since.cell (by simp [go_sem]) (by first | (simp; done) | (simp; omega)) y
    have hb0_8 : ∀ y : Since (x.w.alloc (.cells #[.int .i64 r.id, .int .i64 r.rd, .int .i64 r.s0, .int .i64 r.s1, .int .i64 r.e0, .int .i64 r.e1, .bool r.op, .slice la r.legs.length r.lc, .slice r.pa r.pauses.length r.pc, .int .i64 r.fw, .int .i64 r.fp, .int .i64 r.wh, .int .i64 r.pl] 52)), y.w.cell? ⟨x.w.heap.size, 8, none⟩ = some (.slice r.pa r.pauses.length r.pc) := fun y => Since.cell (by simp [go_sem]) (by first | (simp; done) | (simp; omega)) y
    have hb0_9 : ∀ y : Since (x.w.alloc (.cells #[.int .i64 r.id, .int .i64 r.rd, .int .i64 r.s0, .int .i64 r.s1, .int .i64 r.e0, .int .i64 r.e1, .bool r.op, .slice la r.legs.length r.lc, .slice r.pa r.pauses.length r.pc, .int .i64 r.fw, .int .i64 r.fp, .int .i64 r.wh, .int .i64 r.pl] 52)), y.w.cell? ⟨x.w.heap.size, 9, none⟩ = some (.int .i64 r.fw) := fun y => Since.cell (by simp [go_sem]) (by first | (simp; done) | (simp; omega)) y
    have hb0_10 : ∀ y : Since (x.w.alloc (.cells #[.int .i64 r.id, .int .i64 r.rd, .int .i64 r.s0, .int .i64 r.s1, .int .i64 r.e0, .int .i64 r.e1, .bool r.op, .slice la r.legs.length r.lc, .slice r.pa r.pauses.length r.pc, .int .i64 r.fw, .int .i64 r.fp, .int .i64 r.wh, .int .i64 r.pl] 52)), y.w.cell? ⟨x.w.heap.size, 10, none⟩ = some (.int .i64 r.fp) := fun y => Since.cell (by simp [go_sem]) (by first | (simp; done) | (simp; omega)) y
    have hb0_11 : ∀ y : Since (x.w.alloc (.cells #[.int .i64 r.id, .int .i64 r.rd, .int .i64 r.s0, .int .i64 r.s1, .int .i64 r.e0, .int .i64 r.e1, .bool r.op, .slice la r.legs.length r.lc, .slice r.pa r.pauses.length r.pc, .int .i64 r.fw, .int .i64 r.fp, .int .i64 r.wh, .int .i64 r.pl] 52)), y.w.cell? ⟨x.w.heap.size, 11, none⟩ = some (.int .i64 r.wh) := fun y => Since.cell (by simp [go_sem]) (by first | (simp; done) | (simp; omega)) y
    have hb0_12 : ∀ y : Since (x.w.alloc (.cells #[.int .i64 r.id, .int .i64 r.rd, .int .i64 r.s0, .int .i64 r.s1, .int .i64 r.e0, .int .i64 r.e1, .bool r.op, .slice la r.legs.length r.lc, .slice r.pa r.pauses.length r.pc, .int .i64 r.fw, .int .i64 r.fp, .int .i64 r.wh, .int .i64 r.pl] 52)), y.w.cell? ⟨x.w.heap.size, 12, none⟩ = some (.int .i64 r.pl) := fun y => Since.cell (by simp [go_sem]) (by first | (simp; done) | (simp; omega)) y
    have hf0 : ∀ (y : Since (x.w.alloc (.cells #[.int .i64 r.id, .int .i64 r.rd, .int .i64 r.s0, .int .i64 r.s1, .int .i64 r.e0, .int .i64 r.e1, .bool r.op, .slice la r.legs.length r.lc, .slice r.pa r.pauses.length r.pc, .int .i64 r.fw, .int .i64 r.fp, .int .i64 r.wh, .int .i64 r.pl] 52))) (o : Nat), y.w.frozen? ⟨x.w.heap.size, o, none⟩ = false := fun y o => Since.free (by simp [go_sem]) (by first | (simp; done) | (simp; omega)) y
    have hWup : ∃ z : Since w, (x.w.alloc (.cells #[.int .i64 r.id, .int .i64 r.rd, .int .i64 r.s0, .int .i64 r.s1, .int .i64 r.e0, .int .i64 r.e1, .bool r.op, .slice la r.legs.length r.lc, .slice r.pa r.pauses.length r.pc, .int .i64 r.fw, .int .i64 r.fp, .int .i64 r.wh, .int .i64 r.pl] 52)) = z.w := x.alloc _
    obtain ⟨y0, hy0⟩ := Since.refl (x.w.alloc (.cells #[.int .i64 r.id, .int .i64 r.rd, .int .i64 r.s0, .int .i64 r.s1, .int .i64 r.e0, .int .i64 r.e1, .bool r.op, .slice la r.legs.length r.lc, .slice r.pa r.pauses.length r.pc, .int .i64 r.fw, .int .i64 r.fp, .int .i64 r.wh, .int .i64 r.pl] 52))
    have Hbx := Lib.hid (And.intro x.b.size (show x.w.heap.size + 1 = (x.w.alloc (.cells #[.int .i64 r.id, .int .i64 r.rd, .int .i64 r.s0, .int .i64 r.s1, .int .i64 r.e0, .int .i64 r.e1, .bool r.op, .slice la r.legs.length r.lc, .slice r.pa r.pauses.length r.pc, .int .i64 r.fw, .int .i64 r.fp, .int .i64 r.wh, .int .i64 r.pl] 52)).heap.size from by simp))
    generalize hW : (x.w.alloc (.cells #[.int .i64 r.id, .int .i64 r.rd, .int .i64 r.s0, .int .i64 r.s1, .int .i64 r.e0, .int .i64 r.e1, .bool r.op, .slice la r.legs.length r.lc, .slice r.pa r.pauses.length r.pc, .int .i64 r.fw, .int .i64 r.fp, .int .i64 r.wh, .int .i64 r.pl] 52)) = W at *
    clear hW
    generalize x.w.heap.size = bx at *
    have Hup := Lib.hid (Since.up hWup)
    rw [hy0]
    clear hy0
    replace HL := Lib.hid (HL.out.to hWup)
    clear hWup hj hci
    obtain ⟨b1, off1, rfl, h1'⟩ := Els.leg HL.out hu
    obtain ⟨b2, off2, hbo, h2'⟩ := Els.leg HL.out hv
    obtain ⟨rfl, rfl⟩ : b1 = b2 ∧ off1 = off2 := by simpa using hbo
    have pa0 := h1'.c0
    have pa1 := h1'.c1
    have pa2 := h1'.c2
    have pa3 := h1'.c3
    have pa4 := h1'.c4
    have qa0 := h2'.c0
    have qa1 := h2'.c1
    have qa2 := h2'.c2
    have qa3 := h2'.c3
    have qa4 := h2'.c4
    simp only [Nat.zero_mul, Nat.add_zero] at pa0 pa1 pa2 pa3 pa4
    first | have hd1 : decide ((r.legs.length : Int) < 1) = true := decide_eq_true (by omega) | have hd1 : decide ((r.legs.length : Int) < 1) = false := decide_eq_false (by omega)
    try first | have hd2 : decide ((512 : Int) < (r.legs.length : Int)) = true := decide_eq_true (by omega) | have hd2 : decide ((512 : Int) < (r.legs.length : Int)) = false := decide_eq_false (by omega)
    try first | have hd3 : decide ((512 : Int) < (r.pauses.length : Int)) = true := decide_eq_true (by omega) | have hd3 : decide ((512 : Int) < (r.pauses.length : Int)) = false := decide_eq_false (by omega)
    have heq0 := span_equal
    have hgd := span_guard
    have Heq := Lib.hid heq0; clear heq0
    have heq := Heq.out u.f0 u.f1 r.s0 r.s1
    have heq2 := Heq.out v.t0 v.t1 r.e0 r.e1
    have hm1 : (0 : Int) < (r.legs.length : Int) := by omega
    have hmw : IntKind.i64.wrap ((r.legs.length : Int) - 1) = ((r.legs.length - 1 : Nat) : Int) := by rw [show (r.legs.length : Int) - 1 = ((r.legs.length - 1 : Nat) : Int) by omega]; exact IntWalk.i64_in _ (by omega)
    have hmr : (0 : Int) ≤ ((r.legs.length - 1 : Nat) : Int) := by omega
    have hml : ((r.legs.length - 1 : Nat) : Int) < (r.legs.length : Int) := by omega
    clear hbo h1' h2' hu hv
    cases hb : (decide (u.f0 = r.s0) && decide (u.f1 = r.s1)) with
    | false =>
      rw [hb] at heq
      have Hr := Lib.hid (show joinedB r = false by
        cases hh : joinedB r
        · rfl
        · have := (Hci.out.1 hh).1; simp [this] at hb)
      clear hb
      go_wp2_with fail
      refine wp_region_since (by kernel_rfl) (by kernel_rfl) ?_
      repeat (go_big_quiet_step (fail))
      refine wpQuiet_nil ?_
      rintro _ ⟨y1, rfl⟩
      go_wp2_with fail
      go_ret
      exact ⟨ret_bool Hr.out.symm, Hup.out _⟩
    | true =>
      rw [hb] at heq
      have Hb := Lib.hid hb; clear hb
      cases hb2 : (decide (v.t0 = r.e0) && decide (v.t1 = r.e1)) with
      | false =>
        rw [hb2] at heq2
        have Hr := Lib.hid (show joinedB r = false by
          cases hh : joinedB r
          · rfl
          · have := (Hci.out.1 hh).2.1; simp [this] at hb2)
        clear hb2
        go_wp2_with fail
        refine wp_region_since (by kernel_rfl) (by kernel_rfl) ?_
        repeat (go_big_quiet_step (fail))
        refine wpQuiet_nil ?_
        rintro _ ⟨y1, rfl⟩
        go_wp2_with fail
        go_ret
        exact ⟨ret_bool Hr.out.symm, Hup.out _⟩
      | true =>
        rw [hb2] at heq2
        have Hb2 := Lib.hid hb2; clear hb2
        go_wp2_with fail
        refine wp_region_since (by kernel_rfl) (by kernel_rfl) ?_
        repeat (go_big_quiet_step (fail))
        refine wpQuiet_nil ?_
        rintro _ ⟨y1, rfl⟩
        clear pa0 pa1 pa2 pa3 pa4 qa0 qa1 qa2 qa3 qa4 heq heq2 hmw hmr hml
        go_wp2_with fail
        go_loopw [4] (fun i wr => ∃ (m : Nat) (y : Since W), 1 ≤ m ∧ m ≤ r.legs.length ∧ i = .int .i64 m ∧ wr = y.w ∧ ∀ i, 1 ≤ i → i < m → linkB r.legs i = true) (fun i _ => r.legs.length - (intOf i).toNat)
        case atStart => exact ⟨1, _, by omega, by omega, rfl, rfl, fun i hi hil => by omega⟩
        case round =>
          obtain ⟨m, y, hm1', hm2, rfl, rfl, hok⟩ := hrel
          have Hok := Lib.hid hok; clear hok
          by_cases hlt : m < r.legs.length
          · obtain ⟨u2, hu⟩ : ∃ e, r.legs[m]? = some e := ⟨_, List.getElem?_eq_getElem hlt⟩
            obtain ⟨v2, hv⟩ : ∃ e, r.legs[m - 1]? = some e := ⟨_, List.getElem?_eq_getElem (by omega)⟩
            obtain ⟨c1, of1, hbo1, h1'⟩ := Els.leg HL.out hu
            obtain ⟨rfl, rfl⟩ : b1 = c1 ∧ off1 = of1 := by simpa using hbo1
            obtain ⟨c2, of2, hbo2, h2'⟩ := Els.leg HL.out hv
            obtain ⟨rfl, rfl⟩ : b1 = c2 ∧ off1 = of2 := by simpa using hbo2
            have pa0 := h1'.c0
            have pa1 := h1'.c1
            have pa2 := h1'.c2
            have pa3 := h1'.c3
            have pa4 := h1'.c4
            have qa0 := h2'.c0
            have qa1 := h2'.c1
            have qa2 := h2'.c2
            have qa3 := h2'.c3
            have qa4 := h2'.c4
            have hm3 : (0 : Int) < (m : Int) := by omega
            have hmw : IntKind.i64.wrap ((m : Int) - 1) = ((m - 1 : Nat) : Int) := by rw [show (m : Int) - 1 = ((m - 1 : Nat) : Int) by omega]; exact IntWalk.i64_in _ (by omega)
            have hmr : (0 : Int) ≤ ((m - 1 : Nat) : Int) := by omega
            have hml : ((m - 1 : Nat) : Int) < (r.legs.length : Int) := by omega
            have hmk : (0 : Int) ≤ (m : Int) := by omega
            have hmj : (m : Int) < (r.legs.length : Int) := by omega
            have Hlk := Lib.hid (linkB_at hu hv)
            have heq := Heq.out u2.f0 u2.f1 v2.t0 v2.t1
            clear hbo1 hbo2 h1' h2' hu hv
            cases hb : (decide (u2.f0 = v2.t0) && decide (u2.f1 = v2.t1)) with
            | false =>
              rw [hb] at heq Hlk
              have Hr := Lib.hid (show joinedB r = false by
                cases hh : joinedB r
                · rfl
                · have := (Hci.out.1 hh).2.2 m hm1' hlt; rw [Hlk.out] at this; cases this)
              clear hb
              go_wp2_with fail
              refine wp_region_since (by kernel_rfl) (by kernel_rfl) ?_
              repeat (go_big_quiet_step (fail))
              refine wpQuiet_nil ?_
              rintro _ ⟨y2, rfl⟩
              clear pa0 pa1 pa2 pa3 pa4 qa0 qa1 qa2 qa3 qa4 heq hmw hmr hml
              go_wp2_with fail
              go_ret
              exact ⟨ret_bool Hr.out.symm, Hup.out _⟩
            | true =>
              rw [hb] at heq Hlk
              clear hb
              go_wp2_with fail
              refine wp_region_since (by kernel_rfl) (by kernel_rfl) ?_
              repeat (go_big_quiet_step (fail))
              refine wpQuiet_nil ?_
              rintro _ ⟨y2, rfl⟩
              clear pa0 pa1 pa2 pa3 pa4 qa0 qa1 qa2 qa3 qa4 heq hmw hmr hml
              go_wp2_with fail
              go_roundw
              case rel => exact ⟨m + 1, y2, by omega, by omega, by go_num, rfl, fun i hi hil => by
                by_cases him : i < m
                · exact Hok.out i hi him
                · obtain rfl : i = m := by omega
                  exact Hlk.out⟩
              case measure => simp [intOf] <;> omega
          · obtain rfl : m = r.legs.length := by omega
            have Hr := Lib.hid (show joinedB r = true from Hci.out.2 ⟨by simpa using Hb.out, by simpa using Hb2.out, Hok.out⟩)
            go_wp2_with fail
            go_ret
            exact ⟨ret_bool Hr.out.symm, Hup.out _⟩
  all_goals
    have Hr := Lib.hid (show joinedB r = false by
      cases hh : joinedB r
      · rfl
      · unfold joinedB at hh
        simp only [Bool.and_eq_true, decide_eq_true_eq] at hh
        omega)
    go_enter Try.func55, Try.ntmps55
    go_upto_region 1 with fail
    have hb0_0 : ∀ y : Since (x.w.alloc (.cells #[.int .i64 r.id, .int .i64 r.rd, .int .i64 r.s0, .int .i64 r.s1, .int .i64 r.e0, .int .i64 r.e1, .bool r.op, .slice la r.legs.length r.lc, .slice r.pa r.pauses.length r.pc, .int .i64 r.fw, .int .i64 r.fp, .int .i64 r.wh, .int .i64 r.pl] 52)), y.w.cell? ⟨x.w.heap.size, 0, none⟩ = some (.int .i64 r.id) := fun y => Since.cell (by simp [go_sem]) (by first | (simp; done) | (simp; omega)) y
    have hb0_1 : ∀ y : Since (x.w.alloc (.cells #[.int .i64 r.id, .int .i64 r.rd, .int .i64 r.s0, .int .i64 r.s1, .int .i64 r.e0, .int .i64 r.e1, .bool r.op, .slice la r.legs.length r.lc, .slice r.pa r.pauses.length r.pc, .int .i64 r.fw, .int .i64 r.fp, .int .i64 r.wh, .int .i64 r.pl] 52)), y.w.cell? ⟨x.w.heap.size, 1, none⟩ = some (.int .i64 r.rd) := fun y => Since.cell (by simp [go_sem]) (by first | (simp; done) | (simp; omega)) y
    have hb0_2 : ∀ y : Since (x.w.alloc (.cells #[.int .i64 r.id, .int .i64 r.rd, .int .i64 r.s0, .int .i64 r.s1, .int .i64 r.e0, .int .i64 r.e1, .bool r.op, .slice la r.legs.length r.lc, .slice r.pa r.pauses.length r.pc, .int .i64 r.fw, .int .i64 r.fp, .int .i64 r.wh, .int .i64 r.pl] 52)), y.w.cell? ⟨x.w.heap.size, 2, none⟩ = some (.int .i64 r.s0) := fun y => Since.cell (by simp [go_sem]) (by first | (simp; done) | (simp; omega)) y
    have hb0_3 : ∀ y : Since (x.w.alloc (.cells #[.int .i64 r.id, .int .i64 r.rd, .int .i64 r.s0, .int .i64 r.s1, .int .i64 r.e0, .int .i64 r.e1, .bool r.op, .slice la r.legs.length r.lc, .slice r.pa r.pauses.length r.pc, .int .i64 r.fw, .int .i64 r.fp, .int .i64 r.wh, .int .i64 r.pl] 52)), y.w.cell? ⟨x.w.heap.size, 3, none⟩ = some (.int .i64 r.s1) := fun y => Since.cell (by simp [go_sem]) (by first | (simp; done) | (simp; omega)) y
    have hb0_4 : ∀ y : Since (x.w.alloc (.cells #[.int .i64 r.id, .int .i64 r.rd, .int .i64 r.s0, .int .i64 r.s1, .int .i64 r.e0, .int .i64 r.e1, .bool r.op, .slice la r.legs.length r.lc, .slice r.pa r.pauses.length r.pc, .int .i64 r.fw, .int .i64 r.fp, .int .i64 r.wh, .int .i64 r.pl] 52)), y.w.cell? ⟨x.w.heap.size, 4, none⟩ = some (.int .i64 r.e0) := fun y => Since.cell (by simp [go_sem]) (by first | (simp; done) | (simp; omega)) y
    have hb0_5 : ∀ y : Since (x.w.alloc (.cells #[.int .i64 r.id, .int .i64 r.rd, .int .i64 r.s0, .int .i64 r.s1, .int .i64 r.e0, .int .i64 r.e1, .bool r.op, .slice la r.legs.length r.lc, .slice r.pa r.pauses.length r.pc, .int .i64 r.fw, .int .i64 r.fp, .int .i64 r.wh, .int .i64 r.pl] 52)), y.w.cell? ⟨x.w.heap.size, 5, none⟩ = some (.int .i64 r.e1) := fun y => Since.cell (by simp [go_sem]) (by first | (simp; done) | (simp; omega)) y
    have hb0_6 : ∀ y : Since (x.w.alloc (.cells #[.int .i64 r.id, .int .i64 r.rd, .int .i64 r.s0, .int .i64 r.s1, .int .i64 r.e0, .int .i64 r.e1, .bool r.op, .slice la r.legs.length r.lc, .slice r.pa r.pauses.length r.pc, .int .i64 r.fw, .int .i64 r.fp, .int .i64 r.wh, .int .i64 r.pl] 52)), y.w.cell? ⟨x.w.heap.size, 6, none⟩ = some (.bool r.op) := fun y => Since.cell (by simp [go_sem]) (by first | (simp; done) | (simp; omega)) y
    have hb0_7 : ∀ y : Since (x.w.alloc (.cells #[.int .i64 r.id, .int .i64 r.rd, .int .i64 r.s0, .int .i64 r.s1, .int .i64 r.e0, .int .i64 r.e1, .bool r.op, .slice la r.legs.length r.lc, .slice r.pa r.pauses.length r.pc, .int .i64 r.fw, .int .i64 r.fp, .int .i64 r.wh, .int .i64 r.pl] 52)), y.w.cell? ⟨x.w.heap.size, 7, none⟩ = some (.slice la r.legs.length r.lc) := fun y => Since.cell (by simp [go_sem]) (by first | (simp; done) | (simp; omega)) y
    have hb0_8 : ∀ y : Since (x.w.alloc (.cells #[.int .i64 r.id, .int .i64 r.rd, .int .i64 r.s0, .int .i64 r.s1, .int .i64 r.e0, .int .i64 r.e1, .bool r.op, .slice la r.legs.length r.lc, .slice r.pa r.pauses.length r.pc, .int .i64 r.fw, .int .i64 r.fp, .int .i64 r.wh, .int .i64 r.pl] 52)), y.w.cell? ⟨x.w.heap.size, 8, none⟩ = some (.slice r.pa r.pauses.length r.pc) := fun y => Since.cell (by simp [go_sem]) (by first | (simp; done) | (simp; omega)) y
    have hb0_9 : ∀ y : Since (x.w.alloc (.cells #[.int .i64 r.id, .int .i64 r.rd, .int .i64 r.s0, .int .i64 r.s1, .int .i64 r.e0, .int .i64 r.e1, .bool r.op, .slice la r.legs.length r.lc, .slice r.pa r.pauses.length r.pc, .int .i64 r.fw, .int .i64 r.fp, .int .i64 r.wh, .int .i64 r.pl] 52)), y.w.cell? ⟨x.w.heap.size, 9, none⟩ = some (.int .i64 r.fw) := fun y => Since.cell (by simp [go_sem]) (by first | (simp; done) | (simp; omega)) y
    have hb0_10 : ∀ y : Since (x.w.alloc (.cells #[.int .i64 r.id, .int .i64 r.rd, .int .i64 r.s0, .int .i64 r.s1, .int .i64 r.e0, .int .i64 r.e1, .bool r.op, .slice la r.legs.length r.lc, .slice r.pa r.pauses.length r.pc, .int .i64 r.fw, .int .i64 r.fp, .int .i64 r.wh, .int .i64 r.pl] 52)), y.w.cell? ⟨x.w.heap.size, 10, none⟩ = some (.int .i64 r.fp) := fun y => Since.cell (by simp [go_sem]) (by first | (simp; done) | (simp; omega)) y
    have hb0_11 : ∀ y : Since (x.w.alloc (.cells #[.int .i64 r.id, .int .i64 r.rd, .int .i64 r.s0, .int .i64 r.s1, .int .i64 r.e0, .int .i64 r.e1, .bool r.op, .slice la r.legs.length r.lc, .slice r.pa r.pauses.length r.pc, .int .i64 r.fw, .int .i64 r.fp, .int .i64 r.wh, .int .i64 r.pl] 52)), y.w.cell? ⟨x.w.heap.size, 11, none⟩ = some (.int .i64 r.wh) := fun y => Since.cell (by simp [go_sem]) (by first | (simp; done) | (simp; omega)) y
    have hb0_12 : ∀ y : Since (x.w.alloc (.cells #[.int .i64 r.id, .int .i64 r.rd, .int .i64 r.s0, .int .i64 r.s1, .int .i64 r.e0, .int .i64 r.e1, .bool r.op, .slice la r.legs.length r.lc, .slice r.pa r.pauses.length r.pc, .int .i64 r.fw, .int .i64 r.fp, .int .i64 r.wh, .int .i64 r.pl] 52)), y.w.cell? ⟨x.w.heap.size, 12, none⟩ = some (.int .i64 r.pl) := fun y => Since.cell (by simp [go_sem]) (by first | (simp; done) | (simp; omega)) y
    have hf0 : ∀ (y : Since (x.w.alloc (.cells #[.int .i64 r.id, .int .i64 r.rd, .int .i64 r.s0, .int .i64 r.s1, .int .i64 r.e0, .int .i64 r.e1, .bool r.op, .slice la r.legs.length r.lc, .slice r.pa r.pauses.length r.pc, .int .i64 r.fw, .int .i64 r.fp, .int .i64 r.wh, .int .i64 r.pl] 52))) (o : Nat), y.w.frozen? ⟨x.w.heap.size, o, none⟩ = false := fun y o => Since.free (by simp [go_sem]) (by first | (simp; done) | (simp; omega)) y
    have hWup : ∃ z : Since w, (x.w.alloc (.cells #[.int .i64 r.id, .int .i64 r.rd, .int .i64 r.s0, .int .i64 r.s1, .int .i64 r.e0, .int .i64 r.e1, .bool r.op, .slice la r.legs.length r.lc, .slice r.pa r.pauses.length r.pc, .int .i64 r.fw, .int .i64 r.fp, .int .i64 r.wh, .int .i64 r.pl] 52)) = z.w := x.alloc _
    obtain ⟨y0, hy0⟩ := Since.refl (x.w.alloc (.cells #[.int .i64 r.id, .int .i64 r.rd, .int .i64 r.s0, .int .i64 r.s1, .int .i64 r.e0, .int .i64 r.e1, .bool r.op, .slice la r.legs.length r.lc, .slice r.pa r.pauses.length r.pc, .int .i64 r.fw, .int .i64 r.fp, .int .i64 r.wh, .int .i64 r.pl] 52))
    have Hbx := Lib.hid (And.intro x.b.size (show x.w.heap.size + 1 = (x.w.alloc (.cells #[.int .i64 r.id, .int .i64 r.rd, .int .i64 r.s0, .int .i64 r.s1, .int .i64 r.e0, .int .i64 r.e1, .bool r.op, .slice la r.legs.length r.lc, .slice r.pa r.pauses.length r.pc, .int .i64 r.fw, .int .i64 r.fp, .int .i64 r.wh, .int .i64 r.pl] 52)).heap.size from by simp))
    generalize hW : (x.w.alloc (.cells #[.int .i64 r.id, .int .i64 r.rd, .int .i64 r.s0, .int .i64 r.s1, .int .i64 r.e0, .int .i64 r.e1, .bool r.op, .slice la r.legs.length r.lc, .slice r.pa r.pauses.length r.pc, .int .i64 r.fw, .int .i64 r.fp, .int .i64 r.wh, .int .i64 r.pl] 52)) = W at *
    clear hW
    generalize x.w.heap.size = bx at *
    have Hup := Lib.hid (Since.up hWup)
    rw [hy0]
    clear hy0
    clear hWup
    first | have hd1 : decide ((r.legs.length : Int) < 1) = true := decide_eq_true (by omega) | have hd1 : decide ((r.legs.length : Int) < 1) = false := decide_eq_false (by omega)
    try first | have hd2 : decide ((512 : Int) < (r.legs.length : Int)) = true := decide_eq_true (by omega) | have hd2 : decide ((512 : Int) < (r.legs.length : Int)) = false := decide_eq_false (by omega)
    try first | have hd3 : decide ((512 : Int) < (r.pauses.length : Int)) = true := decide_eq_true (by omega) | have hd3 : decide ((512 : Int) < (r.pauses.length : Int)) = false := decide_eq_false (by omega)
    go_wp2_with fail
    refine wp_region_since (by kernel_rfl) (by kernel_rfl) ?_
    repeat (go_big_quiet_step (fail))
    refine wpQuiet_nil ?_
    rintro _ ⟨y1, rfl⟩
    go_wp2_with fail
    go_ret
    exact ⟨ret_bool Hr.out.symm, Hup.out _⟩
end Go.Proofs.Ytdmmjapccgeffaa
/- The walks of the reference's check of a ride, third part: the marks of the pauses. -/
namespace Go.Proofs.Ytdmmjapccgeffaa
open Go.RowKit

theorem sInts : SliceOf Try.prog 29 3 (.int .i64 0) 1 8 := SliceOf.mk' Try.underlying29 (by kernel_rfl) rfl (by decide)
/-- the beginnings and ends of pauses -/
def flatM (l : List Pse) : List Int := l.flatMap fun p => [p.f0, p.t0]
theorem flatM_len : ∀ l : List Pse, (flatM l).length = 2 * l.length
  | [] => rfl
  | p :: l => by
    have := flatM_len l
    simp only [flatM, List.flatMap_cons, List.length_append, List.length_cons, List.length_nil] at this ⊢
    omega
theorem flatM_next {l : List Pse} {k : Nat} {e : Pse} (h : l[k]? = some e) : flatM (l.take (k + 1)) = flatM (l.take k) ++ [e.f0, e.t0] := by
  rw [List.take_succ_eq_append_getElem (List.getElem?_eq_some_iff.1 h).1, (List.getElem?_eq_some_iff.1 h).2]
  simp [flatM]
/-- the last end is 0 -/
def lastZ (l : List Pse) : Bool := match l.getLast? with | some p => decide (p.t0 = 0) | none => false
def marksL (op : Bool) (l : List Pse) : List Int := if op && lastZ l then (flatM l).dropLast else flatM l
theorem marks_len (op : Bool) (l : List Pse) : (marksL op l).length ≤ 2 * l.length := by
  unfold marksL; split
  · rw [List.length_dropLast, flatM_len]; omega
  · rw [flatM_len]; omega
theorem flat_last {l : List Pse} {e : Pse} (h : l[l.length - 1]? = some e) (h0 : 0 < l.length) : at0 (flatM l) (2 * l.length - 1) = e.t0 := by
  have h1 := flatM_next h
  rw [show l.length - 1 + 1 = l.length by omega, List.take_length] at h1
  have h2 : (flatM (l.take (l.length - 1))).length = 2 * (l.length - 1) := by rw [flatM_len, List.length_take]; omega
  rw [h1]
  unfold at0
  rw [List.getD_eq_getElem?_getD, List.getElem?_append_right (by omega), h2, show 2 * l.length - 1 - 2 * (l.length - 1) = 1 by omega]
  rfl
theorem lastZ_at {l : List Pse} {e : Pse} (h : l[l.length - 1]? = some e) : lastZ l = decide (e.t0 = 0) := by
  unfold lastZ; rw [List.getLast?_eq_getElem?, h]
theorem row_cut {w : World} {a : Option Addr} {n m : Nat} {f : Nat → Value} (h : Row w a n f) (hm : m ≤ n) : Row w a m f := fun i hi => h i (by omega)
theorem ints_row {w : World} {a : Option Addr} {n : Nat} {l : List Int} (hn : l.length = n) (h : Row w a n fun i => (l.map (Value.int .i64)).getD i undef) : IntRow w a l := by
  subst hn
  intro i hi
  obtain ⟨b, off, ha, hlt, hc⟩ := h i hi
  exact ⟨b, off, ha, hlt, by rw [hc]; simp [at0, List.getD_eq_getElem?_getD, hi]⟩
def MarksPost (w : World) (l : List Int) (o : Ending) (w' : World) : Prop :=
  ∃ (a : Option Addr) (cap : Nat) (y : Since w), o = .returned (.slice a l.length cap) ∧ w' = y.w ∧ IntRow y.w a l
set_option maxRecDepth 100000 in
set_option maxHeartbeats 8000000 in
theorem marks_calls (w : World) (x : Since w) (r : Ride) (h : r.At w) (hp : r.pauses.length ≤ 100000) :
    Calls Try.prog 69 #[.agg #[.int .i64 r.id, .int .i64 r.rd, .int .i64 r.s0, .int .i64 r.s1, .int .i64 r.e0, .int .i64 r.e1, .bool r.op, .slice r.la r.legs.length r.lc, .slice r.pa r.pauses.length r.pc, .int .i64 r.fw, .int .i64 r.fp, .int .i64 r.wh, .int .i64 r.pl]] x.w (MarksPost w (marksL r.op r.pauses)) := by
  have HP := Lib.hid h.p
  clear h
  generalize r.pa = pa at HP ⊢
  generalize r.op = op at ⊢
  go_enter Try.func69, Try.ntmps69
  go_upto_region 1 with fail
  have hb0_0 : ∀ y : Since (x.w.alloc (.cells #[.int .i64 r.id, .int .i64 r.rd, .int .i64 r.s0, .int .i64 r.s1, .int .i64 r.e0, .int .i64 r.e1, .bool op, .slice r.la r.legs.length r.lc, .slice pa r.pauses.length r.pc, .int .i64 r.fw, .int .i64 r.fp, .int .i64 r.wh, .int .i64 r.pl] 52)), y.w.cell? ⟨x.w.heap.size, 0, none⟩ = some (.int .i64 r.id) := fun y => Since.cell (by simp [go_sem]) (by first | (simp; done) | (simp; omega)) y
  have hb0_1 : ∀ y : Since (x.w.alloc (.cells #[.int .i64 r.id, .int .i64 r.rd, .int .i64 r.s0, .int .i64 r.s1, .int .i64 r.e0, .int .i64 r.e1, .bool op, .slice r.la r.legs.length r.lc, .slice pa r.pauses.length r.pc, .int .i64 r.fw, .int .i64 r.fp, .int .i64 r.wh, .int .i64 r.pl] 52)), y.w.cell? ⟨x.w.heap.size, 1, none⟩ = some (.int .i64 r.rd) := fun y => Since.cell (by simp [go_sem]) (by first | (simp; done) | (simp; omega)) y
  have hb0_2 : ∀ y : Since (x.w.alloc (.cells #[.int .i64 r.id, .int .i64 r.rd, .int .i64 r.s0, .int .i64 r.s1, .int .i64 r.e0, .int .i64 r.e1, .bool op, .slice r.la r.legs.length r.lc, .slice pa r.pauses.length r.pc, .int .i64 r.fw, .int .i64 r.fp, .int .i64 r.wh, .int .i64 r.pl] 52)), y.w.cell? ⟨x.w.heap.size, 2, none⟩ = some (.int .i64 r.s0) := fun y => Since.cell (by simp [go_sem]) (by first | (simp; done) | (simp; omega)) y
  have hb0_3 : ∀ y : Since (x.w.alloc (.cells #[.int .i64 r.id, .int .i64 r.rd, .int .i64 r.s0, .int .i64 r.s1, .int .i64 r.e0, .int .i64 r.e1, .bool op, .slice r.la r.legs.length r.lc, .slice pa r.pauses.length r.pc, .int .i64 r.fw, .int .i64 r.fp, .int .i64 r.wh, .int .i64 r.pl] 52)), y.w.cell? ⟨x.w.heap.size, 3, none⟩ = some (.int .i64 r.s1) := fun y => Since.cell (by simp [go_sem]) (by first | (simp; done) | (simp; omega)) y
  have hb0_4 : ∀ y : Since (x.w.alloc (.cells #[.int .i64 r.id, .int .i64 r.rd, .int .i64 r.s0, .int .i64 r.s1, .int .i64 r.e0, .int .i64 r.e1, .bool op, .slice r.la r.legs.length r.lc, .slice pa r.pauses.length r.pc, .int .i64 r.fw, .int .i64 r.fp, .int .i64 r.wh, .int .i64 r.pl] 52)), y.w.cell? ⟨x.w.heap.size, 4, none⟩ = some (.int .i64 r.e0) := fun y => Since.cell (by simp [go_sem]) (by first | (simp; done) | (simp; omega)) y
  have hb0_5 : ∀ y : Since (x.w.alloc (.cells #[.int .i64 r.id, .int .i64 r.rd, .int .i64 r.s0, .int .i64 r.s1, .int .i64 r.e0, .int .i64 r.e1, .bool op, .slice r.la r.legs.length r.lc, .slice pa r.pauses.length r.pc, .int .i64 r.fw, .int .i64 r.fp, .int .i64 r.wh, .int .i64 r.pl] 52)), y.w.cell? ⟨x.w.heap.size, 5, none⟩ = some (.int .i64 r.e1) := fun y => Since.cell (by simp [go_sem]) (by first | (simp; done) | (simp; omega)) y
  have hb0_6 : ∀ y : Since (x.w.alloc (.cells #[.int .i64 r.id, .int .i64 r.rd, .int .i64 r.s0, .int .i64 r.s1, .int .i64 r.e0, .int .i64 r.e1, .bool op, .slice r.la r.legs.length r.lc, .slice pa r.pauses.length r.pc, .int .i64 r.fw, .int .i64 r.fp, .int .i64 r.wh, .int .i64 r.pl] 52)), y.w.cell? ⟨x.w.heap.size, 6, none⟩ = some (.bool op) := fun y => Since.cell (by simp [go_sem]) (by first | (simp; done) | (simp; omega)) y
  have hb0_7 : ∀ y : Since (x.w.alloc (.cells #[.int .i64 r.id, .int .i64 r.rd, .int .i64 r.s0, .int .i64 r.s1, .int .i64 r.e0, .int .i64 r.e1, .bool op, .slice r.la r.legs.length r.lc, .slice pa r.pauses.length r.pc, .int .i64 r.fw, .int .i64 r.fp, .int .i64 r.wh, .int .i64 r.pl] 52)), y.w.cell? ⟨x.w.heap.size, 7, none⟩ = some (.slice r.la r.legs.length r.lc) := fun y => Since.cell (by simp [go_sem]) (by first | (simp; done) | (simp; omega)) y
  have hb0_8 : ∀ y : Since (x.w.alloc (.cells #[.int .i64 r.id, .int .i64 r.rd, .int .i64 r.s0, .int .i64 r.s1, .int .i64 r.e0, .int .i64 r.e1, .bool op, .slice r.la r.legs.length r.lc, .slice pa r.pauses.length r.pc, .int .i64 r.fw, .int .i64 r.fp, .int .i64 r.wh, .int .i64 r.pl] 52)), y.w.cell? ⟨x.w.heap.size, 8, none⟩ = some (.slice pa r.pauses.length r.pc) := fun y => Since.cell (by simp [go_sem]) (by first | (simp; done) | (simp; omega)) y
  have hb0_9 : ∀ y : Since (x.w.alloc (.cells #[.int .i64 r.id, .int .i64 r.rd, .int .i64 r.s0, .int .i64 r.s1, .int .i64 r.e0, .int .i64 r.e1, .bool op, .slice r.la r.legs.length r.lc, .slice pa r.pauses.length r.pc, .int .i64 r.fw, .int .i64 r.fp, .int .i64 r.wh, .int .i64 r.pl] 52)), y.w.cell? ⟨x.w.heap.size, 9, none⟩ = some (.int .i64 r.fw) := fun y => Since.cell (by simp [go_sem]) (by first | (simp; done) | (simp; omega)) y
  have hb0_10 : ∀ y : Since (x.w.alloc (.cells #[.int .i64 r.id, .int .i64 r.rd, .int .i64 r.s0, .int .i64 r.s1, .int .i64 r.e0, .int .i64 r.e1, .bool op, .slice r.la r.legs.length r.lc, .slice pa r.pauses.length r.pc, .int .i64 r.fw, .int .i64 r.fp, .int .i64 r.wh, .int .i64 r.pl] 52)), y.w.cell? ⟨x.w.heap.size, 10, none⟩ = some (.int .i64 r.fp) := fun y => Since.cell (by simp [go_sem]) (by first | (simp; done) | (simp; omega)) y
  have hb0_11 : ∀ y : Since (x.w.alloc (.cells #[.int .i64 r.id, .int .i64 r.rd, .int .i64 r.s0, .int .i64 r.s1, .int .i64 r.e0, .int .i64 r.e1, .bool op, .slice r.la r.legs.length r.lc, .slice pa r.pauses.length r.pc, .int .i64 r.fw, .int .i64 r.fp, .int .i64 r.wh, .int .i64 r.pl] 52)), y.w.cell? ⟨x.w.heap.size, 11, none⟩ = some (.int .i64 r.wh) := fun y => Since.cell (by simp [go_sem]) (by first | (simp; done) | (simp; omega)) y
  have hb0_12 : ∀ y : Since (x.w.alloc (.cells #[.int .i64 r.id, .int .i64 r.rd, .int .i64 r.s0, .int .i64 r.s1, .int .i64 r.e0, .int .i64 r.e1, .bool op, .slice r.la r.legs.length r.lc, .slice pa r.pauses.length r.pc, .int .i64 r.fw, .int .i64 r.fp, .int .i64 r.wh, .int .i64 r.pl] 52)), y.w.cell? ⟨x.w.heap.size, 12, none⟩ = some (.int .i64 r.pl) := fun y => Since.cell (by simp [go_sem]) (by first | (simp; done) | (simp; omega)) y
  have hf0 : ∀ (y : Since (x.w.alloc (.cells #[.int .i64 r.id, .int .i64 r.rd, .int .i64 r.s0, .int .i64 r.s1, .int .i64 r.e0, .int .i64 r.e1, .bool op, .slice r.la r.legs.length r.lc, .slice pa r.pauses.length r.pc, .int .i64 r.fw, .int .i64 r.fp, .int .i64 r.wh, .int .i64 r.pl] 52))) (o : Nat), y.w.frozen? ⟨x.w.heap.size, o, none⟩ = false := fun y o => Since.free (by simp [go_sem]) (by first | (simp; done) | (simp; omega)) y
  have hWup : ∃ z : Since w, (x.w.alloc (.cells #[.int .i64 r.id, .int .i64 r.rd, .int .i64 r.s0, .int .i64 r.s1, .int .i64 r.e0, .int .i64 r.e1, .bool op, .slice r.la r.legs.length r.lc, .slice pa r.pauses.length r.pc, .int .i64 r.fw, .int .i64 r.fp, .int .i64 r.wh, .int .i64 r.pl] 52)) = z.w := x.alloc _
  obtain ⟨y0, hy0⟩ := Since.refl (x.w.alloc (.cells #[.int .i64 r.id, .int .i64 r.rd, .int .i64 r.s0, .int .i64 r.s1, .int .i64 r.e0, .int .i64 r.e1, .bool op, .slice r.la r.legs.length r.lc, .slice pa r.pauses.length r.pc, .int .i64 r.fw, .int .i64 r.fp, .int .i64 r.wh, .int .i64 r.pl] 52))
  have Hbx := Lib.hid (And.intro x.b.size (show x.w.heap.size + 1 = (x.w.alloc (.cells #[.int .i64 r.id, .int .i64 r.rd, .int .i64 r.s0, .int .i64 r.s1, .int .i64 r.e0, .int .i64 r.e1, .bool op, .slice r.la r.legs.length r.lc, .slice pa r.pauses.length r.pc, .int .i64 r.fw, .int .i64 r.fp, .int .i64 r.wh, .int .i64 r.pl] 52)).heap.size from by simp))
  generalize hW : (x.w.alloc (.cells #[.int .i64 r.id, .int .i64 r.rd, .int .i64 r.s0, .int .i64 r.s1, .int .i64 r.e0, .int .i64 r.e1, .bool op, .slice r.la r.legs.length r.lc, .slice pa r.pauses.length r.pc, .int .i64 r.fw, .int .i64 r.fp, .int .i64 r.wh, .int .i64 r.pl] 52)) = W at *
  clear hW
  generalize x.w.heap.size = bx at *
  have Hup := Lib.hid (Since.up hWup)
  rw [hy0]
  clear hy0
  replace HP := Lib.hid (HP.out.to hWup)
  clear hWup
  go_wp2_with fail
  go_loopw [3, 4] (fun s i wr => ∃ (k : Nat) (y : Since W) (v : Value), k ≤ r.pauses.length ∧ i = .int .i64 k ∧ v = s ∧ wr = y.w ∧ y.w.ownsRow W.heap.size 3 1 v (2 * k) ((flatM (r.pauses.take k)).map (Value.int .i64))) (fun _ i _ => r.pauses.length - (intOf i).toNat)
  case atStart => exact ⟨0, _, _, by omega, rfl, rfl, rfl, ⟨rfl, .inl ⟨rfl, rfl⟩⟩⟩
  case round =>
    obtain ⟨k, y, v, hk, rfl, rfl, rfl, hown⟩ := hrel
    have Hown := Lib.hid hown; clear hown
    by_cases hlt : k < r.pauses.length
    · obtain ⟨e, he⟩ : ∃ e, r.pauses[k]? = some e := ⟨_, List.getElem?_eq_getElem hlt⟩
      obtain ⟨b1, off1, rfl, h1'⟩ := Els.pse HP.out he
      have pb0 := h1'.c0
      have pb1 := h1'.c1
      have pb2 := h1'.c2
      have pb3 := h1'.c3
      have Hnext := Lib.hid (flatM_next he)
      have hk0 : (0 : Int) ≤ (k : Int) := by omega
      have hkl : (k : Int) < (r.pauses.length : Int) := by omega
      clear h1' he
      replace hb0_0 := Since.cellTo ⟨y, rfl⟩ hb0_0
      replace hb0_1 := Since.cellTo ⟨y, rfl⟩ hb0_1
      replace hb0_2 := Since.cellTo ⟨y, rfl⟩ hb0_2
      replace hb0_3 := Since.cellTo ⟨y, rfl⟩ hb0_3
      replace hb0_4 := Since.cellTo ⟨y, rfl⟩ hb0_4
      replace hb0_5 := Since.cellTo ⟨y, rfl⟩ hb0_5
      replace hb0_6 := Since.cellTo ⟨y, rfl⟩ hb0_6
      replace hb0_7 := Since.cellTo ⟨y, rfl⟩ hb0_7
      replace hb0_8 := Since.cellTo ⟨y, rfl⟩ hb0_8
      replace hb0_9 := Since.cellTo ⟨y, rfl⟩ hb0_9
      replace hb0_10 := Since.cellTo ⟨y, rfl⟩ hb0_10
      replace hb0_11 := Since.cellTo ⟨y, rfl⟩ hb0_11
      replace hb0_12 := Since.cellTo ⟨y, rfl⟩ hb0_12
      replace pb0 := Since.cellTo ⟨y, rfl⟩ pb0
      replace pb2 := Since.cellTo ⟨y, rfl⟩ pb2
      clear pb1 pb3
      obtain ⟨q0, hq0⟩ := Since.refl y.w
      rw [hq0]
      clear hq0
      go_upto_region 5 with fail
      refine wp_region_tail (fun w' => ∃ q : Since (y.w), w' = q.w) [0] [1, 2, 3, 4, 5, 6, 7, 8, 9, 10, 11, 12, 13, 14] 15 (by kernel_rfl) (by kernel_rfl) (fun _ _ _ _ _ h => h) (q0.drew) ?_
      simp only [List.cons_append, List.nil_append, picks_cons, picks_nil, List.getD_cons_zero, List.getD_cons_succ]
      repeat (go_big_quiet_step (fail))
      refine wpQuiet_nil ?_
      rintro _ ⟨q, rfl⟩
      simp only [List.drop_succ_cons, List.drop_zero]
      have hown1 := own_since (own_since Hown.out q.b) (below_new q.w (.cells #[.int .i64 e.f0, .int .i64 e.t0] 3))
      have Hown1 := Lib.hid hown1; clear hown1
      go_wp2_with (at_builtin; go_loud (refine wpList_appendK (k := 1) (w0 := W) ?hw rfl _ _ 29 rfl W.heap.size (Nat.le_refl _) ?hb 3 (.int .i64 0) 8 sInts v (2 * k) ((flatM (r.pauses.take k)).map (Value.int .i64)) rfl Hown1.out ⟨q.w.heap.size, 0, none⟩ 2 2 [.int .i64 e.f0, .int .i64 e.t0] rfl rfl ?hc ?h1 ?h63 ?hbytes ?_; rotate_right 1; intro v2 q2 hown2 _ hg2))
      case hw => obtain ⟨z, e⟩ := y.trans q; rw [e]; exact z.alloc _
      case hb => have := y.b.size; have := q.b.size; simp; omega
      case hc => exact fun j u hu => cell_new_at q.w [.int .i64 e.f0, .int .i64 e.t0] _ j u hu
      case h1 => intro u hu; simp at hu; rcases hu with rfl | rfl <;> rfl
      case h63 => unfold maxLen; omega
      case hbytes => omega
      have Hown2 := Lib.hid hown2; clear hown2 hg2
      go_roundw
      case rel => exact ⟨k + 1, q2, v2, by omega, by go_num, rfl, rfl, by rw [Hnext.out, List.map_append]; exact Hown2.out⟩
      case measure => simp [intOf] <;> omega
    · obtain rfl : k = r.pauses.length := by omega
      rw [List.take_length] at Hown
      obtain ⟨a, cap, rfl, hcap, hrow, -⟩ := own_row Hown.out
      have Hrow := Lib.hid (ints_row (flatM_len r.pauses) hrow)
      have hfl := flatM_len r.pauses
      clear Hown hrow
      have Hpost := Lib.hid (fun (l : List Int) (n : Nat) (z : Since W) (h1 : l.length = n) (h2 : IntRow z.w a l) (h3 : marksL op r.pauses = l) => show MarksPost w (marksL op r.pauses) (.returned (.slice a n cap)) z.w by
        obtain ⟨z', e⟩ := Hup.out z
        subst h1
        exact ⟨a, cap, z', by rw [h3], e, by rw [h3, ← e]; exact h2⟩)
      have hml : marksL op r.pauses = if op && lastZ r.pauses then (flatM r.pauses).dropLast else flatM r.pauses := rfl
      have Hml := Lib.hid hml; clear hml
      generalize hn : 2 * r.pauses.length = n at *
      have Hn := Lib.hid hn
      have Hfl := Lib.hid hfl
      obtain ⟨q0, hq0⟩ := Since.refl y.w
      rw [hq0]
      replace hq0 := Lib.hid hq0
      replace hb0_0 := Since.cellTo ⟨y, rfl⟩ hb0_0
      replace hb0_1 := Since.cellTo ⟨y, rfl⟩ hb0_1
      replace hb0_2 := Since.cellTo ⟨y, rfl⟩ hb0_2
      replace hb0_3 := Since.cellTo ⟨y, rfl⟩ hb0_3
      replace hb0_4 := Since.cellTo ⟨y, rfl⟩ hb0_4
      replace hb0_5 := Since.cellTo ⟨y, rfl⟩ hb0_5
      replace hb0_6 := Since.cellTo ⟨y, rfl⟩ hb0_6
      replace hb0_7 := Since.cellTo ⟨y, rfl⟩ hb0_7
      replace hb0_8 := Since.cellTo ⟨y, rfl⟩ hb0_8
      replace hb0_9 := Since.cellTo ⟨y, rfl⟩ hb0_9
      replace hb0_10 := Since.cellTo ⟨y, rfl⟩ hb0_10
      replace hb0_11 := Since.cellTo ⟨y, rfl⟩ hb0_11
      replace hb0_12 := Since.cellTo ⟨y, rfl⟩ hb0_12
      rcases (by omega : n ≤ 0 ∨ 0 < n) with h0 | h0
      · have Hr := Lib.hid (Hpost.out (flatM r.pauses) n y hfl Hrow.out (by
          rw [Hml.out]
          have : r.pauses = [] := List.eq_nil_of_length_eq_zero (by omega)
          rw [this]; simp [flatM]))
        clear hn hfl
        go_wp2_with fail
        go_ret
        rw [← hq0.out]
        exact Hr.out
      · obtain ⟨e, he⟩ : ∃ e, r.pauses[r.pauses.length - 1]? = some e := ⟨_, List.getElem?_eq_getElem (by omega)⟩
        have hlz := lastZ_at he
        have hla := flat_last he (by omega)
        rw [hn] at hla
        obtain ⟨b, off, rfl, hlt2, hcl⟩ := Hrow.out (n - 1) (by omega)
        replace hcl : y.w.cell? ⟨b, off + (n - 1), none⟩ = some (.int .i64 e.t0) := by rw [hcl]; show some (Value.int .i64 (at0 _ _)) = _; rw [hla]
        have kc : ∀ q : Since y.w, q.w.cell? ⟨b, off + (n - 1), none⟩ = some (.int .i64 e.t0) := fun q => Since.cell hcl hlt2 q
        have hm1 : (0 : Int) < (n : Int) := by omega
        have hmm : (n : Int) - 1 = ((n - 1 : Nat) : Int) := by omega
        have hmr : (0 : Int) ≤ ((n - 1 : Nat) : Int) := by omega
        have hml : ((n - 1 : Nat) : Int) < (n : Int) := by omega
        have hn5 : n ≤ 200000 := by omega
        have Hlz := Lib.hid hlz
        have Hr1 := Lib.hid (fun h => Hpost.out (flatM r.pauses) n y hfl Hrow.out h)
        have Hr2 := Lib.hid (fun h => Hpost.out (flatM r.pauses).dropLast (n - 1) y (by rw [List.length_dropLast, hfl]) (by
          have hd : (flatM r.pauses).dropLast = (flatM r.pauses).take (n - 1) := by rw [List.dropLast_eq_take, hfl]
          rw [hd]
          intro i hi
          rw [List.length_take] at hi
          obtain ⟨b, off, ha, hb, hc⟩ := Hrow.out i (by omega)
          refine ⟨b, off, ha, hb, ?_⟩
          rw [hc]
          show some (Value.int .i64 (at0 _ i)) = some (.int .i64 (at0 _ i))
          unfold at0
          rw [List.getD_eq_getElem?_getD, List.getD_eq_getElem?_getD, List.getElem?_take, if_pos (by omega)]) h)
        clear he hlz hla hlt2 hcl hn hfl Hpost
        by_cases hc : op = true ∧ e.t0 = 0
        · obtain ⟨rfl, ht⟩ := hc
          have htb : (e.t0 == 0) = true := by simpa using ht
          have Hr := Lib.hid (Hr2.out (by rw [Hml.out, Hlz.out, decide_eq_true ht]; rfl))
          clear ht Hr1 Hr2
          go_wp2_with fail
          go_ret
          rw [← hq0.out]
          exact Hr.out
        · have Hr := Lib.hid (Hr1.out (by
            rw [Hml.out, Hlz.out]
            cases op
            · rfl
            · rw [decide_eq_false (fun h => hc ⟨rfl, h⟩)]; rfl))
          clear Hr1 Hr2
          have hcase : op = false ∨ (op = true ∧ (e.t0 == 0) = false) := by
            cases op
            · exact .inl rfl
            · exact .inr ⟨rfl, by simp; intro h; exact hc ⟨rfl, h⟩⟩
          clear hc
          rcases hcase with rfl | ⟨rfl, htb⟩
          all_goals
            go_wp2_with fail
            go_ret
            rw [← hq0.out]
            exact Hr.out
end Go.Proofs.Ytdmmjapccgeffaa
/- The walks of the reference's check of a ride, fourth part: the ends are in order. -/
namespace Go.Proofs.Ytdmmjapccgeffaa
open Go.RowKit

/-- mark i is in order -/
def markB (op : Bool) (s0 e0 : Int) (l : List Int) (i : Nat) : Bool :=
  (if i = 0 then decide (s0 ≤ at0 l 0) else decide (at0 l (i - 1) ≤ at0 l i)) && (op || decide (at0 l i ≤ e0))
def monoL (op : Bool) (e : Int) : Int → List Int → Bool
  | _, [] => true
  | last, x :: l => decide (last ≤ x) && (op || decide (x ≤ e)) && monoL op e x l
theorem monoL_all (op : Bool) (e : Int) : ∀ (l : List Int) (a : Int), monoL op e a l = true ↔ ∀ i, i < l.length → markB op a e l i = true
  | [], a => by simp [monoL]
  | x :: l, a => by
    rw [monoL, Bool.and_eq_true, monoL_all op e l x]
    constructor
    · rintro ⟨h1, h2⟩ i hi
      cases i with
      | zero => unfold markB; simpa [at0] using h1
      | succ i =>
        have := h2 i (by simpa using hi)
        unfold markB at this ⊢
        cases i with
        | zero => simpa [at0] using this
        | succ i => simpa [at0] using this
    · intro h
      refine ⟨by have := h 0 (by simp); unfold markB at this; simpa [at0] using this, fun i hi => ?_⟩
      have := h (i + 1) (by simpa using hi)
      unfold markB at this ⊢
      cases i with
      | zero => simpa [at0] using this
      | succ i => simpa [at0] using this
theorem marks_cons {op : Bool} {p q : Pse} {l : List Pse} : marksL op (p :: q :: l) = p.f0 :: p.t0 :: marksL op (q :: l) := by
  unfold marksL
  have h1 : lastZ (p :: q :: l) = lastZ (q :: l) := by unfold lastZ; rw [List.getLast?_cons_cons]
  rw [h1]
  split
  · have : (flatM (q :: l)) ≠ [] := by simp [flatM]
    show (p.f0 :: p.t0 :: flatM (q :: l)).dropLast = _
    rw [List.dropLast_cons_of_ne_nil (by simp), List.dropLast_cons_of_ne_nil this]
  · rfl
theorem marks_one (op : Bool) (p : Pse) : marksL op [p] = if op && decide (p.t0 = 0) then [p.f0] else [p.f0, p.t0] := by
  unfold marksL lastZ
  simp [flatM]
theorem pses_last : ∀ (l : List Pse) (a e : Int), psesO false e a l = true → a ≤ e
  | [], a, e, h => by simpa [psesO] using h
  | p :: l, a, e, h => by
    simp only [psesO, Bool.false_and, Bool.false_or, Bool.and_eq_true, decide_eq_true_eq] at h
    have := pses_last l p.t0 e h.2.2
    omega
/-- the two ways to say that the pauses are in order -/
theorem mono_pses (op : Bool) (e : Int) : ∀ (l : List Pse) (a : Int), l ≠ [] → monoL op e a (marksL op l) = psesO op e a l
  | [], _, h => (h rfl).elim
  | [p], a, _ => by
    rw [marks_one]
    cases op
    · simp only [Bool.false_and, Bool.false_eq_true, if_false, monoL, psesO, Bool.false_or, Bool.and_true]
      rw [Bool.eq_iff_iff]
      simp only [Bool.and_eq_true, decide_eq_true_eq]
      omega
    · by_cases h : p.t0 = 0
      · simp [monoL, psesO, h]
      · simp [monoL, psesO, h]
  | p :: q :: l, a, _ => by
    rw [marks_cons]
    have ih := mono_pses op e (q :: l) p.t0 (by simp)
    show (decide (a ≤ p.f0) && (op || decide (p.f0 ≤ e)) && (decide (p.f0 ≤ p.t0) && (op || decide (p.t0 ≤ e)) && monoL op e p.t0 (marksL op (q :: l)))) = (decide (a ≤ p.f0) && ((op && (q :: l).isEmpty && decide (p.t0 = 0)) || (decide (p.f0 ≤ p.t0) && psesO op e p.t0 (q :: l))))
    rw [ih]
    cases op
    · rw [Bool.eq_iff_iff]
      simp only [Bool.false_and, Bool.false_or, Bool.and_eq_true, decide_eq_true_eq]
      constructor
      · rintro ⟨⟨h1, h2⟩, ⟨h3, h4⟩, h5⟩; exact ⟨h1, h3, h5⟩
      · rintro ⟨h1, h3, h5⟩
        have := pses_last _ _ _ h5
        exact ⟨⟨h1, by omega⟩, ⟨h3, by omega⟩, h5⟩
    · simp
theorem marks_empty (op : Bool) : marksL op [] = [] := by unfold marksL; split <;> rfl
theorem ordered_iff (r : Ride) : orderedB r = true ↔ legsO r.op r.legs = true ∧ ∀ i, i < (marksL r.op r.pauses).length → markB r.op r.s0 r.e0 (marksL r.op r.pauses) i = true := by
  unfold orderedB
  rw [Bool.and_eq_true, ← monoL_all]
  cases h : r.pauses with
  | nil => simp [marks_empty, monoL]
  | cons p l => rw [mono_pses _ _ _ _ (by simp)]; simp
/-- the end of leg i is in order -/
def legB (op : Bool) (l : List Leg) (i : Nat) : Bool := match l[i]? with | some x => decide (x.f0 ≤ x.t0) || (op && decide (i + 1 = l.length)) | none => true
theorem legsO_all (op : Bool) : ∀ l : List Leg, legsO op l = true ↔ ∀ i, i < l.length → legB op l i = true
  | [] => by simp [legsO]
  | x :: l => by
    rw [legsO, Bool.and_eq_true, legsO_all op l]
    have he : l.isEmpty = decide (0 + 1 = (x :: l).length) := by rw [Bool.eq_iff_iff]; simp
    constructor
    · rintro ⟨h1, h2⟩ i hi
      cases i with
      | zero => unfold legB; rw [he] at h1; simpa using h1
      | succ i => have := h2 i (by simpa using hi); unfold legB at this ⊢; simpa using this
    · intro h
      refine ⟨by have := h 0 (by simp); unfold legB at this; rw [he]; simpa using this, fun i hi => ?_⟩
      have := h (i + 1) (by simpa using hi)
      unfold legB at this ⊢; simpa using this
end Go.Proofs.Ytdmmjapccgeffaa
/- The walks of the reference's check of a ride, fifth part: the ends are in order (the walk). -/
namespace Go.Proofs.Ytdmmjapccgeffaa
open Go.RowKit

set_option maxRecDepth 100000 in
set_option maxHeartbeats 8000000 in
theorem rordered_calls (w : World) (x : Since w) (r : Ride) (h : r.At w) (hp : r.pauses.length ≤ 100000) :
    Calls Try.prog 56 #[.agg #[.int .i64 r.id, .int .i64 r.rd, .int .i64 r.s0, .int .i64 r.s1, .int .i64 r.e0, .int .i64 r.e1, .bool r.op, .slice r.la r.legs.length r.lc, .slice r.pa r.pauses.length r.pc, .int .i64 r.fw, .int .i64 r.fp, .int .i64 r.wh, .int .i64 r.pl]] x.w fun o w' => o = .returned (.bool (orderedB r)) ∧ ∃ y : Since w, w' = y.w := by
  have HL := Lib.hid h.l
  have hlm := h.lm
  have hpm := h.pm
  have HA := Lib.hid h
  have HO := Lib.hid (ordered_iff r)
  have HG := Lib.hid (legsO_all r.op r.legs)
  have hmlen := marks_len r.op r.pauses
  have Hmk := Lib.hid (fun (W : World) (h : r.At W) (y : Since W) => marks_calls W y r h hp)
  clear h
  generalize marksL r.op r.pauses = M at *
  unfold MarksPost at Hmk
  generalize r.la = la at HL Hmk ⊢
  generalize r.op = op at HO HG Hmk ⊢
  go_enter Try.func56, Try.ntmps56
  go_upto_region 1 with fail
  have hb0_0 : ∀ y : Since (x.w.alloc (.cells #[.int .i64 r.id, .int .i64 r.rd, .int .i64 r.s0, .int .i64 r.s1, .int .i64 r.e0, .int .i64 r.e1, .bool op, .slice la r.legs.length r.lc, .slice r.pa r.pauses.length r.pc, .int .i64 r.fw, .int .i64 r.fp, .int .i64 r.wh, .int .i64 r.pl] 52)), y.w.cell? ⟨x.w.heap.size, 0, none⟩ = some (.int .i64 r.id) := fun y => Since.cell (by simp [go_sem]) (by first | (simp; done) | (simp; omega)) y
  have hb0_1 : ∀ y : Since (x.w.alloc (.cells #[.int .i64 r.id, .int .i64 r.rd, .int .i64 r.s0, .int .i64 r.s1, .int .i64 r.e0, .int .i64 r.e1, .bool op, .slice la r.legs.length r.lc, .slice r.pa r.pauses.length r.pc, .int .i64 r.fw, .int .i64 r.fp, .int .i64 r.wh, .int .i64 r.pl] 52)), y.w.cell? ⟨x.w.heap.size, 1, none⟩ = some (.int .i64 r.rd) := fun y => Since.cell (by simp [go_sem]) (by first | (simp; done) | (simp; omega)) y
  have hb0_2 : ∀ y : Since (x.w.alloc (.cells #[.int .i64 r.id, .int .i64 r.rd, .int .i64 r.s0, .int .i64 r.s1, .int .i64 r.e0, .int .i64 r.e1, .bool op, .slice la r.legs.length r.lc, .slice r.pa r.pauses.length r.pc, .int .i64 r.fw, .int .i64 r.fp, .int .i64 r.wh, .int .i64 r.pl] 52)), y.w.cell? ⟨x.w.heap.size, 2, none⟩ = some (.int .i64 r.s0) := fun y => Since.cell (by simp [go_sem]) (by first | (simp; done) | (simp; omega)) y
  have hb0_3 : ∀ y : Since (x.w.alloc (.cells #[.int .i64 r.id, .int .i64 r.rd, .int .i64 r.s0, .int .i64 r.s1, .int .i64 r.e0, .int .i64 r.e1, .bool op, .slice la r.legs.length r.lc, .slice r.pa r.pauses.length r.pc, .int .i64 r.fw, .int .i64 r.fp, .int .i64 r.wh, .int .i64 r.pl] 52)), y.w.cell? ⟨x.w.heap.size, 3, none⟩ = some (.int .i64 r.s1) := fun y => Since.cell (by simp [go_sem]) (by first | (simp; done) | (simp; omega)) y
  have hb0_4 : ∀ y : Since (x.w.alloc (.cells #[.int .i64 r.id, .int .i64 r.rd, .int .i64 r.s0, .int .i64 r.s1, .int .i64 r.e0, .int .i64 r.e1, .bool op, .slice la r.legs.length r.lc, .slice r.pa r.pauses.length r.pc, .int .i64 r.fw, .int .i64 r.fp, .int .i64 r.wh, .int .i64 r.pl] 52)), y.w.cell? ⟨x.w.heap.size, 4, none⟩ = some (.int .i64 r.e0) := fun y => Since.cell (by simp [go_sem]) (by first | (simp; done) | (simp; omega)) y
  have hb0_5 : ∀ y : Since (x.w.alloc (.cells #[.int .i64 r.id, .int .i64 r.rd, .int .i64 r.s0, .int .i64 r.s1, .int .i64 r.e0, .int .i64 r.e1, .bool op, .slice la r.legs.length r.lc, .slice r.pa r.pauses.length r.pc, .int .i64 r.fw, .int .i64 r.fp, .int .i64 r.wh, .int .i64 r.pl] 52)), y.w.cell? ⟨x.w.heap.size, 5, none⟩ = some (.int .i64 r.e1) := fun y => Since.cell (by simp [go_sem]) (by first | (simp; done) | (simp; omega)) y
  have hb0_6 : ∀ y : Since (x.w.alloc (.cells #[.int .i64 r.id, .int .i64 r.rd, .int .i64 r.s0, .int .i64 r.s1, .int .i64 r.e0, .int .i64 r.e1, .bool op, .slice la r.legs.length r.lc, .slice r.pa r.pauses.length r.pc, .int .i64 r.fw, .int .i64 r.fp, .int .i64 r.wh, .int .i64 r.pl] 52)), y.w.cell? ⟨x.w.heap.size, 6, none⟩ = some (.bool op) := fun y => Since.cell (by simp [go_sem]) (by first | (simp; done) | (simp; omega)) y
  have hb0_7 : ∀ y : Since (x.w.alloc (.cells #[.int .i64 r.id, .int .i64 r.rd, .int .i64 r.s0, .int .i64 r.s1, .int .i64 r.e0, .int .i64 r.e1, .bool op, .slice la r.legs.length r.lc, .slice r.pa r.pauses.length r.pc, .int .i64 r.fw, .int .i64 r.fp, .int .i64 r.wh, .int .i64 r.pl] 52)), y.w.cell? ⟨x.w.heap.size, 7, none⟩ = some (.slice la r.legs.length r.lc) := fun y => Since.cell (by simp [go_sem]) (by first | (simp; done) | (simp; omega)) y
  have hb0_8 : ∀ y : Since (x.w.alloc (.cells #[.int .i64 r.id, .int .i64 r.rd, .int .i64 r.s0, .int .i64 r.s1, .int .i64 r.e0, .int .i64 r.e1, .bool op, .slice la r.legs.length r.lc, .slice r.pa r.pauses.length r.pc, .int .i64 r.fw, .int .i64 r.fp, .int .i64 r.wh, .int .i64 r.pl] 52)), y.w.cell? ⟨x.w.heap.size, 8, none⟩ = some (.slice r.pa r.pauses.length r.pc) := fun y => Since.cell (by simp [go_sem]) (by first | (simp; done) | (simp; omega)) y
  have hb0_9 : ∀ y : Since (x.w.alloc (.cells #[.int .i64 r.id, .int .i64 r.rd, .int .i64 r.s0, .int .i64 r.s1, .int .i64 r.e0, .int .i64 r.e1, .bool op, .slice la r.legs.length r.lc, .slice r.pa r.pauses.length r.pc, .int .i64 r.fw, .int .i64 r.fp, .int .i64 r.wh, .int .i64 r.pl] 52)), y.w.cell? ⟨x.w.heap.size, 9, none⟩ = some (.int .i64 r.fw) := fun y => Since.cell (by simp [go_sem]) (by first | (simp; done) | (simp; omega)) y
  have hb0_10 : ∀ y : Since (x.w.alloc (.cells #[.int .i64 r.id, .int .i64 r.rd, .int .i64 r.s0, .int .i64 r.s1, .int .i64 r.e0, .int .i64 r.e1, .bool op, .slice la r.legs.length r.lc, .slice r.pa r.pauses.length r.pc, .int .i64 r.fw, .int .i64 r.fp, .int .i64 r.wh, .int .i64 r.pl] 52)), y.w.cell? ⟨x.w.heap.size, 10, none⟩ = some (.int .i64 r.fp) := fun y => Since.cell (by simp [go_sem]) (by first | (simp; done) | (simp; omega)) y
  have hb0_11 : ∀ y : Since (x.w.alloc (.cells #[.int .i64 r.id, .int .i64 r.rd, .int .i64 r.s0, .int .i64 r.s1, .int .i64 r.e0, .int .i64 r.e1, .bool op, .slice la r.legs.length r.lc, .slice r.pa r.pauses.length r.pc, .int .i64 r.fw, .int .i64 r.fp, .int .i64 r.wh, .int .i64 r.pl] 52)), y.w.cell? ⟨x.w.heap.size, 11, none⟩ = some (.int .i64 r.wh) := fun y => Since.cell (by simp [go_sem]) (by first | (simp; done) | (simp; omega)) y
  have hb0_12 : ∀ y : Since (x.w.alloc (.cells #[.int .i64 r.id, .int .i64 r.rd, .int .i64 r.s0, .int .i64 r.s1, .int .i64 r.e0, .int .i64 r.e1, .bool op, .slice la r.legs.length r.lc, .slice r.pa r.pauses.length r.pc, .int .i64 r.fw, .int .i64 r.fp, .int .i64 r.wh, .int .i64 r.pl] 52)), y.w.cell? ⟨x.w.heap.size, 12, none⟩ = some (.int .i64 r.pl) := fun y => Since.cell (by simp [go_sem]) (by first | (simp; done) | (simp; omega)) y
  have hf0 : ∀ (y : Since (x.w.alloc (.cells #[.int .i64 r.id, .int .i64 r.rd, .int .i64 r.s0, .int .i64 r.s1, .int .i64 r.e0, .int .i64 r.e1, .bool op, .slice la r.legs.length r.lc, .slice r.pa r.pauses.length r.pc, .int .i64 r.fw, .int .i64 r.fp, .int .i64 r.wh, .int .i64 r.pl] 52))) (o : Nat), y.w.frozen? ⟨x.w.heap.size, o, none⟩ = false := fun y o => Since.free (by simp [go_sem]) (by first | (simp; done) | (simp; omega)) y
  have hWup : ∃ z : Since w, (x.w.alloc (.cells #[.int .i64 r.id, .int .i64 r.rd, .int .i64 r.s0, .int .i64 r.s1, .int .i64 r.e0, .int .i64 r.e1, .bool op, .slice la r.legs.length r.lc, .slice r.pa r.pauses.length r.pc, .int .i64 r.fw, .int .i64 r.fp, .int .i64 r.wh, .int .i64 r.pl] 52)) = z.w := x.alloc _
  obtain ⟨y0, hy0⟩ := Since.refl (x.w.alloc (.cells #[.int .i64 r.id, .int .i64 r.rd, .int .i64 r.s0, .int .i64 r.s1, .int .i64 r.e0, .int .i64 r.e1, .bool op, .slice la r.legs.length r.lc, .slice r.pa r.pauses.length r.pc, .int .i64 r.fw, .int .i64 r.fp, .int .i64 r.wh, .int .i64 r.pl] 52))
  have Hbx := Lib.hid (And.intro x.b.size (show x.w.heap.size + 1 = (x.w.alloc (.cells #[.int .i64 r.id, .int .i64 r.rd, .int .i64 r.s0, .int .i64 r.s1, .int .i64 r.e0, .int .i64 r.e1, .bool op, .slice la r.legs.length r.lc, .slice r.pa r.pauses.length r.pc, .int .i64 r.fw, .int .i64 r.fp, .int .i64 r.wh, .int .i64 r.pl] 52)).heap.size from by simp))
  generalize hW : (x.w.alloc (.cells #[.int .i64 r.id, .int .i64 r.rd, .int .i64 r.s0, .int .i64 r.s1, .int .i64 r.e0, .int .i64 r.e1, .bool op, .slice la r.legs.length r.lc, .slice r.pa r.pauses.length r.pc, .int .i64 r.fw, .int .i64 r.fp, .int .i64 r.wh, .int .i64 r.pl] 52)) = W at *
  clear hW
  generalize x.w.heap.size = bx at *
  have Hup := Lib.hid (Since.up hWup)
  rw [hy0]
  clear hy0
  replace HL := Lib.hid (HL.out.to hWup); replace HA := Lib.hid (HA.out.to hWup)
  replace Hmk := Lib.hid (Hmk.out W HA.out)
  clear hWup
  go_wp2_with fail
  go_loopw [3] (fun i wr => ∃ (k : Nat) (y : Since W), k ≤ r.legs.length ∧ i = .int .i64 k ∧ wr = y.w ∧ ∀ i, i < k → legB op r.legs i = true) (fun i _ => r.legs.length - (intOf i).toNat)
  case atStart => exact ⟨0, _, by omega, rfl, rfl, fun i hi => by omega⟩
  case round =>
    obtain ⟨k, y, hk, rfl, rfl, hok⟩ := hrel
    have Hok := Lib.hid hok; clear hok
    by_cases hlt : k < r.legs.length
    · obtain ⟨e, he⟩ : ∃ e, r.legs[k]? = some e := ⟨_, List.getElem?_eq_getElem hlt⟩
      obtain ⟨b1, off1, rfl, h1'⟩ := Els.leg HL.out he
      have pa0 := h1'.c0
      have pa1 := h1'.c1
      have pa2 := h1'.c2
      have pa3 := h1'.c3
      have pa4 := h1'.c4
      have Hlb := Lib.hid (show legB op r.legs k = (decide (e.f0 ≤ e.t0) || (op && decide (k + 1 = r.legs.length))) by unfold legB; rw [he])
      have hk0 : (0 : Int) ≤ (k : Int) := by omega
      have hkl : (k : Int) < (r.legs.length : Int) := by omega
      clear h1' he
      have hcase : (((k : Int) == (r.legs.length : Int) - 1) = true ∧ op = true ∧ legB op r.legs k = true) ∨ (((k : Int) == (r.legs.length : Int) - 1) = true ∧ op = false ∧ legB op r.legs k = decide (e.f0 ≤ e.t0)) ∨ (((k : Int) == (r.legs.length : Int) - 1) = false ∧ legB op r.legs k = decide (e.f0 ≤ e.t0)) := by
        by_cases h1 : k + 1 = r.legs.length
        · cases op
          · exact .inr (.inl ⟨by simp; omega, rfl, by rw [Hlb.out]; simp⟩)
          · exact .inl ⟨by simp; omega, rfl, by rw [Hlb.out, decide_eq_true h1]; simp⟩
        · exact .inr (.inr ⟨by simp; omega, by rw [Hlb.out, decide_eq_false h1]; simp⟩)
      clear Hlb
      rcases hcase with ⟨hkb, rfl, hlb⟩ | ⟨hkb, rfl, hlb⟩ | ⟨hkb, hlb⟩
      · have Hlb := Lib.hid hlb; clear hlb
        go_wp2_with fail
        refine wp_region_since (by kernel_rfl) (by kernel_rfl) ?_
        repeat (go_big_quiet_step (fail))
        refine wpQuiet_nil ?_
        rintro _ ⟨y2, rfl⟩
        go_wp2_with fail
        go_roundw
        case rel => exact ⟨k + 1, y2, by omega, by go_num, rfl, fun i hi => by
          by_cases hik : i < k
          · exact Hok.out i hik
          · obtain rfl : i = k := by omega
            exact Hlb.out⟩
        case measure => simp [intOf] <;> omega
      all_goals
        have Hlb := Lib.hid hlb; clear hlb
        by_cases hft : e.f0 ≤ e.t0
        · have hb : decide (e.t0 < e.f0) = false := decide_eq_false (by omega)
          have Hlb2 := Lib.hid (Hlb.out.trans (decide_eq_true hft))
          clear hft
          go_wp2_with fail
          refine wp_region_since (by kernel_rfl) (by kernel_rfl) ?_
          repeat (go_big_quiet_step (fail))
          refine wpQuiet_nil ?_
          rintro _ ⟨y2, rfl⟩
          clear hb
          go_wp2_with fail
          go_roundw
          case rel => exact ⟨k + 1, y2, by omega, by go_num, rfl, fun i hi => by
            by_cases hik : i < k
            · exact Hok.out i hik
            · obtain rfl : i = k := by omega
              exact Hlb2.out⟩
          case measure => simp [intOf] <;> omega
        · have hb : decide (e.t0 < e.f0) = true := decide_eq_true (by omega)
          have Hr := Lib.hid (show orderedB r = false by
            cases hh : orderedB r
            · rfl
            · have := HG.out.1 (HO.out.1 hh).1 k hlt
              rw [Hlb.out, decide_eq_false hft] at this; cases this)
          clear hft
          go_wp2_with fail
          refine wp_region_since (by kernel_rfl) (by kernel_rfl) ?_
          repeat (go_big_quiet_step (fail))
          refine wpQuiet_nil ?_
          rintro _ ⟨y2, rfl⟩
          clear hb
          go_wp2_with fail
          go_ret
          exact ⟨ret_bool Hr.out.symm, Hup.out _⟩
    · obtain rfl : k = r.legs.length := by omega
      have HG2 := Lib.hid (HG.out.2 Hok.out)
      clear Hok HG
      go_wp2_with (go_at_call 69; ((with_reducible refine (Hmk.out _).mono ?_); rintro _ _ ⟨a, cap, y2, rfl, rfl, hrow⟩))
      clear Hmk
      have hM5 : M.length ≤ 200000 := by omega
      have Hrow := Lib.hid hrow; clear hrow
      replace hb0_0 := Since.cellTo ⟨y2, rfl⟩ hb0_0
      replace hb0_1 := Since.cellTo ⟨y2, rfl⟩ hb0_1
      replace hb0_2 := Since.cellTo ⟨y2, rfl⟩ hb0_2
      replace hb0_3 := Since.cellTo ⟨y2, rfl⟩ hb0_3
      replace hb0_4 := Since.cellTo ⟨y2, rfl⟩ hb0_4
      replace hb0_5 := Since.cellTo ⟨y2, rfl⟩ hb0_5
      replace hb0_6 := Since.cellTo ⟨y2, rfl⟩ hb0_6
      replace hb0_7 := Since.cellTo ⟨y2, rfl⟩ hb0_7
      replace hb0_8 := Since.cellTo ⟨y2, rfl⟩ hb0_8
      replace hb0_9 := Since.cellTo ⟨y2, rfl⟩ hb0_9
      replace hb0_10 := Since.cellTo ⟨y2, rfl⟩ hb0_10
      replace hb0_11 := Since.cellTo ⟨y2, rfl⟩ hb0_11
      replace hb0_12 := Since.cellTo ⟨y2, rfl⟩ hb0_12
      obtain ⟨q0, hq0⟩ := Since.refl y2.w
      rw [hq0]
      clear hq0
      go_wp2_with fail
      go_loopw [6] (fun i wr => ∃ (k : Nat) (z : Since y2.w), k ≤ M.length ∧ i = .int .i64 k ∧ wr = z.w ∧ ∀ i, i < k → markB op r.s0 r.e0 M i = true) (fun i _ => M.length - (intOf i).toNat)
      case atStart => exact ⟨0, _, by omega, rfl, rfl, fun i hi => by omega⟩
      case round =>
        obtain ⟨k, z, hk, rfl, rfl, hok⟩ := hrel
        have Hok := Lib.hid hok; clear hok
        by_cases hlt : k < M.length
        · obtain ⟨b, off, rfl, hbl, hc⟩ := Hrow.out k hlt
          have kc : ∀ q : Since y2.w, q.w.cell? ⟨b, off + k, none⟩ = some (.int .i64 (at0 M k)) := fun q => Since.cell hc hbl q
          have hk0 : (0 : Int) ≤ (k : Int) := by omega
          have hkl : (k : Int) < (M.length : Int) := by omega
          clear hbl hc
          by_cases hz : k = 0
          · have hz1 : ((k : Int) == 0) = true := by simp; omega
            have hz2 : decide ((0 : Int) < (k : Int)) = false := decide_eq_false (by omega)
            have hz3 : decide (0 < k) = false := decide_eq_false (by omega)
            have Hmb := Lib.hid (show markB op r.s0 r.e0 M k = (decide (r.s0 ≤ at0 M k) && (op || decide (at0 M k ≤ r.e0))) by unfold markB; rw [if_pos hz, hz])
            clear hz
            generalize at0 M k = v at *
            have hcase : (decide (v < r.s0) = true ∧ markB op r.s0 r.e0 M k = false) ∨ (decide (v < r.s0) = false ∧ op = true ∧ markB op r.s0 r.e0 M k = true) ∨ (decide (v < r.s0) = false ∧ op = false ∧ decide (r.e0 < v) = true ∧ markB op r.s0 r.e0 M k = false) ∨ (decide (v < r.s0) = false ∧ op = false ∧ decide (r.e0 < v) = false ∧ markB op r.s0 r.e0 M k = true) := by
              rw [Hmb.out]
              by_cases h1 : v < r.s0
              · exact .inl ⟨decide_eq_true h1, by rw [decide_eq_false (by omega)]; rfl⟩
              · cases op
                · by_cases h2 : r.e0 < v
                  · exact .inr (.inr (.inl ⟨decide_eq_false h1, rfl, decide_eq_true h2, by rw [decide_eq_false (p := v ≤ r.e0) (by omega)]; simp⟩))
                  · exact .inr (.inr (.inr ⟨decide_eq_false h1, rfl, decide_eq_false h2, by simp; omega⟩))
                · exact .inr (.inl ⟨decide_eq_false h1, rfl, by simp; omega⟩)
            clear Hmb
            rcases hcase with ⟨t1, hm⟩ | ⟨t1, rfl, hm⟩ | ⟨t1, rfl, t2, hm⟩ | ⟨t1, rfl, t2, hm⟩
            · have Hm := Lib.hid hm; clear hm
              have Hr := Lib.hid (show orderedB r = false by
                cases hh : orderedB r
                · rfl
                · have := (HO.out.1 hh).2 k hlt
                  rw [Hm.out] at this; cases this)
              go_wp2_with fail
              refine wp_region_since (by kernel_rfl) (by kernel_rfl) ?_
              repeat (go_big_quiet_step (fail))
              refine wpQuiet_nil ?_
              rintro _ ⟨z2, rfl⟩
              clear hz1 hz2 hz3
              go_wp2_with fail
              go_ret
              exact ⟨ret_bool Hr.out.symm, by obtain ⟨q, e⟩ := y2.trans z2; rw [e]; exact Hup.out q⟩
            · have Hm := Lib.hid hm; clear hm
              go_wp2_with fail
              refine wp_region_since (by kernel_rfl) (by kernel_rfl) ?_
              repeat (go_big_quiet_step (fail))
              refine wpQuiet_nil ?_
              rintro _ ⟨z2, rfl⟩
              clear hz1 hz2 hz3
              go_wp2_with fail
              go_roundw
              case rel => exact ⟨k + 1, z2, by omega, by go_num, rfl, fun i hi => by
                by_cases hik : i < k
                · exact Hok.out i hik
                · obtain rfl : i = k := by omega
                  exact Hm.out⟩
              case measure => simp [intOf] <;> omega
            · have Hm := Lib.hid hm; clear hm
              have Hr := Lib.hid (show orderedB r = false by
                cases hh : orderedB r
                · rfl
                · have := (HO.out.1 hh).2 k hlt
                  rw [Hm.out] at this; cases this)
              go_wp2_with fail
              refine wp_region_since (by kernel_rfl) (by kernel_rfl) ?_
              repeat (go_big_quiet_step (fail))
              refine wpQuiet_nil ?_
              rintro _ ⟨z2, rfl⟩
              clear hz1 hz2 hz3
              go_wp2_with fail
              go_ret
              exact ⟨ret_bool Hr.out.symm, by obtain ⟨q, e⟩ := y2.trans z2; rw [e]; exact Hup.out q⟩
            · have Hm := Lib.hid hm; clear hm
              go_wp2_with fail
              refine wp_region_since (by kernel_rfl) (by kernel_rfl) ?_
              repeat (go_big_quiet_step (fail))
              refine wpQuiet_nil ?_
              rintro _ ⟨z2, rfl⟩
              clear hz1 hz2 hz3
              go_wp2_with fail
              go_roundw
              case rel => exact ⟨k + 1, z2, by omega, by go_num, rfl, fun i hi => by
                by_cases hik : i < k
                · exact Hok.out i hik
                · obtain rfl : i = k := by omega
                  exact Hm.out⟩
              case measure => simp [intOf] <;> omega
          · obtain ⟨b', off', hbo, hbl, hc⟩ := Hrow.out (k - 1) (by omega)
            obtain ⟨rfl, rfl⟩ : b = b' ∧ off = off' := by simpa using hbo
            have kp : ∀ q : Since y2.w, q.w.cell? ⟨b, off + (k - 1), none⟩ = some (.int .i64 (at0 M (k - 1))) := fun q => Since.cell hc hbl q
            have hz1 : ((k : Int) == 0) = false := by simp; omega
            have hz2 : decide ((0 : Int) < (k : Int)) = true := decide_eq_true (by omega)
            have hz3 : decide (0 < k) = true := decide_eq_true (by omega)
            have hmw : IntKind.i64.wrap ((k : Int) - 1) = ((k - 1 : Nat) : Int) := by rw [show (k : Int) - 1 = ((k - 1 : Nat) : Int) by omega]; exact IntWalk.i64_in _ (by omega)
            have hmr : (0 : Int) ≤ ((k - 1 : Nat) : Int) := by omega
            have hml : ((k - 1 : Nat) : Int) < (M.length : Int) := by omega
            have Hmb := Lib.hid (show markB op r.s0 r.e0 M k = (decide (at0 M (k - 1) ≤ at0 M k) && (op || decide (at0 M k ≤ r.e0))) by unfold markB; rw [if_neg hz])
            clear hz hbo hbl hc
            generalize at0 M k = v at *
            generalize at0 M (k - 1) = u at *
            have hcase : (decide (v < u) = true ∧ markB op r.s0 r.e0 M k = false) ∨ (decide (v < u) = false ∧ op = true ∧ markB op r.s0 r.e0 M k = true) ∨ (decide (v < u) = false ∧ op = false ∧ decide (r.e0 < v) = true ∧ markB op r.s0 r.e0 M k = false) ∨ (decide (v < u) = false ∧ op = false ∧ decide (r.e0 < v) = false ∧ markB op r.s0 r.e0 M k = true) := by
              rw [Hmb.out]
              by_cases h1 : v < u
              · exact .inl ⟨decide_eq_true h1, by rw [decide_eq_false (by omega)]; rfl⟩
              · cases op
                · by_cases h2 : r.e0 < v
                  · exact .inr (.inr (.inl ⟨decide_eq_false h1, rfl, decide_eq_true h2, by rw [decide_eq_false (p := v ≤ r.e0) (by omega)]; simp⟩))
                  · exact .inr (.inr (.inr ⟨decide_eq_false h1, rfl, decide_eq_false h2, by simp; omega⟩))
                · exact .inr (.inl ⟨decide_eq_false h1, rfl, by simp; omega⟩)
            clear Hmb
            rcases hcase with ⟨t1, hm⟩ | ⟨t1, rfl, hm⟩ | ⟨t1, rfl, t2, hm⟩ | ⟨t1, rfl, t2, hm⟩
            · have Hm := Lib.hid hm; clear hm
              have Hr := Lib.hid (show orderedB r = false by
                cases hh : orderedB r
                · rfl
                · have := (HO.out.1 hh).2 k hlt
                  rw [Hm.out] at this; cases this)
              go_wp2_with fail
              refine wp_region_since (by kernel_rfl) (by kernel_rfl) ?_
              repeat (go_big_quiet_step (fail))
              refine wpQuiet_nil ?_
              rintro _ ⟨z2, rfl⟩
              clear hz1 hz2 hz3
              go_wp2_with fail
              go_ret
              exact ⟨ret_bool Hr.out.symm, by obtain ⟨q, e⟩ := y2.trans z2; rw [e]; exact Hup.out q⟩
            · have Hm := Lib.hid hm; clear hm
              go_wp2_with fail
              refine wp_region_since (by kernel_rfl) (by kernel_rfl) ?_
              repeat (go_big_quiet_step (fail))
              refine wpQuiet_nil ?_
              rintro _ ⟨z2, rfl⟩
              clear hz1 hz2 hz3
              go_wp2_with fail
              go_roundw
              case rel => exact ⟨k + 1, z2, by omega, by go_num, rfl, fun i hi => by
                by_cases hik : i < k
                · exact Hok.out i hik
                · obtain rfl : i = k := by omega
                  exact Hm.out⟩
              case measure => simp [intOf] <;> omega
            · have Hm := Lib.hid hm; clear hm
              have Hr := Lib.hid (show orderedB r = false by
                cases hh : orderedB r
                · rfl
                · have := (HO.out.1 hh).2 k hlt
                  rw [Hm.out] at this; cases this)
              go_wp2_with fail
              refine wp_region_since (by kernel_rfl) (by kernel_rfl) ?_
              repeat (go_big_quiet_step (fail))
              refine wpQuiet_nil ?_
              rintro _ ⟨z2, rfl⟩
              clear hz1 hz2 hz3
              go_wp2_with fail
              go_ret
              exact ⟨ret_bool Hr.out.symm, by obtain ⟨q, e⟩ := y2.trans z2; rw [e]; exact Hup.out q⟩
            · have Hm := Lib.hid hm; clear hm
              go_wp2_with fail
              refine wp_region_since (by kernel_rfl) (by kernel_rfl) ?_
              repeat (go_big_quiet_step (fail))
              refine wpQuiet_nil ?_
              rintro _ ⟨z2, rfl⟩
              clear hz1 hz2 hz3
              go_wp2_with fail
              go_roundw
              case rel => exact ⟨k + 1, z2, by omega, by go_num, rfl, fun i hi => by
                by_cases hik : i < k
                · exact Hok.out i hik
                · obtain rfl : i = k := by omega
                  exact Hm.out⟩
              case measure => simp [intOf] <;> omega
        · obtain rfl : k = M.length := by omega
          have Hr := Lib.hid (HO.out.2 ⟨HG2.out, Hok.out⟩)
          go_wp2_with fail
          go_ret
          exact ⟨ret_bool Hr.out.symm, by obtain ⟨q, e⟩ := y2.trans z; rw [e]; exact Hup.out q⟩
end Go.Proofs.Ytdmmjapccgeffaa
/- The walks of the program's check of a ride, fourth part: the check. -/
namespace Go.Proofs.Ytdmmjapccgeffaa
open Go.RowKit

set_option maxRecDepth 100000 in
set_option maxHeartbeats 8000000 in
theorem check_calls (w : World) (x : Since w) (r : Ride) (h : r.At w) :
    Calls Try.prog 40 #[.agg #[.int .i64 r.id, .int .i64 r.rd, .int .i64 r.s0, .int .i64 r.s1, .int .i64 r.e0, .int .i64 r.e1, .bool r.op, .slice r.la r.legs.length r.lc, .slice r.pa r.pauses.length r.pc, .int .i64 r.fw, .int .i64 r.fp, .int .i64 r.wh, .int .i64 r.pl]] x.w fun o w' => o = .returned (.int .i64 (rideE r)) ∧ ∃ y : Since w, w' = y.w := by
  have H := Lib.hid h
  clear h
  go_enter Try.func40, Try.ntmps40
  go_upto_region 1 with fail
  have hb0_0 : ∀ y : Since (x.w.alloc (.cells #[.int .i64 r.id, .int .i64 r.rd, .int .i64 r.s0, .int .i64 r.s1, .int .i64 r.e0, .int .i64 r.e1, .bool r.op, .slice r.la r.legs.length r.lc, .slice r.pa r.pauses.length r.pc, .int .i64 r.fw, .int .i64 r.fp, .int .i64 r.wh, .int .i64 r.pl] 52)), y.w.cell? ⟨x.w.heap.size, 0, none⟩ = some (.int .i64 r.id) := fun y => Since.cell (by simp [go_sem]) (by first | (simp; done) | (simp; omega)) y
  have hb0_1 : ∀ y : Since (x.w.alloc (.cells #[.int .i64 r.id, .int .i64 r.rd, .int .i64 r.s0, .int .i64 r.s1, .int .i64 r.e0, .int .i64 r.e1, .bool r.op, .slice r.la r.legs.length r.lc, .slice r.pa r.pauses.length r.pc, .int .i64 r.fw, .int .i64 r.fp, .int .i64 r.wh, .int .i64 r.pl] 52)), y.w.cell? ⟨x.w.heap.size, 1, none⟩ = some (.int .i64 r.rd) := fun y => Since.cell (by simp [go_sem]) (by first | (simp; done) | (simp; omega)) y
  have hb0_2 : ∀ y : Since (x.w.alloc (.cells #[.int .i64 r.id, .int .i64 r.rd, .int .i64 r.s0, .int .i64 r.s1, .int .i64 r.e0, .int .i64 r.e1, .bool r.op, .slice r.la r.legs.length r.lc, .slice r.pa r.pauses.length r.pc, .int .i64 r.fw, .int .i64 r.fp, .int .i64 r.wh, .int .i64 r.pl] 52)), y.w.cell? ⟨x.w.heap.size, 2, none⟩ = some (.int .i64 r.s0) := fun y => Since.cell (by simp [go_sem]) (by first | (simp; done) | (simp; omega)) y
  have hb0_3 : ∀ y : Since (x.w.alloc (.cells #[.int .i64 r.id, .int .i64 r.rd, .int .i64 r.s0, .int .i64 r.s1, .int .i64 r.e0, .int .i64 r.e1, .bool r.op, .slice r.la r.legs.length r.lc, .slice r.pa r.pauses.length r.pc, .int .i64 r.fw, .int .i64 r.fp, .int .i64 r.wh, .int .i64 r.pl] 52)), y.w.cell? ⟨x.w.heap.size, 3, none⟩ = some (.int .i64 r.s1) := fun y => Since.cell (by simp [go_sem]) (by first | (simp; done) | (simp; omega)) y
  have hb0_4 : ∀ y : Since (x.w.alloc (.cells #[.int .i64 r.id, .int .i64 r.rd, .int .i64 r.s0, .int .i64 r.s1, .int .i64 r.e0, .int .i64 r.e1, .bool r.op, .slice r.la r.legs.length r.lc, .slice r.pa r.pauses.length r.pc, .int .i64 r.fw, .int .i64 r.fp, .int .i64 r.wh, .int .i64 r.pl] 52)), y.w.cell? ⟨x.w.heap.size, 4, none⟩ = some (.int .i64 r.e0) := fun y => Since.cell (by simp [go_sem]) (by first | (simp; done) | (simp; omega)) y
  have hb0_5 : ∀ y : Since (x.w.alloc (.cells #[.int .i64 r.id, .int .i64 r.rd, .int .i64 r.s0, .int .i64 r.s1, .int .i64 r.e0, .int .i64 r.e1, .bool r.op, .slice r.la r.legs.length r.lc, .slice r.pa r.pauses.length r.pc, .int .i64 r.fw, .int .i64 r.fp, .int .i64 r.wh, .int .i64 r.pl] 52)), y.w.cell? ⟨x.w.heap.size, 5, none⟩ = some (.int .i64 r.e1) := fun y => Since.cell (by simp [go_sem]) (by first | (simp; done) | (simp; omega)) y
  have hb0_6 : ∀ y : Since (x.w.alloc (.cells #[.int .i64 r.id, .int .i64 r.rd, .int .i64 r.s0, .int .i64 r.s1, .int .i64 r.e0, .int .i64 r.e1, .bool r.op, .slice r.la r.legs.length r.lc, .slice r.pa r.pauses.length r.pc, .int .i64 r.fw, .int .i64 r.fp, .int .i64 r.wh, .int .i64 r.pl] 52)), y.w.cell? ⟨x.w.heap.size, 6, none⟩ = some (.bool r.op) := fun y => Since.cell (by simp [go_sem]) (by first | (simp; done) | (simp; omega)) y
  have hb0_7 : ∀ y : Since (x.w.alloc (.cells #[.int .i64 r.id, .int .i64 r.rd, .int .i64 r.s0, .int .i64 r.s1, .int .i64 r.e0, .int .i64 r.e1, .bool r.op, .slice r.la r.legs.length r.lc, .slice r.pa r.pauses.length r.pc, .int .i64 r.fw, .int .i64 r.fp, .int .i64 r.wh, .int .i64 r.pl] 52)), y.w.cell? ⟨x.w.heap.size, 7, none⟩ = some (.slice r.la r.legs.length r.lc) := fun y => Since.cell (by simp [go_sem]) (by first | (simp; done) | (simp; omega)) y
  have hb0_8 : ∀ y : Since (x.w.alloc (.cells #[.int .i64 r.id, .int .i64 r.rd, .int .i64 r.s0, .int .i64 r.s1, .int .i64 r.e0, .int .i64 r.e1, .bool r.op, .slice r.la r.legs.length r.lc, .slice r.pa r.pauses.length r.pc, .int .i64 r.fw, .int .i64 r.fp, .int .i64 r.wh, .int .i64 r.pl] 52)), y.w.cell? ⟨x.w.heap.size, 8, none⟩ = some (.slice r.pa r.pauses.length r.pc) := fun y => Since.cell (by simp [go_sem]) (by first | (simp; done) | (simp; omega)) y
  have hb0_9 : ∀ y : Since (x.w.alloc (.cells #[.int .i64 r.id, .int .i64 r.rd, .int .i64 r.s0, .int .i64 r.s1, .int .i64 r.e0, .int .i64 r.e1, .bool r.op, .slice r.la r.legs.length r.lc, .slice r.pa r.pauses.length r.pc, .int .i64 r.fw, .int .i64 r.fp, .int .i64 r.wh, .int .i64 r.pl] 52)), y.w.cell? ⟨x.w.heap.size, 9, none⟩ = some (.int .i64 r.fw) := fun y => Since.cell (by simp [go_sem]) (by first | (simp; done) | (simp; omega)) y
  have hb0_10 : ∀ y : Since (x.w.alloc (.cells #[.int .i64 r.id, .int .i64 r.rd, .int .i64 r.s0, .int .i64 r.s1, .int .i64 r.e0, .int .i64 r.e1, .bool r.op, .slice r.la r.legs.length r.lc, .slice r.pa r.pauses.length r.pc, .int .i64 r.fw, .int .i64 r.fp, .int .i64 r.wh, .int .i64 r.pl] 52)), y.w.cell? ⟨x.w.heap.size, 10, none⟩ = some (.int .i64 r.fp) := fun y => Since.cell (by simp [go_sem]) (by first | (simp; done) | (simp; omega)) y
  have hb0_11 : ∀ y : Since (x.w.alloc (.cells #[.int .i64 r.id, .int .i64 r.rd, .int .i64 r.s0, .int .i64 r.s1, .int .i64 r.e0, .int .i64 r.e1, .bool r.op, .slice r.la r.legs.length r.lc, .slice r.pa r.pauses.length r.pc, .int .i64 r.fw, .int .i64 r.fp, .int .i64 r.wh, .int .i64 r.pl] 52)), y.w.cell? ⟨x.w.heap.size, 11, none⟩ = some (.int .i64 r.wh) := fun y => Since.cell (by simp [go_sem]) (by first | (simp; done) | (simp; omega)) y
  have hb0_12 : ∀ y : Since (x.w.alloc (.cells #[.int .i64 r.id, .int .i64 r.rd, .int .i64 r.s0, .int .i64 r.s1, .int .i64 r.e0, .int .i64 r.e1, .bool r.op, .slice r.la r.legs.length r.lc, .slice r.pa r.pauses.length r.pc, .int .i64 r.fw, .int .i64 r.fp, .int .i64 r.wh, .int .i64 r.pl] 52)), y.w.cell? ⟨x.w.heap.size, 12, none⟩ = some (.int .i64 r.pl) := fun y => Since.cell (by simp [go_sem]) (by first | (simp; done) | (simp; omega)) y
  have hf0 : ∀ (y : Since (x.w.alloc (.cells #[.int .i64 r.id, .int .i64 r.rd, .int .i64 r.s0, .int .i64 r.s1, .int .i64 r.e0, .int .i64 r.e1, .bool r.op, .slice r.la r.legs.length r.lc, .slice r.pa r.pauses.length r.pc, .int .i64 r.fw, .int .i64 r.fp, .int .i64 r.wh, .int .i64 r.pl] 52))) (o : Nat), y.w.frozen? ⟨x.w.heap.size, o, none⟩ = false := fun y o => Since.free (by simp [go_sem]) (by first | (simp; done) | (simp; omega)) y
  have hWup : ∃ z : Since w, (x.w.alloc (.cells #[.int .i64 r.id, .int .i64 r.rd, .int .i64 r.s0, .int .i64 r.s1, .int .i64 r.e0, .int .i64 r.e1, .bool r.op, .slice r.la r.legs.length r.lc, .slice r.pa r.pauses.length r.pc, .int .i64 r.fw, .int .i64 r.fp, .int .i64 r.wh, .int .i64 r.pl] 52)) = z.w := x.alloc _
  obtain ⟨y0, hy0⟩ := Since.refl (x.w.alloc (.cells #[.int .i64 r.id, .int .i64 r.rd, .int .i64 r.s0, .int .i64 r.s1, .int .i64 r.e0, .int .i64 r.e1, .bool r.op, .slice r.la r.legs.length r.lc, .slice r.pa r.pauses.length r.pc, .int .i64 r.fw, .int .i64 r.fp, .int .i64 r.wh, .int .i64 r.pl] 52))
  have Hbx := Lib.hid (And.intro x.b.size (show x.w.heap.size + 1 = (x.w.alloc (.cells #[.int .i64 r.id, .int .i64 r.rd, .int .i64 r.s0, .int .i64 r.s1, .int .i64 r.e0, .int .i64 r.e1, .bool r.op, .slice r.la r.legs.length r.lc, .slice r.pa r.pauses.length r.pc, .int .i64 r.fw, .int .i64 r.fp, .int .i64 r.wh, .int .i64 r.pl] 52)).heap.size from by simp))
  generalize hW : (x.w.alloc (.cells #[.int .i64 r.id, .int .i64 r.rd, .int .i64 r.s0, .int .i64 r.s1, .int .i64 r.e0, .int .i64 r.e1, .bool r.op, .slice r.la r.legs.length r.lc, .slice r.pa r.pauses.length r.pc, .int .i64 r.fw, .int .i64 r.fp, .int .i64 r.wh, .int .i64 r.pl] 52)) = W at *
  clear hW
  generalize x.w.heap.size = bx at *
  have Hup := Lib.hid (Since.up hWup)
  rw [hy0]
  clear hy0
  replace H := Lib.hid (H.out.to hWup)
  clear hWup
  have Hra := Lib.hid (fun y : Since W => ranged_calls W y r H.out)
  have Hjo := Lib.hid (fun y : Since W => joined_calls W y r H.out)
  have Hor := Lib.hid (fun y : Since W => ordered_calls W y r H.out)
  have hgd := span_guard
  have heq := span_equal r.e0 r.e1 0 0
  have HE := Lib.hid (show rideE r = if rangedB r = false then 1 else if joinedB r = false then 3 else if orderedB r = false then 9 else if stateB r = true then 12 else 0 from rfl)
  have Hst := Lib.hid (show stateB r = ((r.op && !(decide (r.e0 = 0) && decide (r.e1 = 0))) || (r.op != decide (r.wh = 3))) from rfl)
  generalize stateB r = sb at *
  generalize rangedB r = rb at *
  generalize joinedB r = jb at *
  generalize orderedB r = ob at *
  cases rb with
  | false =>
    go_wp2_with (go_at_call 48; ((with_reducible refine (Hra.out _).mono ?_); rintro _ _ ⟨rfl, y1, rfl⟩))
    go_ret
    exact ⟨ret_int (by rw [HE.out]; rfl), Hup.out _⟩
  | true =>
    cases jb with
    | false =>
      go_wp2_with (first | (go_at_call 48; ((with_reducible refine (Hra.out _).mono ?_); rintro _ _ ⟨rfl, y1, rfl⟩)) | (go_at_call 49; ((with_reducible refine (Hjo.out _).mono ?_); rintro _ _ ⟨rfl, y2, rfl⟩)))
      go_ret
      exact ⟨ret_int (by rw [HE.out]; rfl), Hup.out _⟩
    | true =>
      cases ob with
      | false =>
        go_wp2_with (first | (go_at_call 48; ((with_reducible refine (Hra.out _).mono ?_); rintro _ _ ⟨rfl, y1, rfl⟩)) | (go_at_call 49; ((with_reducible refine (Hjo.out _).mono ?_); rintro _ _ ⟨rfl, y2, rfl⟩)) | (go_at_call 50; ((with_reducible refine (Hor.out _).mono ?_); rintro _ _ ⟨rfl, y3, rfl⟩)))
        go_ret
        exact ⟨ret_int (by rw [HE.out]; rfl), Hup.out _⟩
      | true =>
        go_upto_region 7 with (first | (go_at_call 48; ((with_reducible refine (Hra.out _).mono ?_); rintro _ _ ⟨rfl, y1, rfl⟩)) | (go_at_call 49; ((with_reducible refine (Hjo.out _).mono ?_); rintro _ _ ⟨rfl, y2, rfl⟩)) | (go_at_call 50; ((with_reducible refine (Hor.out _).mono ?_); rintro _ _ ⟨rfl, y3, rfl⟩)))
        clear Hra Hjo Hor
        cases hz : (decide (r.e0 = 0) && decide (r.e1 = 0)) with
        | false =>
          rw [hz] at heq Hst
          clear hz
          by_cases hw : r.wh = 3
          · have hwb : (r.wh == 3) = true := by simpa using hw
            rw [decide_eq_true hw] at Hst
            clear hw
            cases hop : r.op with
            | false =>
              rw [hop] at Hst
              go_wp2_with fail
              go_ret
              exact ⟨ret_int (by rw [HE.out, Hst.out]; rfl), Hup.out _⟩
            | true =>
              rw [hop] at Hst
              go_wp2_with fail
              go_ret
              exact ⟨ret_int (by rw [HE.out, Hst.out]; rfl), Hup.out _⟩
          · have hwb : (r.wh == 3) = false := by simpa using hw
            rw [decide_eq_false hw] at Hst
            clear hw
            cases hop : r.op with
            | false =>
              rw [hop] at Hst
              go_wp2_with fail
              go_ret
              exact ⟨ret_int (by rw [HE.out, Hst.out]; rfl), Hup.out _⟩
            | true =>
              rw [hop] at Hst
              go_wp2_with fail
              go_ret
              exact ⟨ret_int (by rw [HE.out, Hst.out]; rfl), Hup.out _⟩
        | true =>
          rw [hz] at heq Hst
          clear hz
          by_cases hw : r.wh = 3
          · have hwb : (r.wh == 3) = true := by simpa using hw
            rw [decide_eq_true hw] at Hst
            clear hw
            cases hop : r.op with
            | false =>
              rw [hop] at Hst
              go_wp2_with fail
              go_ret
              exact ⟨ret_int (by rw [HE.out, Hst.out]; rfl), Hup.out _⟩
            | true =>
              rw [hop] at Hst
              go_wp2_with fail
              go_ret
              exact ⟨ret_int (by rw [HE.out, Hst.out]; rfl), Hup.out _⟩
          · have hwb : (r.wh == 3) = false := by simpa using hw
            rw [decide_eq_false hw] at Hst
            clear hw
            cases hop : r.op with
            | false =>
              rw [hop] at Hst
              go_wp2_with fail
              go_ret
              exact ⟨ret_int (by rw [HE.out, Hst.out]; rfl), Hup.out _⟩
            | true =>
              rw [hop] at Hst
              go_wp2_with fail
              go_ret
              exact ⟨ret_int (by rw [HE.out, Hst.out]; rfl), Hup.out _⟩
end Go.Proofs.Ytdmmjapccgeffaa
/- The walks of the reference's check of a ride, sixth part: the check; short lists of rides. -/
namespace Go.Proofs.Ytdmmjapccgeffaa
open Go.RowKit

set_option maxRecDepth 100000 in
set_option maxHeartbeats 8000000 in
theorem rcheck_calls (w : World) (x : Since w) (r : Ride) (h : r.At w) :
    Calls Try.prog 45 #[.agg #[.int .i64 r.id, .int .i64 r.rd, .int .i64 r.s0, .int .i64 r.s1, .int .i64 r.e0, .int .i64 r.e1, .bool r.op, .slice r.la r.legs.length r.lc, .slice r.pa r.pauses.length r.pc, .int .i64 r.fw, .int .i64 r.fp, .int .i64 r.wh, .int .i64 r.pl]] x.w fun o w' => o = .returned (.int .i64 (rideE r)) ∧ ∃ y : Since w, w' = y.w := by
  have H := Lib.hid h
  clear h
  go_enter Try.func45, Try.ntmps45
  go_upto_region 1 with fail
  have hb0_0 : ∀ y : Since (x.w.alloc (.cells #[.int .i64 r.id, .int .i64 r.rd, .int .i64 r.s0, .int .i64 r.s1, .int .i64 r.e0, .int .i64 r.e1, .bool r.op, .slice r.la r.legs.length r.lc, .slice r.pa r.pauses.length r.pc, .int .i64 r.fw, .int .i64 r.fp, .int .i64 r.wh, .int .i64 r.pl] 52)), y.w.cell? ⟨x.w.heap.size, 0, none⟩ = some (.int .i64 r.id) := fun y => Since.cell (by simp [go_sem]) (by first | (simp; done) | (simp; omega)) y
  have hb0_1 : ∀ y : Since (x.w.alloc (.cells #[.int .i64 r.id, .int .i64 r.rd, .int .i64 r.s0, .int .i64 r.s1, .int .i64 r.e0, .int .i64 r.e1, .bool r.op, .slice r.la r.legs.length r.lc, .slice r.pa r.pauses.length r.pc, .int .i64 r.fw, .int .i64 r.fp, .int .i64 r.wh, .int .i64 r.pl] 52)), y.w.cell? ⟨x.w.heap.size, 1, none⟩ = some (.int .i64 r.rd) := fun y => Since.cell (by simp [go_sem]) (by first | (simp; done) | (simp; omega)) y
  have hb0_2 : ∀ y : Since (x.w.alloc (.cells #[.int .i64 r.id, .int .i64 r.rd, .int .i64 r.s0, .int .i64 r.s1, .int .i64 r.e0, .int .i64 r.e1, .bool r.op, .slice r.la r.legs.length r.lc, .slice r.pa r.pauses.length r.pc, .int .i64 r.fw, .int .i64 r.fp, .int .i64 r.wh, .int .i64 r.pl] 52)), y.w.cell? ⟨x.w.heap.size, 2, none⟩ = some (.int .i64 r.s0) := fun y => Since.cell (by simp [go_sem]) (by first | (simp; done) | (simp; omega)) y
  have hb0_3 : ∀ y : Since (x.w.alloc (.cells #[.int .i64 r.id, .int .i64 r.rd, .int .i64 r.s0, .int .i64 r.s1, .int .i64 r.e0, .int .i64 r.e1, .bool r.op, .slice r.la r.legs.length r.lc, .slice r.pa r.pauses.length r.pc, .int .i64 r.fw, .int .i64 r.fp, .int .i64 r.wh, .int .i64 r.pl] 52)), y.w.cell? ⟨x.w.heap.size, 3, none⟩ = some (.int .i64 r.s1) := fun y => Since.cell (by simp [go_sem]) (by first | (simp; done) | (simp; omega)) y
  have hb0_4 : ∀ y : Since (x.w.alloc (.cells #[.int .i64 r.id, .int .i64 r.rd, .int .i64 r.s0, .int .i64 r.s1, .int .i64 r.e0, .int .i64 r.e1, .bool r.op, .slice r.la r.legs.length r.lc, .slice r.pa r.pauses.length r.pc, .int .i64 r.fw, .int .i64 r.fp, .int .i64 r.wh, .int .i64 r.pl] 52)), y.w.cell? ⟨x.w.heap.size, 4, none⟩ = some (.int .i64 r.e0) := fun y => Since.cell (by simp [go_sem]) (by first | (simp; done) | (simp; omega)) y
  have hb0_5 : ∀ y : Since (x.w.alloc (.cells #[.int .i64 r.id, .int .i64 r.rd, .int .i64 r.s0, .int .i64 r.s1, .int .i64 r.e0, .int .i64 r.e1, .bool r.op, .slice r.la r.legs.length r.lc, .slice r.pa r.pauses.length r.pc, .int .i64 r.fw, .int .i64 r.fp, .int .i64 r.wh, .int .i64 r.pl] 52)), y.w.cell? ⟨x.w.heap.size, 5, none⟩ = some (.int .i64 r.e1) := fun y => Since.cell (by simp [go_sem]) (by first | (simp; done) | (simp; omega)) y
  have hb0_6 : ∀ y : Since (x.w.alloc (.cells #[.int .i64 r.id, .int .i64 r.rd, .int .i64 r.s0, .int .i64 r.s1, .int .i64 r.e0, .int .i64 r.e1, .bool r.op, .slice r.la r.legs.length r.lc, .slice r.pa r.pauses.length r.pc, .int .i64 r.fw, .int .i64 r.fp, .int .i64 r.wh, .int .i64 r.pl] 52)), y.w.cell? ⟨x.w.heap.size, 6, none⟩ = some (.bool r.op) := fun y => Since.cell (by simp [go_sem]) (by first | (simp; done) | (simp; omega)) y
  have hb0_7 : ∀ y : Since (x.w.alloc (.cells #[.int .i64 r.id, .int .i64 r.rd, .int .i64 r.s0, .int .i64 r.s1, .int .i64 r.e0, .int .i64 r.e1, .bool r.op, .slice r.la r.legs.length r.lc, .slice r.pa r.pauses.length r.pc, .int .i64 r.fw, .int .i64 r.fp, .int .i64 r.wh, .int .i64 r.pl] 52)), y.w.cell? ⟨x.w.heap.size, 7, none⟩ = some (.slice r.la r.legs.length r.lc) := fun y => Since.cell (by simp [go_sem]) (by first | (simp; done) | (simp; omega)) y
  have hb0_8 : ∀ y : Since (x.w.alloc (.cells #[.int .i64 r.id, .int .i64 r.rd, .int .i64 r.s0, .int .i64 r.s1, .int .i64 r.e0, .int .i64 r.e1, .bool r.op, .slice r.la r.legs.length r.lc, .slice r.pa r.pauses.length r.pc, .int .i64 r.fw, .int .i64 r.fp, .int .i64 r.wh, .int .i64 r.pl] 52)), y.w.cell? ⟨x.w.heap.size, 8, none⟩ = some (.slice r.pa r.pauses.length r.pc) := fun y => Since.cell (by simp [go_sem]) (by first | (simp; done) | (simp; omega)) y
  have hb0_9 : ∀ y : Since (x.w.alloc (.cells #[.int .i64 r.id, .int .i64 r.rd, .int .i64 r.s0, .int .i64 r.s1, .int .i64 r.e0, .int .i64 r.e1, .bool r.op, .slice r.la r.legs.length r.lc, .slice r.pa r.pauses.length r.pc, .int .i64 r.fw, .int .i64 r.fp, .int .i64 r.wh, .int .i64 r.pl] 52)), y.w.cell? ⟨x.w.heap.size, 9, none⟩ = some (.int .i64 r.fw) := fun y => Since.cell (by simp [go_sem]) (by first | (simp; done) | (simp; omega)) y
  have hb0_10 : ∀ y : Since (x.w.alloc (.cells #[.int .i64 r.id, .int .i64 r.rd, .int .i64 r.s0, .int .i64 r.s1, .int .i64 r.e0, .int .i64 r.e1, .bool r.op, .slice r.la r.legs.length r.lc, .slice r.pa r.pauses.length r.pc, .int .i64 r.fw, .int .i64 r.fp, .int .i64 r.wh, .int .i64 r.pl] 52)), y.w.cell? ⟨x.w.heap.size, 10, none⟩ = some (.int .i64 r.fp) := fun y => Since.cell (by simp [go_sem]) (by first | (simp; done) | (simp; omega)) y
  have hb0_11 : ∀ y : Since (x.w.alloc (.cells #[.int .i64 r.id, .int .i64 r.rd, .int .i64 r.s0, .int .i64 r.s1, .int .i64 r.e0, .int .i64 r.e1, .bool r.op, .slice r.la r.legs.length r.lc, .slice r.pa r.pauses.length r.pc, .int .i64 r.fw, .int .i64 r.fp, .int .i64 r.wh, .int .i64 r.pl] 52)), y.w.cell? ⟨x.w.heap.size, 11, none⟩ = some (.int .i64 r.wh) := fun y => Since.cell (by simp [go_sem]) (by first | (simp; done) | (simp; omega)) y
  have hb0_12 : ∀ y : Since (x.w.alloc (.cells #[.int .i64 r.id, .int .i64 r.rd, .int .i64 r.s0, .int .i64 r.s1, .int .i64 r.e0, .int .i64 r.e1, .bool r.op, .slice r.la r.legs.length r.lc, .slice r.pa r.pauses.length r.pc, .int .i64 r.fw, .int .i64 r.fp, .int .i64 r.wh, .int .i64 r.pl] 52)), y.w.cell? ⟨x.w.heap.size, 12, none⟩ = some (.int .i64 r.pl) := fun y => Since.cell (by simp [go_sem]) (by first | (simp; done) | (simp; omega)) y
  have hf0 : ∀ (y : Since (x.w.alloc (.cells #[.int .i64 r.id, .int .i64 r.rd, .int .i64 r.s0, .int .i64 r.s1, .int .i64 r.e0, .int .i64 r.e1, .bool r.op, .slice r.la r.legs.length r.lc, .slice r.pa r.pauses.length r.pc, .int .i64 r.fw, .int .i64 r.fp, .int .i64 r.wh, .int .i64 r.pl] 52))) (o : Nat), y.w.frozen? ⟨x.w.heap.size, o, none⟩ = false := fun y o => Since.free (by simp [go_sem]) (by first | (simp; done) | (simp; omega)) y
  have hWup : ∃ z : Since w, (x.w.alloc (.cells #[.int .i64 r.id, .int .i64 r.rd, .int .i64 r.s0, .int .i64 r.s1, .int .i64 r.e0, .int .i64 r.e1, .bool r.op, .slice r.la r.legs.length r.lc, .slice r.pa r.pauses.length r.pc, .int .i64 r.fw, .int .i64 r.fp, .int .i64 r.wh, .int .i64 r.pl] 52)) = z.w := x.alloc _
  obtain ⟨y0, hy0⟩ := Since.refl (x.w.alloc (.cells #[.int .i64 r.id, .int .i64 r.rd, .int .i64 r.s0, .int .i64 r.s1, .int .i64 r.e0, .int .i64 r.e1, .bool r.op, .slice r.la r.legs.length r.lc, .slice r.pa r.pauses.length r.pc, .int .i64 r.fw, .int .i64 r.fp, .int .i64 r.wh, .int .i64 r.pl] 52))
  have Hbx := Lib.hid (And.intro x.b.size (show x.w.heap.size + 1 = (x.w.alloc (.cells #[.int .i64 r.id, .int .i64 r.rd, .int .i64 r.s0, .int .i64 r.s1, .int .i64 r.e0, .int .i64 r.e1, .bool r.op, .slice r.la r.legs.length r.lc, .slice r.pa r.pauses.length r.pc, .int .i64 r.fw, .int .i64 r.fp, .int .i64 r.wh, .int .i64 r.pl] 52)).heap.size from by simp))
  generalize hW : (x.w.alloc (.cells #[.int .i64 r.id, .int .i64 r.rd, .int .i64 r.s0, .int .i64 r.s1, .int .i64 r.e0, .int .i64 r.e1, .bool r.op, .slice r.la r.legs.length r.lc, .slice r.pa r.pauses.length r.pc, .int .i64 r.fw, .int .i64 r.fp, .int .i64 r.wh, .int .i64 r.pl] 52)) = W at *
  clear hW
  generalize x.w.heap.size = bx at *
  have Hup := Lib.hid (Since.up hWup)
  rw [hy0]
  clear hy0
  replace H := Lib.hid (H.out.to hWup)
  clear hWup
  have Hra := Lib.hid (fun y : Since W => rranged_calls W y r H.out)
  have Hjo := Lib.hid (fun y : Since W => rjoined_calls W y r H.out)
  have Hor := Lib.hid (fun (hj : joinedB r = true) (y : Since W) => rordered_calls W y r H.out (by unfold joinedB at hj; simp only [Bool.and_eq_true, decide_eq_true_eq] at hj; omega))
  have hgd := span_guard
  have heq := span_equal r.e0 r.e1 0 0
  have HE := Lib.hid (show rideE r = if rangedB r = false then 1 else if joinedB r = false then 3 else if orderedB r = false then 9 else if stateB r = true then 12 else 0 from rfl)
  have Hst := Lib.hid (show stateB r = ((r.op && !(decide (r.e0 = 0) && decide (r.e1 = 0))) || (r.op != decide (r.wh = 3))) from rfl)
  generalize stateB r = sb at *
  generalize rangedB r = rb at *
  generalize joinedB r = jb at *
  generalize orderedB r = ob at *
  cases rb with
  | false =>
    go_wp2_with (go_at_call 54; ((with_reducible refine (Hra.out _).mono ?_); rintro _ _ ⟨rfl, y1, rfl⟩))
    go_ret
    exact ⟨ret_int (by rw [HE.out]; rfl), Hup.out _⟩
  | true =>
    cases jb with
    | false =>
      go_wp2_with (first | (go_at_call 54; ((with_reducible refine (Hra.out _).mono ?_); rintro _ _ ⟨rfl, y1, rfl⟩)) | (go_at_call 55; ((with_reducible refine (Hjo.out _).mono ?_); rintro _ _ ⟨rfl, y2, rfl⟩)))
      go_ret
      exact ⟨ret_int (by rw [HE.out]; rfl), Hup.out _⟩
    | true =>
      cases ob with
      | false =>
        go_wp2_with (first | (go_at_call 54; ((with_reducible refine (Hra.out _).mono ?_); rintro _ _ ⟨rfl, y1, rfl⟩)) | (go_at_call 55; ((with_reducible refine (Hjo.out _).mono ?_); rintro _ _ ⟨rfl, y2, rfl⟩)) | (go_at_call 56; ((with_reducible refine (Hor.out (by trivial) _).mono ?_); rintro _ _ ⟨rfl, y3, rfl⟩)))
        go_ret
        exact ⟨ret_int (by rw [HE.out]; rfl), Hup.out _⟩
      | true =>
        go_upto_region 7 with (first | (go_at_call 54; ((with_reducible refine (Hra.out _).mono ?_); rintro _ _ ⟨rfl, y1, rfl⟩)) | (go_at_call 55; ((with_reducible refine (Hjo.out _).mono ?_); rintro _ _ ⟨rfl, y2, rfl⟩)) | (go_at_call 56; ((with_reducible refine (Hor.out (by trivial) _).mono ?_); rintro _ _ ⟨rfl, y3, rfl⟩)))
        clear Hra Hjo Hor
        cases hz : (decide (r.e0 = 0) && decide (r.e1 = 0)) with
        | false =>
          rw [hz] at heq Hst
          clear hz
          by_cases hw : r.wh = 3
          · have hwb : (r.wh == 3) = true := by simpa using hw
            rw [decide_eq_true hw] at Hst
            clear hw
            cases hop : r.op with
            | false =>
              rw [hop] at Hst
              go_wp2_with fail
              go_ret
              exact ⟨ret_int (by rw [HE.out, Hst.out]; rfl), Hup.out _⟩
            | true =>
              rw [hop] at Hst
              go_wp2_with fail
              go_ret
              exact ⟨ret_int (by rw [HE.out, Hst.out]; rfl), Hup.out _⟩
          · have hwb : (r.wh == 3) = false := by simpa using hw
            rw [decide_eq_false hw] at Hst
            clear hw
            cases hop : r.op with
            | false =>
              rw [hop] at Hst
              go_wp2_with fail
              go_ret
              exact ⟨ret_int (by rw [HE.out, Hst.out]; rfl), Hup.out _⟩
            | true =>
              rw [hop] at Hst
              go_wp2_with fail
              go_ret
              exact ⟨ret_int (by rw [HE.out, Hst.out]; rfl), Hup.out _⟩
        | true =>
          rw [hz] at heq Hst
          clear hz
          by_cases hw : r.wh = 3
          · have hwb : (r.wh == 3) = true := by simpa using hw
            rw [decide_eq_true hw] at Hst
            clear hw
            cases hop : r.op with
            | false =>
              rw [hop] at Hst
              go_wp2_with fail
              go_ret
              exact ⟨ret_int (by rw [HE.out, Hst.out]; rfl), Hup.out _⟩
            | true =>
              rw [hop] at Hst
              go_wp2_with fail
              go_ret
              exact ⟨ret_int (by rw [HE.out, Hst.out]; rfl), Hup.out _⟩
          · have hwb : (r.wh == 3) = false := by simpa using hw
            rw [decide_eq_false hw] at Hst
            clear hw
            cases hop : r.op with
            | false =>
              rw [hop] at Hst
              go_wp2_with fail
              go_ret
              exact ⟨ret_int (by rw [HE.out, Hst.out]; rfl), Hup.out _⟩
            | true =>
              rw [hop] at Hst
              go_wp2_with fail
              go_ret
              exact ⟨ret_int (by rw [HE.out, Hst.out]; rfl), Hup.out _⟩
end Go.Proofs.Ytdmmjapccgeffaa
/- The reference of rides: few rides, with few legs and pauses. -/
namespace Go.Proofs.Ytdmmjapccgeffaa
open Go.RowKit

/-- at most so many rides, none of them with more than 40 legs or pauses -/
def fewB (l : List Ride) (n : Int) : Bool := l.all (fun r => decide (r.legs.length ≤ 40) && decide (r.pauses.length ≤ 40)) && decide ((l.length : Int) ≤ n)
set_option maxHeartbeats 4000000 in
theorem few_calls (w : World) (x : Since w) (a : Option Addr) (l : List Ride) (c : Nat) (n : Int) (h : RideRow w a l) (hl : l.length ≤ 9223372036854775807) :
    Calls Try.prog 11 #[.slice a l.length c, .int .i64 n] x.w fun o w' => o = .returned (.bool (fewB l n)) ∧ ∃ y : Since w, w' = y.w := by
  have HR := Lib.hid h
  have HF := Lib.hid (show fewB l n = (l.all (fun r => decide (r.legs.length ≤ 40) && decide (r.pauses.length ≤ 40)) && decide ((l.length : Int) ≤ n)) from rfl)
  clear h
  go_enter Try.func11, Try.ntmps11
  go_wp2_with fail
  go_loopw [5] (fun i wr => ∃ (k : Nat) (y : Since w), k ≤ l.length ∧ i = .int .i64 k ∧ wr = y.w ∧ ∀ j, j < k → ∀ e : Ride, l[j]? = some e → (decide (e.legs.length ≤ 40) && decide (e.pauses.length ≤ 40)) = true) (fun i _ => l.length - (intOf i).toNat)
  case atStart => exact ⟨0, _, by omega, rfl, rfl, fun j hj => by omega⟩
  case round =>
    obtain ⟨k, y, hk, rfl, rfl, hok⟩ := hrel
    have Hok := Lib.hid hok; clear hok
    by_cases hlt : k < l.length
    · obtain ⟨e, he⟩ : ∃ e, l[k]? = some e := ⟨_, List.getElem?_eq_getElem hlt⟩
      obtain ⟨b1, off1, rfl, h1'⟩ := Els.ride HR.out.c he
      have hlm := (HR.out.r e (List.mem_of_getElem? he)).lm
      have hpm := (HR.out.r e (List.mem_of_getElem? he)).pm
      have pa7 := h1'.c7
      have pa8 := h1'.c8
      have hk0 : (0 : Int) ≤ (k : Int) := by omega
      have hkl : (k : Int) < (l.length : Int) := by omega
      have He := Lib.hid he
      clear h1' he
      rcases (by omega : 40 < e.legs.length ∨ (e.legs.length ≤ 40 ∧ 40 < e.pauses.length) ∨ (e.legs.length ≤ 40 ∧ e.pauses.length ≤ 40)) with h1 | ⟨h1, h2⟩ | ⟨h1, h2⟩
      case inr.inr =>
        have Hv := Lib.hid (show (decide (e.legs.length ≤ 40) && decide (e.pauses.length ≤ 40)) = true by simp [h1, h2])
        go_wp2_with fail
        go_roundw
        case rel => exact ⟨k + 1, y, by omega, by go_num, rfl, upto_next (P := fun e : Ride => (decide (e.legs.length ≤ 40) && decide (e.pauses.length ≤ 40)) = true) Hok.out He.out Hv.out⟩
        case measure => simp [intOf] <;> omega
      all_goals
        have Hr := Lib.hid (show fewB l n = false by rw [HF.out, all_no He.out (by first | (simp; omega) | (simp [h1]; omega))]; rfl)
        go_wp2_with fail
        go_ret
        exact ⟨ret_bool Hr.out.symm, _, rfl⟩
    · obtain rfl : k = l.length := by omega
      have Hr := Lib.hid (show fewB l n = decide ((l.length : Int) ≤ n) by rw [HF.out, all_yes Hok.out]; rfl)
      go_wp2_with fail
      go_ret
      exact ⟨ret_bool Hr.out.symm, _, rfl⟩
end Go.Proofs.Ytdmmjapccgeffaa
/- Worlds with new blocks and draws, no more; comparing numbers: what the library's sort asks of a comparison. -/
namespace Go.Proofs.Ytdmmjapccgeffaa
open Go.RowKit Go.Sort

/-- new blocks and draws, no more -/
def Gr (w w' : World) : Prop := ∃ (q : Nat) (os : Array Obj), w' = grow (w.drewN q) os
theorem Gr.refl (w : World) : Gr w w := ⟨0, #[], by simp [grow, World.drewN]⟩
theorem Gr.trans {a b c : World} (h : Gr a b) (k : Gr b c) : Gr a c := by
  obtain ⟨q, os, rfl⟩ := h
  obtain ⟨q', os', rfl⟩ := k
  exact ⟨q + q', os ++ os', by simp [grow, World.drewN, Nat.add_assoc, Array.append_assoc]⟩
theorem Gr.alloc (w : World) (o : Obj) : Gr w (w.alloc o) := ⟨0, #[o], by rw [alloc_eq_grow]; rfl⟩
theorem Gr.drewN (w : World) (q : Nat) : Gr w (w.drewN q) := ⟨q, #[], by rw [grow_empty]⟩
theorem Gr.since {w w' : World} (h : Gr w w') : ∃ y : Since w, w' = y.w := by
  obtain ⟨q, os, rfl⟩ := h
  exact ⟨⟨grow (w.drewN q) os, ⟨rfl, rfl, rfl, by simp [grow, World.drewN], fun b hb => by simp [grow, World.drewN, Array.getElem?_append, hb]⟩⟩, rfl⟩

structure GrW (w0 : World) where
  w : World
  g : Gr w0 w
instance (w0 : World) : Nonempty (GrW w0) := ⟨⟨w0, Gr.refl _⟩⟩
theorem wp_region_gr {P : Program} {id : Nat} {Q : Exit → Act → World → Prop} {a : Act} {w0 : World} {x : GrW w0} {l : List Oper} (hm : P.follows .mixedOrders = true) (hB : Region.lexB .any l.toArray = true)
    (h : wpQuiet P l.toArray (fun w' => ∃ y : GrW w0, w' = y.w) (fun a' => ∀ w', (∃ y : GrW w0, w' = y.w) → Q .normal a' w') l a) : (Code.region id l.toArray true).wp P Q a x.w :=
  wp_region_quiet (C := fun w' => ∃ y : GrW w0, w' = y.w) hm hB ⟨⟨_, x.g.trans (Gr.drewN x.w 1)⟩, rfl⟩ (by simpa using h)
theorem GrW.refl (w0 : World) : ∃ y : GrW w0, w0 = y.w := ⟨⟨w0, Gr.refl _⟩, rfl⟩
theorem GrW.step {w0 : World} (x : GrW w0) {w : World} (h : Gr x.w w) : ∃ y : GrW w0, w = y.w := ⟨⟨w, x.g.trans h⟩, rfl⟩
theorem GrW.cell {w0 : World} {a : Addr} {v : Value} (h : w0.cell? a = some v) (y : GrW w0) : y.w.cell? a = some v := by
  obtain ⟨z, e⟩ := y.g.since
  rw [e]
  have hb := World.block_lt_of_cell? w0 _ h
  rw [z.b.cell (p := a) hb]; exact h
theorem Gr.drew' {a b : World} (h : Gr a b) : Gr a b.drew := h.trans (Gr.drewN b 1)
theorem Gr.alloc' {a b : World} (h : Gr a b) (o : Obj) : Gr a (b.alloc o) := h.trans (Gr.alloc b o)
theorem Gr.cell {W w : World} {a : Addr} {v : Value} (h : W.cell? a = some v) (hw : Gr W w) : w.cell? a = some v := GrW.cell h ⟨w, hw⟩
/-- a number before another one -/
def ccmp (x y : Int) : Int := if x < y then -1 else if y < x then 1 else 0
theorem nan_calls (x : Int) (w : World) : Calls Try.prog 53 #[.int .i64 x] w fun e w' => e = .returned (.bool false) ∧ w = w' := by
  have h : (x != x) = false := by simp
  go_enter Try.func53, Try.ntmps53
  go_wp2_with fail
  go_ret
  exact ⟨rfl, rfl⟩
theorem ccmp_calls (x y : Int) (w : World) : Calls Try.prog 44 #[.int .i64 x, .int .i64 y] w fun e w' => e = .returned (.int .i64 (ccmp x y)) ∧ w = w' := by
  rcases (by omega : x < y ∨ (¬ x < y ∧ y < x) ∨ (¬ x < y ∧ ¬ y < x)) with h | ⟨h, h'⟩ | ⟨h, h'⟩
  · have hc := Lib.hid (show ccmp x y = -1 from by unfold ccmp; rw [if_pos h])
    go_enter Try.func44, Try.ntmps44
    go_wp2_with (go_at_call 53; refine (nan_calls _ _).mono ?_; rintro _ _ ⟨rfl, rfl⟩)
    go_ret
    exact ⟨ret_int hc.out.symm, rfl⟩
  · have hc := Lib.hid (show ccmp x y = 1 from by unfold ccmp; rw [if_neg h, if_pos h'])
    have h2 : y ≤ x := by omega
    go_enter Try.func44, Try.ntmps44
    go_wp2_with (go_at_call 53; refine (nan_calls _ _).mono ?_; rintro _ _ ⟨rfl, rfl⟩)
    go_ret
    exact ⟨ret_int hc.out.symm, rfl⟩
  · have hc := Lib.hid (show ccmp x y = 0 from by unfold ccmp; rw [if_neg h, if_neg h'])
    have h2 : y ≤ x := by omega
    have h3 : x ≤ y := by omega
    go_enter Try.func44, Try.ntmps44
    go_wp2_with (go_at_call 53; refine (nan_calls _ _).mono ?_; rintro _ _ ⟨rfl, rfl⟩)
    go_ret
    exact ⟨ret_int hc.out.symm, rfl⟩

end Go.Proofs.Ytdmmjapccgeffaa
/- Passes and the rides that they pay: the plain mathematics: no program in sight. -/
namespace Go.Proofs.Ytdmmjapccgeffaa
open Go.RowKit

/-- a pass: number, rider, first day, day behind the last one, rides of a day, seconds -/
structure Pass where
  id : Int
  rd : Int
  f : Int
  t : Int
  n : Int
  s : Int
def Pass.cs (x : Pass) : List Value := [.int .i64 x.id, .int .i64 x.rd, .int .i64 x.f, .int .i64 x.t, .int .i64 x.n, .int .i64 x.s]
theorem Pass.len (x : Pass) : x.cs.length = 6 := rfl
instance : Inhabited Pass := ⟨⟨0, 0, 0, 0, 0, 0⟩⟩
structure PassCells (w : World) (b o : Nat) (e : Pass) : Prop where
  c0 : ∀ y : Since w, y.w.cell? ⟨b, o, none⟩ = some (.int .i64 e.id)
  c1 : ∀ y : Since w, y.w.cell? ⟨b, o + 1, none⟩ = some (.int .i64 e.rd)
  c2 : ∀ y : Since w, y.w.cell? ⟨b, o + 2, none⟩ = some (.int .i64 e.f)
  c3 : ∀ y : Since w, y.w.cell? ⟨b, o + 3, none⟩ = some (.int .i64 e.t)
  c4 : ∀ y : Since w, y.w.cell? ⟨b, o + 4, none⟩ = some (.int .i64 e.n)
  c5 : ∀ y : Since w, y.w.cell? ⟨b, o + 5, none⟩ = some (.int .i64 e.s)
theorem Els.pass {w : World} {a : Option Addr} {l : List Pass} (h : Els Pass.cs 6 w a l) {k : Nat} {x : Pass} (hk : l[k]? = some x) : ∃ b off, a = some ⟨b, off, none⟩ ∧ PassCells w b (off + k * 6) x := by
  obtain ⟨b, off, ha, hb, hc⟩ := h k x hk
  refine ⟨b, off, ha, ?_⟩
  have hh : ∀ j v, x.cs[j]? = some v → ∀ y : Since w, y.w.cell? ⟨b, off + k * 6 + j, none⟩ = some v := fun j v hv => Since.cell (hc j v hv) hb
  exact ⟨hh 0 _ rfl, hh 1 _ rfl, hh 2 _ rfl, hh 3 _ rfl, hh 4 _ rfl, hh 5 _ rfl⟩
abbrev PassRow (w : World) (a : Option Addr) (l : List Pass) : Prop := Els Pass.cs 6 w a l

def goodP (p : Pass) : Bool := decide (1 ≤ p.id) && decide (p.id ≤ 1000000) && decide (0 ≤ p.rd) && decide (p.rd ≤ 127) && decide (1 ≤ p.n) && decide (p.n ≤ 256) && decide (0 ≤ p.s) && decide (p.s ≤ 86400) && decide (0 ≤ p.f) && decide (p.f < p.t) && decide (p.t ≤ 49710)
theorem goodP_iff (p : Pass) : goodP p = true ↔ 1 ≤ p.id ∧ p.id ≤ 1000000 ∧ 0 ≤ p.rd ∧ p.rd ≤ 127 ∧ 1 ≤ p.n ∧ p.n ≤ 256 ∧ 0 ≤ p.s ∧ p.s ≤ 86400 ∧ 0 ≤ p.f ∧ p.f < p.t ∧ p.t ≤ 49710 := by simp [goodP, and_assoc]
/-- some number is there twice -/
def dupB (l : List Int) : Bool := !decide l.Nodup
theorem dupB_true {l : List Int} (h : ¬ l.Nodup) : dupB l = true := by unfold dupB; rw [decide_eq_false h]; rfl
theorem dupB_false {l : List Int} (h : l.Nodup) : dupB l = false := by unfold dupB; rw [decide_eq_true h]; rfl
theorem dupB_cases (l : List Int) : (dupB l = true ∧ ¬ l.Nodup) ∨ (dupB l = false ∧ l.Nodup) := by
  by_cases h : l.Nodup
  · exact .inr ⟨dupB_false h, h⟩
  · exact .inl ⟨dupB_true h, h⟩
theorem nodup_take_next {l : List Int} {k : Nat} {x : Int} (hx : l[k]? = some x) : (l.take (k + 1)).Nodup ↔ (l.take k).Nodup ∧ x ∉ l.take k := by
  rw [List.take_succ_eq_append_getElem (List.getElem?_eq_some_iff.1 hx).1, (List.getElem?_eq_some_iff.1 hx).2, List.nodup_append]
  constructor
  · rintro ⟨h1, _, h3⟩; exact ⟨h1, fun h => h3 x h x (by simp) rfl⟩
  · rintro ⟨h1, h2⟩; exact ⟨h1, by simp, fun a ha b hb hab => h2 (by simp at hb; subst hb; subst hab; exact ha)⟩
theorem nodup_of_take {l : List Int} {k : Nat} (h : l.Nodup) : (l.take k).Nodup := h.sublist (List.take_sublist _ _)
/-- the error of passes -/
def passE (l : List Pass) : Int := if 64 < l.length then 8 else if l.all goodP = false then 1 else if dupB (l.map (·.id)) = true then 6 else 0
/-- the first error of rides -/
def firstErr (l : List Ride) : Int := match l.find? (fun r => rideE r != 0) with | some r => rideE r | none => 0
theorem firstErr_at {l : List Ride} {k : Nat} {r : Ride} (hr : l[k]? = some r) (he : rideE r ≠ 0) (hn : ∀ j, j < k → ∀ x, l[j]? = some x → rideE x = 0) : firstErr l = rideE r := by
  unfold firstErr
  have : l.find? (fun r => rideE r != 0) = some r := by
    rw [List.find?_eq_some_iff_getElem]
    refine ⟨by simpa using he, k, (List.getElem?_eq_some_iff.1 hr).1, (List.getElem?_eq_some_iff.1 hr).2, fun j hj => ?_⟩
    have := hn j hj _ (List.getElem?_eq_getElem (by have := (List.getElem?_eq_some_iff.1 hr).1; omega))
    simp [this]
  rw [this]
theorem firstErr_none {l : List Ride} (hn : ∀ j, j < l.length → ∀ x, l[j]? = some x → rideE x = 0) : firstErr l = 0 := by
  unfold firstErr
  have : l.find? (fun r => rideE r != 0) = none := by
    rw [List.find?_eq_none]
    intro x hx
    obtain ⟨j, hj⟩ := List.mem_iff_getElem?.1 hx
    simp [hn j (List.getElem?_eq_some_iff.1 hj).1 x hj]
  rw [this]
/-- the error of a list of rides -/
def ridesE (l : List Ride) : Int := if 256 < l.length then 8 else if firstErr l ≠ 0 then firstErr l else if dupB (l.map (·.id)) = true then 6 else 0
def usesE (lp : List Pass) (lr : List Ride) : Int := if passE lp ≠ 0 then passE lp else ridesE lr

def day (r : Ride) : Int := r.s0 / 86400
/-- a comes before b -/
def bef (a b : Ride) : Bool := decide (a.s0 < b.s0) || (decide (a.s0 = b.s0) && (decide (a.e0 < b.e0) || (decide (a.e0 = b.e0) && decide (a.id < b.id))))
theorem bef_iff (a b : Ride) : bef a b = true ↔ a.s0 < b.s0 ∨ (a.s0 = b.s0 ∧ (a.e0 < b.e0 ∨ (a.e0 = b.e0 ∧ a.id < b.id))) := by simp [bef]
theorem bef_irrefl (a : Ride) : bef a a = false := by
  cases h : bef a a
  · rfl
  · rw [bef_iff] at h; omega
theorem bef_trans {a b c : Ride} (h1 : bef a b = true) (h2 : bef b c = true) : bef a c = true := by rw [bef_iff] at *; omega
theorem bef_asymm {a b : Ride} (h : bef a b = true) : bef b a = false := by
  cases h2 : bef b a
  · rfl
  · have := bef_trans h h2; rw [bef_irrefl] at this; cases this
theorem bef_total {a b : Ride} (h1 : bef a b = false) (h2 : bef b a = false) : a.id = b.id := by
  have n1 : ¬ bef a b = true := by rw [h1]; simp
  have n2 : ¬ bef b a = true := by rw [h2]; simp
  rw [bef_iff] at n1 n2; omega
theorem bef_ntrans {a b c : Ride} (h1 : bef a b = false) (h2 : bef b c = false) : bef a c = false := by
  have n1 : ¬ bef a b = true := by rw [h1]; simp
  have n2 : ¬ bef b c = true := by rw [h2]; simp
  cases h : bef a c
  · rfl
  · rw [bef_iff] at n1 n2 h; omega
/-- pass p belongs to the rider of r and is valid on its day -/
def vP (p : Pass) (r : Ride) : Bool := decide (p.rd = r.rd) && (decide (p.f ≤ day r) && decide (day r < p.t))
def rAt (R : List Ride) (i : Nat) : Ride := R.getD i default
def pAt (l : List Pass) (i : Nat) : Pass := l.getD i default
theorem rAt_eq {R : List Ride} {i : Nat} {x : Ride} (h : R[i]? = some x) : rAt R i = x := by unfold rAt; rw [List.getD_eq_getElem?_getD, h]; rfl
theorem pAt_eq {R : List Pass} {i : Nat} {x : Pass} (h : R[i]? = some x) : pAt R i = x := by unfold pAt; rw [List.getD_eq_getElem?_getD, h]; rfl
/-- how many rides of the day of x that come before it are paid by pass k -/
def cnt (R : List Ride) (u : Nat → Int) (x : Ride) (k : Int) : Nat := ((List.range R.length).filter fun j => bef (rAt R j) x && decide (u j = k) && decide (day (rAt R j) = day x)).length
/-- the first pass that pays r, if pass k has paid c k rides -/
def firstP (lp : List Pass) (r : Ride) (c : Int → Nat) : Int := match (List.range lp.length).find? (fun k => vP (pAt lp k) r && decide ((c (k : Int) : Int) < (pAt lp k).n)) with | some k => (k : Int) | none => -1
/-- u says for each ride which pass pays it -/
def IsUse (lp : List Pass) (R : List Ride) (u : Nat → Int) : Prop := ∀ i, i < R.length → u i = firstP lp (rAt R i) (cnt R u (rAt R i))
theorem firstP_congr {lp : List Pass} {r : Ride} {c d : Int → Nat} (h : ∀ k, k < lp.length → c (k : Int) = d (k : Int)) : firstP lp r c = firstP lp r d := by
  unfold firstP
  have : (List.range lp.length).find? (fun k => vP (pAt lp k) r && decide ((c (k : Int) : Int) < (pAt lp k).n)) = (List.range lp.length).find? (fun k => vP (pAt lp k) r && decide ((d (k : Int) : Int) < (pAt lp k).n)) := by
    have hg : ∀ l : List Nat, (∀ k ∈ l, k < lp.length) → l.find? (fun k => vP (pAt lp k) r && decide ((c (k : Int) : Int) < (pAt lp k).n)) = l.find? (fun k => vP (pAt lp k) r && decide ((d (k : Int) : Int) < (pAt lp k).n)) := by
      intro l
      induction l with
      | nil => intro _; rfl
      | cons a l ih =>
        intro hl
        simp only [List.find?_cons]
        rw [h a (hl a (by simp)), ih (fun k hk => hl k (by simp [hk]))]
    exact hg _ (fun k hk => List.mem_range.1 hk)
  rw [this]
theorem firstP_yes {lp : List Pass} {r : Ride} {c : Int → Nat} {k : Nat} (hk : k < lp.length) (h : (vP (pAt lp k) r && decide ((c (k : Int) : Int) < (pAt lp k).n)) = true) (hn : ∀ j, j < k → (vP (pAt lp j) r && decide ((c (j : Int) : Int) < (pAt lp j).n)) = false) : firstP lp r c = k := by
  unfold firstP
  have : (List.range lp.length).find? (fun k => vP (pAt lp k) r && decide ((c (k : Int) : Int) < (pAt lp k).n)) = some k := by
    rw [List.find?_eq_some_iff_getElem]
    refine ⟨h, k, by simpa using hk, by simp, fun j hj => ?_⟩
    simp only [List.getElem_range]
    rw [hn j hj]; rfl
  rw [this]
theorem firstP_no {lp : List Pass} {r : Ride} {c : Int → Nat} (hn : ∀ j, j < lp.length → (vP (pAt lp j) r && decide ((c (j : Int) : Int) < (pAt lp j).n)) = false) : firstP lp r c = -1 := by
  unfold firstP
  have : (List.range lp.length).find? (fun k => vP (pAt lp k) r && decide ((c (k : Int) : Int) < (pAt lp k).n)) = none := by
    rw [List.find?_eq_none]
    intro j hj
    rw [hn j (List.mem_range.1 hj)]; simp
  rw [this]
/-- what it means -/
theorem firstP_cases (lp : List Pass) (r : Ride) (c : Int → Nat) : (∃ k : Nat, k < lp.length ∧ firstP lp r c = k ∧ (vP (pAt lp k) r && decide ((c (k : Int) : Int) < (pAt lp k).n)) = true ∧ ∀ j, j < k → (vP (pAt lp j) r && decide ((c (j : Int) : Int) < (pAt lp j).n)) = false) ∨
    (firstP lp r c = -1 ∧ ∀ j, j < lp.length → (vP (pAt lp j) r && decide ((c (j : Int) : Int) < (pAt lp j).n)) = false) := by
  cases h : (List.range lp.length).find? (fun k => vP (pAt lp k) r && decide ((c (k : Int) : Int) < (pAt lp k).n)) with
  | none =>
    refine .inr ⟨by unfold firstP; rw [h], fun j hj => ?_⟩
    rw [List.find?_eq_none] at h
    simpa using h j (List.mem_range.2 hj)
  | some k =>
    refine .inl ⟨k, ?_⟩
    have h' := h
    rw [List.find?_eq_some_iff_getElem] at h'
    obtain ⟨hp, i, hi, hik, hn⟩ := h'
    simp at hik; subst hik
    refine ⟨by simpa using hi, by unfold firstP; rw [h], hp, fun j hj => ?_⟩
    have := hn j hj
    simpa only [List.getElem_range, Bool.not_eq_true'] using this
theorem filter_lt {α : Type} {p q : α → Bool} : ∀ {l : List α} {a : α}, a ∈ l → (∀ x, p x = true → q x = true) → q a = true → p a = false → (l.filter p).length < (l.filter q).length
  | [], _, h, _, _, _ => by cases h
  | x :: l, a, h, hpq, hq, hp => by
    have hle : (l.filter p).length ≤ (l.filter q).length := by
      clear h
      induction l with
      | nil => simp
      | cons y l ih =>
        simp only [List.filter_cons]
        cases hy : p y
        · cases hy2 : q y <;> simp <;> omega
        · rw [hpq y hy]; simp; exact ih
    rcases List.mem_cons.1 h with rfl | h
    · simp only [List.filter_cons, hp, hq]; simp; omega
    · have ih := filter_lt h hpq hq hp
      simp only [List.filter_cons]
      cases hx : p x
      · cases hx2 : q x <;> simp <;> omega
      · rw [hpq x hx]; simp; exact ih
/-- how many rides come before x -/
def rank (R : List Ride) (x : Ride) : Nat := ((List.range R.length).filter fun j => bef (rAt R j) x).length
theorem rank_lt {R : List Ride} {j : Nat} {x : Ride} (hj : j < R.length) (h : bef (rAt R j) x = true) : rank R (rAt R j) < rank R x :=
  filter_lt (List.mem_range.2 hj) (fun _ hi => bef_trans hi h) h (bef_irrefl _)
theorem cnt_congr {R : List Ride} {u v : Nat → Int} {x : Ride} (h : ∀ j, j < R.length → bef (rAt R j) x = true → u j = v j) (k : Int) : cnt R u x k = cnt R v x k := by
  unfold cnt
  congr 1
  refine List.filter_congr fun j hj => ?_
  cases hb : bef (rAt R j) x
  · rfl
  · rw [h j (List.mem_range.1 hj) hb]
theorem use_unique {lp : List Pass} {R : List Ride} {u v : Nat → Int} (hu : IsUse lp R u) (hv : IsUse lp R v) : ∀ i, i < R.length → u i = v i := by
  have : ∀ n i, i < R.length → rank R (rAt R i) = n → u i = v i := by
    intro n
    induction n using Nat.strongRecOn with
    | _ n ih =>
      intro i hi hn
      rw [hu i hi, hv i hi]
      refine firstP_congr fun k _ => cnt_congr (fun j hj hb => ?_) _
      exact ih _ (by rw [← hn]; exact rank_lt hj hb) j hj rfl
  exact fun i hi => this _ i hi rfl
end Go.Proofs.Ytdmmjapccgeffaa
/- Trips between zones: which rides are counted, zones, tables: plain mathematics, no program in sight. -/
namespace Go.Proofs.Ytdmmjapccgeffaa
open Go.RowKit

/-- a comes before b -/
def bf (a b : Ride) : Bool := decide (a.s0 < b.s0) || (decide (a.s0 = b.s0) && decide (a.id < b.id))
theorem bf_iff (a b : Ride) : bf a b = true ↔ a.s0 < b.s0 ∨ (a.s0 = b.s0 ∧ a.id < b.id) := by simp [bf]
theorem bf_irrefl (a : Ride) : bf a a = false := by
  cases h : bf a a
  · rfl
  · rw [bf_iff] at h; omega
theorem bf_trans {a b c : Ride} (h1 : bf a b = true) (h2 : bf b c = true) : bf a c = true := by rw [bf_iff] at *; omega
theorem bf_asymm {a b : Ride} (h : bf a b = true) : bf b a = false := by
  cases h2 : bf b a
  · rfl
  · have := bf_trans h h2; rw [bf_irrefl] at this; cases this
theorem bf_total {a b : Ride} (h1 : bf a b = false) (h2 : bf b a = false) : a.id = b.id := by
  have n1 : ¬ bf a b = true := by rw [h1]; simp
  have n2 : ¬ bf b a = true := by rw [h2]; simp
  rw [bf_iff] at n1 n2; omega
theorem bf_ntrans {a b c : Ride} (h1 : bf a b = false) (h2 : bf b c = false) : bf a c = false := by
  have n1 : ¬ bf a b = true := by rw [h1]; simp
  have n2 : ¬ bf b c = true := by rw [h2]; simp
  cases h : bf a c
  · rfl
  · rw [bf_iff] at n1 n2 h; omega
/-- of one rider and day -/
def key (r : Ride) : Int × Int := (r.rd, day r)
/-- r has ended, is of the rider and day k -/
def ofK (k : Int × Int) (r : Ride) : Bool := !r.op && decide (key r = k)
/-- how many rides of the rider and day of x, which have ended, come before x -/
def ahd (R : List Ride) (x : Ride) : Nat := (R.filter fun r => ofK (key x) r && bf r x).length
/-- x is counted -/
def ctd (R : List Ride) (each : Int) (x : Ride) : Bool := !x.op && decide ((ahd R x : Int) < each)
def eachL (R : List Ride) (each : Int) : List Ride := R.filter (ctd R each)
def eachE (R : List Ride) (each : Int) : Int := if each < 0 ∨ 256 < each then 1 else ridesE R
/-- zones -/
def badZ (zs : List Int) : Bool := zs.any fun z => decide (z < 0) || decide (8 ≤ z)
def zlenB (zs : List Int) : Bool := decide (64 ≤ zs.length) && decide (zs.length ≤ 96)
def zoneE (zs : List Int) (wh pl : Int) : Int :=
  if zlenB zs = false ∨ badZ zs = true then 3
  else if wh = 2 then (if 0 ≤ pl ∧ pl < 64 then 0 else 7)
  else if wh = 1 then (if 0 ≤ pl ∧ pl / 32 < (zs.length : Int) - 64 then 0 else 7)
  else 14
def zoneV (zs : List Int) (wh pl : Int) : Int :=
  if zoneE zs wh pl = 0 then (if wh = 2 then at0 zs pl.toNat else at0 zs (64 + pl / 32).toNat) else 0
/-- the error of a ride's ends -/
def endE (zs : List Int) (r : Ride) : Int := if zoneE zs r.fw r.fp ≠ 0 then zoneE zs r.fw r.fp else zoneE zs r.wh r.pl
def fromZ (zs : List Int) (r : Ride) : Int := zoneV zs r.fw r.fp
def toZ (zs : List Int) (r : Ride) : Int := zoneV zs r.wh r.pl
/-- a ride that begins in the window and ends at a dock or in the street -/
def inT (f t : Int) (r : Ride) : Bool := decide (f ≤ r.s0) && decide (r.s0 < t) && (decide (r.wh = 1) || decide (r.wh = 2))
def cntL (R : List Ride) (each f t : Int) : List Ride := (eachL R each).filter (inT f t)
/-- the first error of the ends of rides -/
def endsE (zs : List Int) (L : List Ride) : Int := match L.find? (fun r => endE zs r != 0) with | some r => endE zs r | none => 0
def bigR (zs : List Int) (size : Int) (r : Ride) : Bool := decide (size ≤ fromZ zs r) || decide (size ≤ toZ zs r)
/-- the cell of a ride -/
def celR (zs : List Int) (size : Int) (r : Ride) : Int := fromZ zs r * size + toZ zs r
/-- how many rides are counted in a cell -/
def celN (zs : List Int) (size : Int) (L : List Ride) (i : Nat) : Int := ((L.filter fun r => !bigR zs size r && decide (celR zs size r = (i : Int))).length : Nat)
def tabE (zs : List Int) (size : Int) (R : List Ride) (f t each : Int) : Int :=
  if size < 1 ∨ 8 < size ∨ f < 0 ∨ t < f ∨ 4294944000 < t then 1
  else if eachE R each ≠ 0 then eachE R each
  else if endsE zs (cntL R each f t) ≠ 0 then endsE zs (cntL R each f t)
  else if (cntL R each f t).any (bigR zs size) = true then 7 else 0
/-- a table -/
structure Tab where
  r : Int
  c : Int
  l : List Int
def tab0 : Tab := ⟨0, 0, []⟩
def cells (zs : List Int) (size : Int) (L : List Ride) : List Int := (List.range (size * size).toNat).map fun i => celN zs size L i
def tabV (zs : List Int) (size : Int) (R : List Ride) (f t each : Int) : Tab := if tabE zs size R f t each = 0 then ⟨size, size, cells zs size (cntL R each f t)⟩ else tab0
/-- the error of a table -/
def chkE (t : Tab) : Int := if t.r < 1 ∨ 8 < t.r ∨ t.c < 1 ∨ 8 < t.c then 1 else if (t.l.length : Int) ≠ t.r * t.c then 3 else if t.l.any (fun n => decide (n < -1000000) || decide (1000000 < n)) = true then 1 else 0
def apE (a b : Tab) : Int := if chkE a ≠ 0 then chkE a else if chkE b ≠ 0 then chkE b else if a.r ≠ b.r ∨ a.c ≠ b.c then 3 else 0
/-- the sum of the differences of the first k cells -/
def apS (a b : List Int) : Nat → Int
  | 0 => 0
  | k + 1 => apS a b k + max (at0 a k - at0 b k) (at0 b k - at0 a k)
def apV (a b : Tab) : Int := if apE a b = 0 then apS a.l b.l a.l.length else 0
end Go.Proofs.Ytdmmjapccgeffaa
/- Trips between zones: maps of numbers, comparisons, rows of numbers, boxes of rides. -/
namespace Go.Proofs.Ytdmmjapccgeffaa
open Go.RowKit Go.ChangeMaps Go.Sort

def eint (x : Int) : Value := .int .i64 x
theorem keyInt : KeyOps Try.prog 3 eint true where
  chk em w x := by unfold eint; kernel_rfl
  eq w x y := by
    unfold eint
    show (Op.equalIn (9999 + 1) _ _ _).run _ _ = _
    rw [run_equalIn_int w 9999 _ .i64 .i64 x y Try.underlying3]
    congr 1
  und := ⟨_, Try.underlying3, fun x y => by
    unfold eint
    simp only [Instr.sameNow, if_true]
    congr 1⟩
  bits x := by
    unfold eint
    rw [show (10000 : Nat) = 9999 + 1 from rfl]
    simp [Instr.sameBits]
theorem zeroBool (w : World) : (zeroValue 4).run Try.prog w = .ok (.bool false) w := by kernel_rfl
/-- numbers that came, in a map to true -/
def idE (l : List Int) : List (Int × Value) := l.map fun i => (i, .bool true)
theorem idE_lk : ∀ (x : Int) (l : List Int) (i : Nat), (x ∈ l → ∃ j, lkF x (idE l) i = some (j, .bool true)) ∧ (x ∉ l → lkF x (idE l) i = none)
  | x, [], i => ⟨fun h => (by cases h), fun _ => rfl⟩
  | x, y :: l, i => by
    obtain ⟨h1, h2⟩ := idE_lk x l (i + 1)
    by_cases h : x = y
    · subst h
      exact ⟨fun _ => ⟨i, by show lkF x ((x, Value.bool true) :: idE l) i = _; unfold lkF; rw [if_pos rfl]⟩, fun hn => (hn (by simp)).elim⟩
    · have e : lkF x (idE (y :: l)) i = lkF x (idE l) (i + 1) := by show lkF x ((y, Value.bool true) :: idE l) i = _; rw [lkF, if_neg h]
      rw [e]
      exact ⟨fun hm => h1 (by simpa [h] using hm), fun hn => h2 (fun hm => hn (by simp [hm]))⟩
theorem idE_in {x : Int} {l : List Int} (h : x ∈ l) : lkV x (idE l) (.bool false) = .bool true := by
  obtain ⟨j, hj⟩ := (idE_lk x l 0).1 h
  unfold lkV; rw [hj]
theorem idE_out {x : Int} {l : List Int} (h : x ∉ l) : lkV x (idE l) (.bool false) = .bool false := by
  unfold lkV; rw [(idE_lk x l 0).2 h]
theorem idE_next {l : List Int} {k : Nat} {x : Int} (h : l[k]? = some x) : idE (l.take (k + 1)) = idE (l.take k) ++ [(x, .bool true)] := by
  unfold idE
  rw [List.take_succ_eq_append_getElem (List.getElem?_eq_some_iff.1 h).1, (List.getElem?_eq_some_iff.1 h).2, List.map_append]; rfl
theorem MapAt.to' {κ : Type} {ek : κ → Value} {w W : World} {b : Nat} {l : List (κ × Value)} (h : MapAt ek w b l) (hW : ∃ z : Since w, W = z.w) : MapAt ek W b l := by
  obtain ⟨z, rfl⟩ := hW; exact Since.heap h z
theorem MapAt.lt' {κ : Type} {ek : κ → Value} {w : World} {b : Nat} {l : List (κ × Value)} (h : MapAt ek w b l) : b < w.heap.size := (Array.getElem?_eq_some_iff.1 h).1
theorem map_at {α β : Type} {f : α → β} {l : List α} {k : Nat} {e : α} (h : l[k]? = some e) : (l.map f)[k]? = some (f e) := by rw [List.getElem?_map, h]; rfl
theorem ridesE_err {l : List Ride} {k : Nat} {r : Ride} (hb : l.length ≤ 256) (hr : l[k]? = some r) (he : rideE r ≠ 0) (hn : ∀ j, j < k → ∀ x, l[j]? = some x → rideE x = 0) : ridesE l = rideE r := by
  unfold ridesE; rw [if_neg (by omega), firstErr_at hr he hn, if_pos he]
theorem ridesE_ok {l : List Ride} (hb : l.length ≤ 256) (hn : ∀ j, j < l.length → ∀ x, l[j]? = some x → rideE x = 0) : ridesE l = if dupB (l.map fun r : Ride => r.id) = true then 6 else 0 := by
  unfold ridesE; rw [if_neg (by omega), firstErr_none hn, if_neg (by simp)]
/-- the first number that is not 0 -/
def orI (l : List Int) : Int := (l.find? fun x => x != 0).getD 0
theorem orI_at {l : List Int} {k : Nat} {x : Int} (hx : l[k]? = some x) (h0 : x ≠ 0) (hn : ∀ j, j < k → at0 l j = 0) : orI l = x := by
  unfold orI
  have : l.find? (fun x => x != 0) = some x := by
    rw [List.find?_eq_some_iff_getElem]
    refine ⟨by simpa using h0, k, (List.getElem?_eq_some_iff.1 hx).1, (List.getElem?_eq_some_iff.1 hx).2, fun j hj => ?_⟩
    have hlt : j < l.length := by have := (List.getElem?_eq_some_iff.1 hx).1; omega
    have := hn j hj
    unfold at0 at this
    rw [List.getD_eq_getElem?_getD, List.getElem?_eq_getElem hlt] at this
    have h2 : l[j] = 0 := this
    simp [h2]
  rw [this]; rfl
theorem orI_none {l : List Int} (hn : ∀ j, j < l.length → at0 l j = 0) : orI l = 0 := by
  unfold orI
  have : l.find? (fun x => x != 0) = none := by
    rw [List.find?_eq_none]
    intro x hx
    obtain ⟨j, hj⟩ := List.mem_iff_getElem?.1 hx
    have := hn j (List.getElem?_eq_some_iff.1 hj).1
    unfold at0 at this
    rw [List.getD_eq_getElem?_getD, hj] at this
    have h2 : x = 0 := this
    simp [h2]
  rw [this]; rfl
set_option maxHeartbeats 4000000 in
theorem or_calls (w : World) (a : Option Addr) (l : List Int) (c : Nat) (h : IntRow w a l) (hl : l.length ≤ 9223372036854775807) :
    Calls Try.prog 43 #[.slice a l.length c] w fun e w' => e = .returned (.int .i64 (orI l)) ∧ w = w' := by
  have H := Lib.hid h
  clear h
  go_enter Try.func43, Try.ntmps43
  go_wp2_with fail
  go_loop [8] (fun i => ∃ k : Nat, k ≤ l.length ∧ i = .int .i64 k ∧ ∀ j, j < k → at0 l j = 0) (fun i => l.length - (intOf i).toNat)
  case atStart => exact ⟨0, by omega, rfl, fun j hj => by omega⟩
  case round =>
    obtain ⟨k, hk, rfl, hok⟩ := hrel
    have Hok := Lib.hid hok; clear hok
    by_cases hlt : k < l.length
    · obtain ⟨b, off, rfl, hb, hc⟩ := H.out k hlt
      change w.cell? ⟨b, off + k, none⟩ = some (.int .i64 (at0 l k)) at hc
      have hk0 : (0 : Int) ≤ (k : Int) := by omega
      have hkl : (k : Int) < (l.length : Int) := by omega
      have hx : l[k]? = some (at0 l k) := by unfold at0; rw [List.getD_eq_getElem?_getD, List.getElem?_eq_getElem hlt]; rfl
      have Hx := Lib.hid hx
      clear hb hx
      by_cases h0 : at0 l k = 0
      · have Hn := Lib.hid (show ∀ j, j < k + 1 → at0 l j = 0 from fun j hj => by
          by_cases hjk : j < k
          · exact Hok.out j hjk
          · obtain rfl : j = k := by omega
            exact h0)
        rw [h0] at hc
        clear h0
        go_wp2_with fail
        go_round
        case rel => exact ⟨k + 1, by omega, by go_num, Hn.out⟩
        case measure => simp [intOf] <;> omega
      · have Hr := Lib.hid (orI_at Hx.out h0 Hok.out)
        have hne : (at0 l k != 0) = true := by simpa using h0
        clear h0
        generalize at0 l k = v at *
        go_wp2_with fail
        go_ret
        exact ⟨ret_int Hr.out.symm, rfl⟩
    · obtain rfl : k = l.length := by omega
      have Hr := Lib.hid (orI_none Hok.out)
      go_wp2_with fail
      go_ret
      exact ⟨ret_int Hr.out.symm, rfl⟩
theorem two_boxes (W : World) (U V : List Value) (T : TypeId) : Gr W (((W.alloc (.cells U.toArray T)).alloc (.cells V.toArray T)).drew) ∧
    (∀ j c, U[j]? = some c → (((W.alloc (.cells U.toArray T)).alloc (.cells V.toArray T)).drew).cell? ⟨W.heap.size, j, none⟩ = some c) ∧
    (∀ j c, V[j]? = some c → (((W.alloc (.cells U.toArray T)).alloc (.cells V.toArray T)).drew).cell? ⟨W.heap.size + 1, j, none⟩ = some c) := by
  refine ⟨Gr.drew' (Gr.alloc' (Gr.alloc W _) _), fun j c hc => ?_, fun j c hc => ?_⟩
  · have h := cell_new_at W U T j c hc
    rw [Addr.add_lit, Nat.zero_add] at h
    exact Gr.cell h (Gr.drew' (Gr.alloc _ _))
  · have h := cell_new_at (W.alloc (.cells U.toArray T)) V T j c hc
    rw [Addr.add_lit, Nat.zero_add] at h
    have hs : (W.alloc (.cells U.toArray T)).heap.size = W.heap.size + 1 := by simp
    rw [hs] at h
    exact Gr.cell h (Gr.drew' (Gr.refl _))
/-- numbers of the call's own in block g -/
structure Nums (w : World) (g : Nat) (n : Nat) (f : Nat → Int) : Prop where
  lt : g < w.heap.size
  c : ∀ j, j < n → w.cell? ⟨g, j, none⟩ = some (.int .i64 (f j))
  f : ∀ j, j < n → w.frozen? ⟨g, j, none⟩ = false
/-- a ride lies in block g -/
structure RideBox (w : World) (g : Nat) (r : Ride) : Prop where
  lt : g < w.heap.size
  c : ∀ j v, r.cs[j]? = some v → w.cell? ⟨g, j, none⟩ = some v
theorem RideBox.since {w : World} {g : Nat} {r : Ride} (h : RideBox w g r) (y : Since w) : RideBox y.w g r :=
  ⟨Nat.lt_of_lt_of_le h.lt y.b.size, fun j v hv => Since.cell (h.c j v hv) h.lt y⟩
theorem RideBox.cells {w : World} {g : Nat} {r : Ride} (h : RideBox w g r) : RideCells w g 0 r := by
  have hh : ∀ j v, r.cs[j]? = some v → ∀ y : Since w, y.w.cell? ⟨g, 0 + j, none⟩ = some v := fun j v hv y => by rw [Nat.zero_add]; exact Since.cell (h.c j v hv) h.lt y
  exact ⟨hh 0 _ rfl, hh 1 _ rfl, hh 2 _ rfl, hh 3 _ rfl, hh 4 _ rfl, hh 5 _ rfl, hh 6 _ rfl, hh 7 _ rfl, hh 8 _ rfl, hh 9 _ rfl, hh 10 _ rfl, hh 11 _ rfl, hh 12 _ rfl⟩
theorem Nums.since {w : World} {g n : Nat} {f : Nat → Int} (h : Nums w g n f) (y : Since w) : Nums y.w g n f :=
  ⟨Nat.lt_of_lt_of_le h.lt y.b.size, fun j hj => Since.cell (h.c j hj) h.lt y, fun j hj => Since.free (h.f j hj) h.lt y⟩
theorem Nums.to {w W : World} {g n : Nat} {f : Nat → Int} (h : Nums w g n f) (hW : ∃ z : Since w, W = z.w) : Nums W g n f := by
  obtain ⟨z, rfl⟩ := hW; exact h.since z
theorem Nums.set {w : World} {g n k : Nat} {f f' : Nat → Int} (h : Nums w g n f) (hk : k < n) (v : Int) (hv : f' k = v) (ho : ∀ j, j < n → j ≠ k → f' j = f j) : Nums (w.setCell ⟨g, k, none⟩ (.int .i64 v)) g n f' := by
  refine ⟨by simpa [World.setCell] using h.lt, fun j hj => ?_, fun j hj => ?_⟩
  · by_cases hjk : j = k
    · subst hjk
      rw [World.cell?_setCell_same _ _ _ (h.c j hj), hv]
    · show ((w.setCells g k [.int .i64 v]).cell? _) = _
      rw [World.cell?_setCells_out g [.int .i64 v] k w ⟨g, j, none⟩ (fun _ _ => by simp; omega), h.c j hj, ho j hj hjk]
  · rw [World.frozen?_setCell]; exact h.f j hj
theorem Nums.setOther {w : World} {g n : Nat} {f : Nat → Int} (h : Nums w g n f) (p : Addr) (hp : p.block ≠ g) (v : Value) : Nums (w.setCell p v) g n f := by
  have hh := Below.heap_setCell w p v g (fun e => hp e.symm)
  refine ⟨by simpa [World.setCell] using h.lt, fun j hj => ?_, fun j hj => by rw [World.frozen?_setCell]; exact h.f j hj⟩
  rw [World.cell?_of_block (w := w) (a := ⟨g, j, none⟩) hh]; exact h.c j hj
theorem Nums.keep {w w' : World} {g n : Nat} {f : Nat → Int} (h : Nums w g n f) (hs : w.heap.size ≤ w'.heap.size) (hb : w'.heap[g]? = w.heap[g]?) : Nums w' g n f :=
  ⟨Nat.lt_of_lt_of_le h.lt hs, fun j hj => by rw [World.cell?_of_block (w := w) (a := ⟨g, j, none⟩) hb]; exact h.c j hj, fun j hj => by rw [World.frozen?_of_block (w := w) (a := ⟨g, j, none⟩) hb]; exact h.f j hj⟩
theorem own_nums {w : World} {base : Nat} {e : TypeId} {g n N : Nat} {xs : List Value} (h : w.ownsRow base e 1 (.slice (some ⟨g, 0, none⟩) N n) N xs) (hx : ∀ j, j < N → xs.getD j undef = .int .i64 0) : Nums w g N fun _ => 0 := by
  obtain ⟨hl, ⟨hbad, _⟩ | ⟨g', cap, cur, he, hg, hh, h1, h2, h3, h4⟩⟩ := h
  · cases hbad
  · obtain ⟨rfl, rfl⟩ : g = g' ∧ n = cap := by simpa using he
    refine ⟨(Array.getElem?_eq_some_iff.1 hh).1, fun j hj => ?_, fun j hj => by simp [World.frozen?, hh]⟩
    have := hx j hj
    rw [← h4] at this
    simp only [Nat.mul_one] at *
    have hjc : j < cur.size := by omega
    simp [World.cell?, hh, List.getD_eq_getElem?_getD, hj, hjc] at this ⊢
    exact this
theorem zeroInt (w : World) : (zeroValue 3).run Try.prog w = .ok (.int .i64 0) w := by kernel_rfl
theorem Nums.congr {w : World} {g n : Nat} {f f' : Nat → Int} (h : Nums w g n f) (he : ∀ j, j < n → f j = f' j) : Nums w g n f' :=
  ⟨h.lt, fun j hj => by rw [h.c j hj, he j hj], h.f⟩
theorem BoxIs.ride {w : World} {g : Nat} {r : Ride} (h : BoxIs w g r.cs) : RideBox w g r := ⟨h.lt, h.c⟩
theorem RideBox.to {w W : World} {g : Nat} {r : Ride} (h : RideBox w g r) (hW : ∃ z : Since w, W = z.w) : RideBox W g r := by
  obtain ⟨z, rfl⟩ := hW; exact h.since z
theorem RideBox.setOther {w : World} {g : Nat} {r : Ride} (h : RideBox w g r) (p : Addr) (hp : p.block ≠ g) (v : Value) : RideBox (w.setCell p v) g r := by
  have hh := Below.heap_setCell w p v g (fun e => hp e.symm)
  exact ⟨by simpa [World.setCell] using h.lt, fun j u hu => by rw [World.cell?_of_block (w := w) (a := ⟨g, j, none⟩) hh]; exact h.c j u hu⟩
theorem setBlock_grown {V : World} {b : Nat} {o o' : Obj} (_h : V.heap[b]? = some o) : V.grownBy (setBlock V b o') (some b) :=
  ⟨rfl, rfl, rfl, by rw [setBlock_size]; exact Nat.le_refl _, fun j hj hne => setBlock_ne (fun e => hne (by rw [e]))⟩
theorem els_new {α : Type} {enc : α → List Value} {k : Nat} (hk : ∀ x, (enc x).length = k) (w : World) (l : List α) (T : TypeId) : Els enc k (w.alloc (.cells (flat enc l).toArray T)) (some ⟨w.heap.size, 0, none⟩) l := by
  intro i x hx
  refine ⟨w.heap.size, 0, rfl, by simp, fun j v hv => ?_⟩
  have := cell_new_at w (flat enc l) T (i * k + j) v (flat_at hk l i x j v hx hv)
  rw [Addr.add_lit] at this
  rw [show 0 + i * k + j = 0 + (i * k + j) by omega]
  exact this
/-- a ride without the places of its lists -/
def Ride.bare (r : Ride) : Ride := { r with la := none, lc := 0, pa := none, pc := 0 }
def zeroRide : Value := .agg #[.int .i64 0, .int .i64 0, .int .i64 0, .int .i64 0, .int .i64 0, .int .i64 0, .bool false, .slice none 0 0, .slice none 0 0, .int .i64 0, .int .i64 0, .int .i64 0, .int .i64 0]
theorem sRide : SliceOf Try.prog 22 52 zeroRide 13 136 := SliceOf.mk' Try.underlying22 (by kernel_rfl) rfl (by decide)
theorem ride_one (r : Ride) : ∀ u ∈ r.cs, u.oneCell' = true := by
  intro u hu
  simp [Ride.cs] at hu
  rcases hu with h | h | h | h | h | h | h | h | h | h | h | h | h <;> subst h <;> rfl
end Go.Proofs.Ytdmmjapccgeffaa
