/- The walks of the program's check of a ride, second part: the legs follow one another. -/
import Derived.Test.YtbkfcdheckkjaaaRdW1
import Derived.Test.YtbkfcdheckkjaaaRdEq
import Derived.Test.YtbkfcdheckkjaaaSets
set_option linter.all false
namespace Go.Proofs.Ytbkfcdheckkjaaa
open Go.RowKit

set_option maxRecDepth 100000 in
set_option maxHeartbeats 8000000 in
theorem joined_calls (w : World) (x : Since w) (r : Ride) (h : r.At w) :
    Calls Try.prog 44 #[.agg #[.int .i64 r.id, .int .i64 r.rd, .int .i64 r.s0, .int .i64 r.s1, .int .i64 r.e0, .int .i64 r.e1, .bool r.op, .slice r.la r.legs.length r.lc, .slice r.pa r.pauses.length r.pc, .int .i64 r.fw, .int .i64 r.fp, .int .i64 r.wh, .int .i64 r.pl]] x.w fun o w' => o = .returned (.bool (joinedB r)) ∧ ∃ y : Since w, w' = y.w := by
  have HL := Lib.hid h.l
  have hlm := h.lm
  have hpm := h.pm
  clear h
  generalize r.la = la at HL ⊢
  rcases (by omega : r.legs.length < 1 ∨ (1 ≤ r.legs.length ∧ 512 < r.legs.length) ∨ (1 ≤ r.legs.length ∧ r.legs.length ≤ 512 ∧ 512 < r.pauses.length) ∨ (1 ≤ r.legs.length ∧ r.legs.length ≤ 512 ∧ r.pauses.length ≤ 512)) with h1 | ⟨h1, h2⟩ | ⟨h1, h2, h3⟩ | ⟨h1, h2, h3⟩
  case inr.inr.inr =>
    have hj : joinedB r = chainL r.s0 r.s1 r.legs r.e0 r.e1 := by unfold joinedB; simp [h1, h2, h3]
    have Hj := Lib.hid hj
    clear hj
    go_enter Try.func44, Try.ntmps44
    go_upto_region 1 with fail
    have hb0_0 : ∀ y : Since (x.w.alloc (.cells #[.int .i64 r.id, .int .i64 r.rd, .int .i64 r.s0, .int .i64 r.s1, .int .i64 r.e0, .int .i64 r.e1, .bool r.op, .slice la r.legs.length r.lc, .slice r.pa r.pauses.length r.pc, .int .i64 r.fw, .int .i64 r.fp, .int .i64 r.wh, .int .i64 r.pl] 44)), y.w.cell? ⟨x.w.heap.size, 0, none⟩ = some (.int .i64 r.id) := fun y => Since.cell (by simp [go_sem]) (by first | (simp; done) | (simp; omega)) y
    have hb0_1 : ∀ y : Since (x.w.alloc (.cells #[.int .i64 r.id, .int .i64 r.rd, .int .i64 r.s0, .int .i64 r.s1, .int .i64 r.e0, .int .i64 r.e1, .bool r.op, .slice la r.legs.length r.lc, .slice r.pa r.pauses.length r.pc, .int .i64 r.fw, .int .i64 r.fp, .int .i64 r.wh, .int .i64 r.pl] 44)), y.w.cell? ⟨x.w.heap.size, 1, none⟩ = some (.int .i64 r.rd) := fun y => Since.cell (by simp [go_sem]) (by first | (simp; done) | (simp; omega)) y
    have hb0_2 : ∀ y : Since (x.w.alloc (.cells #[.int .i64 r.id, .int .i64 r.rd, .int .i64 r.s0, .int .i64 r.s1, .int .i64 r.e0, .int .i64 r.e1, .bool r.op, .slice la r.legs.length r.lc, .slice r.pa r.pauses.length r.pc, .int .i64 r.fw, .int .i64 r.fp, .int .i64 r.wh, .int .i64 r.pl] 44)), y.w.cell? ⟨x.w.heap.size, 2, none⟩ = some (.int .i64 r.s0) := fun y => Since.cell (by simp [go_sem]) (by first | (simp; done) | (simp; omega)) y
    have hb0_3 : ∀ y : Since (x.w.alloc (.cells #[.int .i64 r.id, .int .i64 r.rd, .int .i64 r.s0, .int .i64 r.s1, .int .i64 r.e0, .int .i64 r.e1, .bool r.op, .slice la r.legs.length r.lc, .slice r.pa r.pauses.length r.pc, .int .i64 r.fw, .int .i64 r.fp, .int .i64 r.wh, .int .i64 r.pl] 44)), y.w.cell? ⟨x.w.heap.size, 3, none⟩ = some (.int .i64 r.s1) := fun y => Since.cell (by simp [go_sem]) (by first | (simp; done) | (simp; omega)) y
    have hb0_4 : ∀ y : Since (x.w.alloc (.cells #[.int .i64 r.id, .int .i64 r.rd, .int .i64 r.s0, .int .i64 r.s1, .int .i64 r.e0, .int .i64 r.e1, .bool r.op, .slice la r.legs.length r.lc, .slice r.pa r.pauses.length r.pc, .int .i64 r.fw, .int .i64 r.fp, .int .i64 r.wh, .int .i64 r.pl] 44)), y.w.cell? ⟨x.w.heap.size, 4, none⟩ = some (.int .i64 r.e0) := fun y => Since.cell (by simp [go_sem]) (by first | (simp; done) | (simp; omega)) y
    have hb0_5 : ∀ y : Since (x.w.alloc (.cells #[.int .i64 r.id, .int .i64 r.rd, .int .i64 r.s0, .int .i64 r.s1, .int .i64 r.e0, .int .i64 r.e1, .bool r.op, .slice la r.legs.length r.lc, .slice r.pa r.pauses.length r.pc, .int .i64 r.fw, .int .i64 r.fp, .int .i64 r.wh, .int .i64 r.pl] 44)), y.w.cell? ⟨x.w.heap.size, 5, none⟩ = some (.int .i64 r.e1) := fun y => Since.cell (by simp [go_sem]) (by first | (simp; done) | (simp; omega)) y
    have hb0_6 : ∀ y : Since (x.w.alloc (.cells #[.int .i64 r.id, .int .i64 r.rd, .int .i64 r.s0, .int .i64 r.s1, .int .i64 r.e0, .int .i64 r.e1, .bool r.op, .slice la r.legs.length r.lc, .slice r.pa r.pauses.length r.pc, .int .i64 r.fw, .int .i64 r.fp, .int .i64 r.wh, .int .i64 r.pl] 44)), y.w.cell? ⟨x.w.heap.size, 6, none⟩ = some (.bool r.op) := fun y => Since.cell (by simp [go_sem]) (by first | (simp; done) | (simp; omega)) y
    have hb0_7 : ∀ y : Since (x.w.alloc (.cells #[.int .i64 r.id, .int .i64 r.rd, .int .i64 r.s0, .int .i64 r.s1, .int .i64 r.e0, .int .i64 r.e1, .bool r.op, .slice la r.legs.length r.lc, .slice r.pa r.pauses.length r.pc, .int .i64 r.fw, .int .i64 r.fp, .int .i64 r.wh, .int .i64 r.pl] 44)), y.w.cell? ⟨x.w.heap.size, 7, none⟩ = some (.slice la r.legs.length r.lc) := fun y => Since.cell (by simp [go_sem]) (by first | (simp; done) | (simp; omega)) y
    have hb0_8 : ∀ y : Since (x.w.alloc (.cells #[.int .i64 r.id, .int .i64 r.rd, .int .i64 r.s0, .int .i64 r.s1, .int .i64 r.e0, .int .i64 r.e1, .bool r.op, .slice la r.legs.length r.lc, .slice r.pa r.pauses.length r.pc, .int .i64 r.fw, .int .i64 r.fp, .int .i64 r.wh, .int .i64 r.pl] 44)), y.w.cell? ⟨x.w.heap.size, 8, none⟩ = some (.slice r.pa r.pauses.length r.pc) := fun y => Since.cell (by simp [go_sem]) (by first | (simp; done) | (simp; omega)) y
    have hb0_9 : ∀ y : Since (x.w.alloc (.cells #[.int .i64 r.id, .int .i64 r.rd, .int .i64 r.s0, .int .i64 r.s1, .int .i64 r.e0, .int .i64 r.e1, .bool r.op, .slice la r.legs.length r.lc, .slice r.pa r.pauses.length r.pc, .int .i64 r.fw, .int .i64 r.fp, .int .i64 r.wh, .int .i64 r.pl] 44)), y.w.cell? ⟨x.w.heap.size, 9, none⟩ = some (.int .i64 r.fw) := fun y => Since.cell (by simp [go_sem]) (by first | (simp; done) | (simp; omega)) y
    have hb0_10 : ∀ y : Since (x.w.alloc (.cells #[.int .i64 r.id, .int .i64 r.rd, .int .i64 r.s0, .int .i64 r.s1, .int .i64 r.e0, .int .i64 r.e1, .bool r.op, .slice la r.legs.length r.lc, .slice r.pa r.pauses.length r.pc, .int .i64 r.fw, .int .i64 r.fp, .int .i64 r.wh, .int .i64 r.pl] 44)), y.w.cell? ⟨x.w.heap.size, 10, none⟩ = some (.int .i64 r.fp) := fun y => Since.cell (by simp [go_sem]) (by first | (simp; done) | (simp; omega)) y
    have hb0_11 : ∀ y : Since (x.w.alloc (.cells #[.int .i64 r.id, .int .i64 r.rd, .int .i64 r.s0, .int .i64 r.s1, .int .i64 r.e0, .int .i64 r.e1, .bool r.op, .slice la r.legs.length r.lc, .slice r.pa r.pauses.length r.pc, .int .i64 r.fw, .int .i64 r.fp, .int .i64 r.wh, .int .i64 r.pl] 44)), y.w.cell? ⟨x.w.heap.size, 11, none⟩ = some (.int .i64 r.wh) := fun y => Since.cell (by simp [go_sem]) (by first | (simp; done) | (simp; omega)) y
    have hb0_12 : ∀ y : Since (x.w.alloc (.cells #[.int .i64 r.id, .int .i64 r.rd, .int .i64 r.s0, .int .i64 r.s1, .int .i64 r.e0, .int .i64 r.e1, .bool r.op, .slice la r.legs.length r.lc, .slice r.pa r.pauses.length r.pc, .int .i64 r.fw, .int .i64 r.fp, .int .i64 r.wh, .int .i64 r.pl] 44)), y.w.cell? ⟨x.w.heap.size, 12, none⟩ = some (.int .i64 r.pl) := fun y => Since.cell (by simp [go_sem]) (by first | (simp; done) | (simp; omega)) y
    have hf0 : ∀ (y : Since (x.w.alloc (.cells #[.int .i64 r.id, .int .i64 r.rd, .int .i64 r.s0, .int .i64 r.s1, .int .i64 r.e0, .int .i64 r.e1, .bool r.op, .slice la r.legs.length r.lc, .slice r.pa r.pauses.length r.pc, .int .i64 r.fw, .int .i64 r.fp, .int .i64 r.wh, .int .i64 r.pl] 44))) (o : Nat), y.w.frozen? ⟨x.w.heap.size, o, none⟩ = false := fun y o => Since.free (by simp [go_sem]) (by first | (simp; done) | (simp; omega)) y
    have hWup : ∃ z : Since w, (x.w.alloc (.cells #[.int .i64 r.id, .int .i64 r.rd, .int .i64 r.s0, .int .i64 r.s1, .int .i64 r.e0, .int .i64 r.e1, .bool r.op, .slice la r.legs.length r.lc, .slice r.pa r.pauses.length r.pc, .int .i64 r.fw, .int .i64 r.fp, .int .i64 r.wh, .int .i64 r.pl] 44)) = z.w := x.alloc _
    obtain ⟨y0, hy0⟩ := Since.refl (x.w.alloc (.cells #[.int .i64 r.id, .int .i64 r.rd, .int .i64 r.s0, .int .i64 r.s1, .int .i64 r.e0, .int .i64 r.e1, .bool r.op, .slice la r.legs.length r.lc, .slice r.pa r.pauses.length r.pc, .int .i64 r.fw, .int .i64 r.fp, .int .i64 r.wh, .int .i64 r.pl] 44))
    have Hbx := Lib.hid (And.intro x.b.size (show x.w.heap.size + 1 = (x.w.alloc (.cells #[.int .i64 r.id, .int .i64 r.rd, .int .i64 r.s0, .int .i64 r.s1, .int .i64 r.e0, .int .i64 r.e1, .bool r.op, .slice la r.legs.length r.lc, .slice r.pa r.pauses.length r.pc, .int .i64 r.fw, .int .i64 r.fp, .int .i64 r.wh, .int .i64 r.pl] 44)).heap.size from by simp))
    generalize hW : (x.w.alloc (.cells #[.int .i64 r.id, .int .i64 r.rd, .int .i64 r.s0, .int .i64 r.s1, .int .i64 r.e0, .int .i64 r.e1, .bool r.op, .slice la r.legs.length r.lc, .slice r.pa r.pauses.length r.pc, .int .i64 r.fw, .int .i64 r.fp, .int .i64 r.wh, .int .i64 r.pl] 44)) = W at *
    clear hW
    generalize x.w.heap.size = bx at *
    have Hup := Lib.hid (Since.up hWup)
    rw [hy0]
    clear hy0
    replace HL := Lib.hid (HL.out.to hWup)
    clear hWup
    go_upto_region 4 with fail
    have ha0 : (y0.w.alloc (.cells #[.int .i64 r.s0, .int .i64 r.s1] 40)).cell? ⟨y0.w.heap.size, 0, none⟩ = some (.int .i64 r.s0) := by simp [go_sem]
    have ha1 : (y0.w.alloc (.cells #[.int .i64 r.s0, .int .i64 r.s1] 40)).cell? ⟨y0.w.heap.size, 1, none⟩ = some (.int .i64 r.s1) := by simp [go_sem]
    have haf : ∀ o, (y0.w.alloc (.cells #[.int .i64 r.s0, .int .i64 r.s1] 40)).frozen? ⟨y0.w.heap.size, o, none⟩ = false := fun o => by simp [go_sem]
    have hlt0 : y0.w.heap.size < (y0.w.alloc (.cells #[.int .i64 r.s0, .int .i64 r.s1] 40)).heap.size := by simp
    have hst0 : ∃ zz : Since y0.w, (y0.w.alloc (.cells #[.int .i64 r.s0, .int .i64 r.s1] 40)) = zz.w := IsSince.alloc (IsSince.self _) _
    have hsz0 := y0.b.size
    obtain ⟨y1, e2⟩ := IsSince.alloc (IsSince.of y0) (.cells #[.int .i64 r.s0, .int .i64 r.s1] 40)
    rw [e2] at ha0 ha1 haf hlt0 hst0 ⊢
    (have hbox := BoxIs.new y0.w [.int .i64 r.s0, .int .i64 r.s1] 40; rw [e2] at hbox)
    clear e2 hst0
    generalize y0.w.heap.size = ga at *
    have Hha0 : ∀ q : Since y1.w, q.w.cell? ⟨ga, 0, none⟩ = some (.int .i64 r.s0) := fun q => Since.cell ha0 (by omega) q
    have Hha1 : ∀ q : Since y1.w, q.w.cell? ⟨ga, 1, none⟩ = some (.int .i64 r.s1) := fun q => Since.cell ha1 (by omega) q
    have Hhaf : ∀ (q : Since y1.w) (o : Nat), q.w.frozen? ⟨ga, o, none⟩ = false := fun q o => Since.free (haf o) (by omega) q
    have Hhag := Lib.hid (And.intro hsz0 hlt0)
    clear hlt0 hsz0
    have Hbox := Lib.hid hbox
    have Hga := Lib.hid (show W.heap.size ≤ ga by have := Hhag.out.1; omega)
    clear hbox ha0 ha1 haf Hha0 Hha1 Hhaf
    go_wp2_with fail
    go_loopw [27] (fun i wr => ∃ (k : Nat) (a0 a1 : Int) (y : Since W), k ≤ r.legs.length ∧ i = .int .i64 k ∧ wr = y.w ∧ BoxIs y.w ga [.int .i64 a0, .int .i64 a1] ∧ chainL r.s0 r.s1 r.legs r.e0 r.e1 = chainL a0 a1 (r.legs.drop k) r.e0 r.e1) (fun i _ => r.legs.length - (intOf i).toNat)
    case atStart => exact ⟨0, r.s0, r.s1, y1, by omega, rfl, rfl, Hbox.out, rfl⟩
    case round =>
      clear Hbox Hhag
      obtain ⟨k, a0, a1, y, hk, rfl, rfl, hbox, hch⟩ := hrel
      have Hbox := Lib.hid hbox; have Hch := Lib.hid hch; clear hbox hch
      have heq0 := span_equal
      have hgd := span_guard
      have Heq := Lib.hid heq0; clear heq0
      by_cases hlt : k < r.legs.length
      · obtain ⟨e, he⟩ : ∃ e, r.legs[k]? = some e := ⟨_, List.getElem?_eq_getElem hlt⟩
        obtain ⟨b1, off1, rfl, h1'⟩ := Els.leg HL.out he
        have pa0 := h1'.c0
        have pa1 := h1'.c1
        have pa2 := h1'.c2
        have pa3 := h1'.c3
        have pa4 := h1'.c4
        have hdrop : r.legs.drop k = e :: r.legs.drop (k + 1) := by
          rw [List.drop_eq_getElem_cons hlt, (List.getElem?_eq_some_iff.1 he).2]
        have Hdrop := Lib.hid hdrop
        have hk0 : (0 : Int) ≤ (k : Int) := by omega
        have hkl : (k : Int) < (r.legs.length : Int) := by omega
        clear h1' he hdrop
        go_upto_region 7 with fail
        have hx0 : (y.w.alloc (.cells #[.int .i64 e.b, .int .i64 e.f0, .int .i64 e.f1, .int .i64 e.t0, .int .i64 e.t1] 69)).cell? ⟨y.w.heap.size, 0, none⟩ = some (.int .i64 e.b) := by simp [go_sem]
        have hx1 : (y.w.alloc (.cells #[.int .i64 e.b, .int .i64 e.f0, .int .i64 e.f1, .int .i64 e.t0, .int .i64 e.t1] 69)).cell? ⟨y.w.heap.size, 1, none⟩ = some (.int .i64 e.f0) := by simp [go_sem]
        have hx2 : (y.w.alloc (.cells #[.int .i64 e.b, .int .i64 e.f0, .int .i64 e.f1, .int .i64 e.t0, .int .i64 e.t1] 69)).cell? ⟨y.w.heap.size, 2, none⟩ = some (.int .i64 e.f1) := by simp [go_sem]
        have hx3 : (y.w.alloc (.cells #[.int .i64 e.b, .int .i64 e.f0, .int .i64 e.f1, .int .i64 e.t0, .int .i64 e.t1] 69)).cell? ⟨y.w.heap.size, 3, none⟩ = some (.int .i64 e.t0) := by simp [go_sem]
        have hx4 : (y.w.alloc (.cells #[.int .i64 e.b, .int .i64 e.f0, .int .i64 e.f1, .int .i64 e.t0, .int .i64 e.t1] 69)).cell? ⟨y.w.heap.size, 4, none⟩ = some (.int .i64 e.t1) := by simp [go_sem]
        have hxf : ∀ o, (y.w.alloc (.cells #[.int .i64 e.b, .int .i64 e.f0, .int .i64 e.f1, .int .i64 e.t0, .int .i64 e.t1] 69)).frozen? ⟨y.w.heap.size, o, none⟩ = false := fun o => by simp [go_sem]
        have hlt0 : y.w.heap.size < (y.w.alloc (.cells #[.int .i64 e.b, .int .i64 e.f0, .int .i64 e.f1, .int .i64 e.t0, .int .i64 e.t1] 69)).heap.size := by simp
        have hst0 : ∃ zz : Since y.w, (y.w.alloc (.cells #[.int .i64 e.b, .int .i64 e.f0, .int .i64 e.f1, .int .i64 e.t0, .int .i64 e.t1] 69)) = zz.w := IsSince.alloc (IsSince.self _) _
        have hsz0 := y.b.size
        obtain ⟨y2, e2⟩ := IsSince.alloc (IsSince.of y) (.cells #[.int .i64 e.b, .int .i64 e.f0, .int .i64 e.f1, .int .i64 e.t0, .int .i64 e.t1] 69)
        rw [e2] at hx0 hx1 hx2 hx3 hx4 hxf hlt0 hst0 ⊢
        (replace Hbox := Lib.hid (Hbox.out.to hst0))
        clear e2 hst0
        generalize y.w.heap.size = g at *
        have Hhx0 : ∀ q : Since y2.w, q.w.cell? ⟨g, 0, none⟩ = some (.int .i64 e.b) := fun q => Since.cell hx0 (by omega) q
        have Hhx1 : ∀ q : Since y2.w, q.w.cell? ⟨g, 1, none⟩ = some (.int .i64 e.f0) := fun q => Since.cell hx1 (by omega) q
        have Hhx2 : ∀ q : Since y2.w, q.w.cell? ⟨g, 2, none⟩ = some (.int .i64 e.f1) := fun q => Since.cell hx2 (by omega) q
        have Hhx3 : ∀ q : Since y2.w, q.w.cell? ⟨g, 3, none⟩ = some (.int .i64 e.t0) := fun q => Since.cell hx3 (by omega) q
        have Hhx4 : ∀ q : Since y2.w, q.w.cell? ⟨g, 4, none⟩ = some (.int .i64 e.t1) := fun q => Since.cell hx4 (by omega) q
        have Hhxf : ∀ (q : Since y2.w) (o : Nat), q.w.frozen? ⟨g, o, none⟩ = false := fun q o => Since.free (hxf o) (by omega) q
        have Hhxg := Lib.hid (And.intro hsz0 hlt0)
        clear hlt0 hsz0
        have ka0 : ∀ q : Since y2.w, q.w.cell? ⟨ga, 0, none⟩ = some (.int .i64 a0) := fun q => (Hbox.out.since q).c 0 _ rfl
        have ka1 : ∀ q : Since y2.w, q.w.cell? ⟨ga, 1, none⟩ = some (.int .i64 a1) := fun q => (Hbox.out.since q).c 1 _ rfl
        have kaf : ∀ (q : Since y2.w) o, q.w.frozen? ⟨ga, o, none⟩ = false := fun q o => (Hbox.out.since q).f o
        have heq := Heq.out e.f0 e.f1 a0 a1
        obtain ⟨q0, hq0⟩ := Since.refl y2.w
        rw [hq0]
        clear hq0
        cases hb : (decide (e.f0 = a0) && decide (e.f1 = a1)) with
        | false =>
          rw [hb] at heq
          have Hr := Lib.hid (show joinedB r = false by rw [Hj.out, Hch.out, Hdrop.out]; unfold chainL; rw [hb]; rfl)
          clear hb
          go_wp2_with fail
          go_ret
          exact ⟨ret_bool Hr.out.symm, by obtain ⟨q, e⟩ := y2.trans q0; rw [e]; exact Hup.out q⟩
        | true =>
          rw [hb] at heq
          have Hr := Lib.hid (show chainL a0 a1 (r.legs.drop k) r.e0 r.e1 = chainL e.t0 e.t1 (r.legs.drop (k + 1)) r.e0 r.e1 by rw [Hdrop.out]; show (_ && _ && _) = _; rw [hb]; rfl)
          clear hb
          go_wp2_with fail
          have hb2 := (Hbox.out.since q0).sets (us := [.int .i64 e.t0, .int .i64 e.t1]) rfl
          obtain ⟨q, eq⟩ := y2.trans q0
          obtain ⟨y4, h4⟩ := q.sets ga Hga.out [.int .i64 e.t0, .int .i64 e.t1] 0
          rw [eq, h4] at hb2
          rw [eq]
          have H4 := Lib.hid h4; have Hb2 := Lib.hid hb2
          clear h4 hb2 eq
          go_roundw
          case rel => exact ⟨k + 1, e.t0, e.t1, y4, by omega, by go_num, H4.out, Hb2.out, by rw [Hch.out, Hr.out]⟩
          case measure => simp [intOf] <;> omega
      · obtain rfl : k = r.legs.length := by omega
        rw [List.drop_length] at Hch
        have hj2 : joinedB r = (decide (a0 = r.e0) && decide (a1 = r.e1)) := by rw [Hj.out, Hch.out]; rfl
        have Hj2 := Lib.hid hj2; clear hj2
        obtain ⟨q1, hq1⟩ := Since.refl y.w
        have ka0 : ∀ q : Since y.w, q.w.cell? ⟨ga, 0, none⟩ = some (.int .i64 a0) := fun q => (Hbox.out.since q).c 0 _ rfl
        have ka1 : ∀ q : Since y.w, q.w.cell? ⟨ga, 1, none⟩ = some (.int .i64 a1) := fun q => (Hbox.out.since q).c 1 _ rfl
        have heq := Heq.out a0 a1 r.e0 r.e1
        have kh4 : ∀ q : Since y.w, q.w.cell? ⟨bx, 4, none⟩ = some (.int .i64 r.e0) := fun q => by obtain ⟨z, e⟩ := y.trans q; rw [e]; exact hb0_4 z
        have kh5 : ∀ q : Since y.w, q.w.cell? ⟨bx, 5, none⟩ = some (.int .i64 r.e1) := fun q => by obtain ⟨z, e⟩ := y.trans q; rw [e]; exact hb0_5 z
        rw [hq1]
        clear hq1
        go_wp2_with fail
        go_ret
        exact ⟨ret_bool Hj2.out.symm, by obtain ⟨q, e⟩ := y.trans q1; rw [e]; exact Hup.out q⟩
  all_goals
    have Hr := Lib.hid (show joinedB r = false by
      cases hh : joinedB r
      · rfl
      · unfold joinedB at hh
        simp only [Bool.and_eq_true, decide_eq_true_eq] at hh
        omega)
    go_enter Try.func44, Try.ntmps44
    go_wp2_with fail
    go_ret
    exact ⟨ret_bool Hr.out.symm, x.alloc _⟩
end Go.Proofs.Ytbkfcdheckkjaaa
