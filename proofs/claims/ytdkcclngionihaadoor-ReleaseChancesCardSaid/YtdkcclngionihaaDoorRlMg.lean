/- Trips between zones, the program: the ends of a ride; tables, their error, how far they are apart. -/
import Derived.Test.YtdkcclngionihaaDoorRlMf
import Derived.IntWalk
namespace Go.Proofs.YtdkcclngionihaaDoor
open Go.RowKit

def endA (zs : List Int) (r : Ride) : Int := if zoneE zs r.fw r.fp = 0 then fromZ zs r else 0
def endB (zs : List Int) (r : Ride) : Int := if zoneE zs r.fw r.fp = 0 then toZ zs r else 0
def EndRes (zs : List Int) (r : Ride) (w : World) (o : Ending) (w' : World) : Prop := o = .returned (.tuple #[.int .i64 (endA zs r), .int .i64 (endB zs r), .int .i64 (endE zs r)]) ∧ ∃ y : Since w, w' = y.w
theorem endRes {zs : List Int} {r : Ride} {w : World} {a b e : Int} (h : endA zs r = a ∧ endB zs r = b ∧ endE zs r = e) (y : Since w) : EndRes zs r w (.returned (.tuple #[.int .i64 a, .int .i64 b, .int .i64 e])) y.w := by
  obtain ⟨rfl, rfl, rfl⟩ := h; exact ⟨rfl, y, rfl⟩
set_option maxRecDepth 100000 in
set_option maxHeartbeats 4000000 in
theorem ends_calls (w : World) (x : Since w) (a : Option Addr) (zs : List Int) (c : Nat) (sz : Int) (r : Ride) (h : IntRow w a zs) (hl : zs.length ≤ 9223372036854775807) (hf : r.fp ≤ 9223372036854775807) (hp : r.pl ≤ 9223372036854775807) :
    Calls Tryd.prog 45 #[.slice a zs.length c, .int .i64 sz, .agg #[.int .i64 r.id, .int .i64 r.rd, .int .i64 r.s0, .int .i64 r.s1, .int .i64 r.e0, .int .i64 r.e1, .bool r.op, .slice r.la r.legs.length r.lc, .slice r.pa r.pauses.length r.pc, .int .i64 r.fw, .int .i64 r.fp, .int .i64 r.wh, .int .i64 r.pl]] x.w (EndRes zs r w) := by
  have H := Lib.hid h
  have Hp := Lib.hid (fun (a b e : Int) (h : endA zs r = a ∧ endB zs r = b ∧ endE zs r = e) (y : Since w) => endRes h y)
  generalize EndRes zs r w = PO at *
  clear h
  go_enter Tryd.func45, Tryd.ntmps45
  go_upto_region 1 with fail
  have hb0_0 : ∀ y : Since (x.w.alloc (.cells #[.int .i64 r.id, .int .i64 r.rd, .int .i64 r.s0, .int .i64 r.s1, .int .i64 r.e0, .int .i64 r.e1, .bool r.op, .slice r.la r.legs.length r.lc, .slice r.pa r.pauses.length r.pc, .int .i64 r.fw, .int .i64 r.fp, .int .i64 r.wh, .int .i64 r.pl] 73)), y.w.cell? ⟨x.w.heap.size, 0, none⟩ = some (.int .i64 r.id) := fun y => Since.cell (by simp [go_sem]) (by first | (simp; done) | (simp; omega)) y
  have hb0_1 : ∀ y : Since (x.w.alloc (.cells #[.int .i64 r.id, .int .i64 r.rd, .int .i64 r.s0, .int .i64 r.s1, .int .i64 r.e0, .int .i64 r.e1, .bool r.op, .slice r.la r.legs.length r.lc, .slice r.pa r.pauses.length r.pc, .int .i64 r.fw, .int .i64 r.fp, .int .i64 r.wh, .int .i64 r.pl] 73)), y.w.cell? ⟨x.w.heap.size, 1, none⟩ = some (.int .i64 r.rd) := fun y => Since.cell (by simp [go_sem]) (by first | (simp; done) | (simp; omega)) y
  have hb0_2 : ∀ y : Since (x.w.alloc (.cells #[.int .i64 r.id, .int .i64 r.rd, .int .i64 r.s0, .int .i64 r.s1, .int .i64 r.e0, .int .i64 r.e1, .bool r.op, .slice r.la r.legs.length r.lc, .slice r.pa r.pauses.length r.pc, .int .i64 r.fw, .int .i64 r.fp, .int .i64 r.wh, .int .i64 r.pl] 73)), y.w.cell? ⟨x.w.heap.size, 2, none⟩ = some (.int .i64 r.s0) := fun y => Since.cell (by simp [go_sem]) (by first | (simp; done) | (simp; omega)) y
  have hb0_3 : ∀ y : Since (x.w.alloc (.cells #[.int .i64 r.id, .int .i64 r.rd, .int .i64 r.s0, .int .i64 r.s1, .int .i64 r.e0, .int .i64 r.e1, .bool r.op, .slice r.la r.legs.length r.lc, .slice r.pa r.pauses.length r.pc, .int .i64 r.fw, .int .i64 r.fp, .int .i64 r.wh, .int .i64 r.pl] 73)), y.w.cell? ⟨x.w.heap.size, 3, none⟩ = some (.int .i64 r.s1) := fun y => Since.cell (by simp [go_sem]) (by first | (simp; done) | (simp; omega)) y
  have hb0_4 : ∀ y : Since (x.w.alloc (.cells #[.int .i64 r.id, .int .i64 r.rd, .int .i64 r.s0, .int .i64 r.s1, .int .i64 r.e0, .int .i64 r.e1, .bool r.op, .slice r.la r.legs.length r.lc, .slice r.pa r.pauses.length r.pc, .int .i64 r.fw, .int .i64 r.fp, .int .i64 r.wh, .int .i64 r.pl] 73)), y.w.cell? ⟨x.w.heap.size, 4, none⟩ = some (.int .i64 r.e0) := fun y => Since.cell (by simp [go_sem]) (by first | (simp; done) | (simp; omega)) y
  have hb0_5 : ∀ y : Since (x.w.alloc (.cells #[.int .i64 r.id, .int .i64 r.rd, .int .i64 r.s0, .int .i64 r.s1, .int .i64 r.e0, .int .i64 r.e1, .bool r.op, .slice r.la r.legs.length r.lc, .slice r.pa r.pauses.length r.pc, .int .i64 r.fw, .int .i64 r.fp, .int .i64 r.wh, .int .i64 r.pl] 73)), y.w.cell? ⟨x.w.heap.size, 5, none⟩ = some (.int .i64 r.e1) := fun y => Since.cell (by simp [go_sem]) (by first | (simp; done) | (simp; omega)) y
  have hb0_6 : ∀ y : Since (x.w.alloc (.cells #[.int .i64 r.id, .int .i64 r.rd, .int .i64 r.s0, .int .i64 r.s1, .int .i64 r.e0, .int .i64 r.e1, .bool r.op, .slice r.la r.legs.length r.lc, .slice r.pa r.pauses.length r.pc, .int .i64 r.fw, .int .i64 r.fp, .int .i64 r.wh, .int .i64 r.pl] 73)), y.w.cell? ⟨x.w.heap.size, 6, none⟩ = some (.bool r.op) := fun y => Since.cell (by simp [go_sem]) (by first | (simp; done) | (simp; omega)) y
  have hb0_7 : ∀ y : Since (x.w.alloc (.cells #[.int .i64 r.id, .int .i64 r.rd, .int .i64 r.s0, .int .i64 r.s1, .int .i64 r.e0, .int .i64 r.e1, .bool r.op, .slice r.la r.legs.length r.lc, .slice r.pa r.pauses.length r.pc, .int .i64 r.fw, .int .i64 r.fp, .int .i64 r.wh, .int .i64 r.pl] 73)), y.w.cell? ⟨x.w.heap.size, 7, none⟩ = some (.slice r.la r.legs.length r.lc) := fun y => Since.cell (by simp [go_sem]) (by first | (simp; done) | (simp; omega)) y
  have hb0_8 : ∀ y : Since (x.w.alloc (.cells #[.int .i64 r.id, .int .i64 r.rd, .int .i64 r.s0, .int .i64 r.s1, .int .i64 r.e0, .int .i64 r.e1, .bool r.op, .slice r.la r.legs.length r.lc, .slice r.pa r.pauses.length r.pc, .int .i64 r.fw, .int .i64 r.fp, .int .i64 r.wh, .int .i64 r.pl] 73)), y.w.cell? ⟨x.w.heap.size, 8, none⟩ = some (.slice r.pa r.pauses.length r.pc) := fun y => Since.cell (by simp [go_sem]) (by first | (simp; done) | (simp; omega)) y
  have hb0_9 : ∀ y : Since (x.w.alloc (.cells #[.int .i64 r.id, .int .i64 r.rd, .int .i64 r.s0, .int .i64 r.s1, .int .i64 r.e0, .int .i64 r.e1, .bool r.op, .slice r.la r.legs.length r.lc, .slice r.pa r.pauses.length r.pc, .int .i64 r.fw, .int .i64 r.fp, .int .i64 r.wh, .int .i64 r.pl] 73)), y.w.cell? ⟨x.w.heap.size, 9, none⟩ = some (.int .i64 r.fw) := fun y => Since.cell (by simp [go_sem]) (by first | (simp; done) | (simp; omega)) y
  have hb0_10 : ∀ y : Since (x.w.alloc (.cells #[.int .i64 r.id, .int .i64 r.rd, .int .i64 r.s0, .int .i64 r.s1, .int .i64 r.e0, .int .i64 r.e1, .bool r.op, .slice r.la r.legs.length r.lc, .slice r.pa r.pauses.length r.pc, .int .i64 r.fw, .int .i64 r.fp, .int .i64 r.wh, .int .i64 r.pl] 73)), y.w.cell? ⟨x.w.heap.size, 10, none⟩ = some (.int .i64 r.fp) := fun y => Since.cell (by simp [go_sem]) (by first | (simp; done) | (simp; omega)) y
  have hb0_11 : ∀ y : Since (x.w.alloc (.cells #[.int .i64 r.id, .int .i64 r.rd, .int .i64 r.s0, .int .i64 r.s1, .int .i64 r.e0, .int .i64 r.e1, .bool r.op, .slice r.la r.legs.length r.lc, .slice r.pa r.pauses.length r.pc, .int .i64 r.fw, .int .i64 r.fp, .int .i64 r.wh, .int .i64 r.pl] 73)), y.w.cell? ⟨x.w.heap.size, 11, none⟩ = some (.int .i64 r.wh) := fun y => Since.cell (by simp [go_sem]) (by first | (simp; done) | (simp; omega)) y
  have hb0_12 : ∀ y : Since (x.w.alloc (.cells #[.int .i64 r.id, .int .i64 r.rd, .int .i64 r.s0, .int .i64 r.s1, .int .i64 r.e0, .int .i64 r.e1, .bool r.op, .slice r.la r.legs.length r.lc, .slice r.pa r.pauses.length r.pc, .int .i64 r.fw, .int .i64 r.fp, .int .i64 r.wh, .int .i64 r.pl] 73)), y.w.cell? ⟨x.w.heap.size, 12, none⟩ = some (.int .i64 r.pl) := fun y => Since.cell (by simp [go_sem]) (by first | (simp; done) | (simp; omega)) y
  have hf0 : ∀ (y : Since (x.w.alloc (.cells #[.int .i64 r.id, .int .i64 r.rd, .int .i64 r.s0, .int .i64 r.s1, .int .i64 r.e0, .int .i64 r.e1, .bool r.op, .slice r.la r.legs.length r.lc, .slice r.pa r.pauses.length r.pc, .int .i64 r.fw, .int .i64 r.fp, .int .i64 r.wh, .int .i64 r.pl] 73))) (o : Nat), y.w.frozen? ⟨x.w.heap.size, o, none⟩ = false := fun y o => Since.free (by simp [go_sem]) (by first | (simp; done) | (simp; omega)) y
  have hWup : ∃ z : Since w, (x.w.alloc (.cells #[.int .i64 r.id, .int .i64 r.rd, .int .i64 r.s0, .int .i64 r.s1, .int .i64 r.e0, .int .i64 r.e1, .bool r.op, .slice r.la r.legs.length r.lc, .slice r.pa r.pauses.length r.pc, .int .i64 r.fw, .int .i64 r.fp, .int .i64 r.wh, .int .i64 r.pl] 73)) = z.w := x.alloc _
  obtain ⟨y0, hy0⟩ := Since.refl (x.w.alloc (.cells #[.int .i64 r.id, .int .i64 r.rd, .int .i64 r.s0, .int .i64 r.s1, .int .i64 r.e0, .int .i64 r.e1, .bool r.op, .slice r.la r.legs.length r.lc, .slice r.pa r.pauses.length r.pc, .int .i64 r.fw, .int .i64 r.fp, .int .i64 r.wh, .int .i64 r.pl] 73))
  have Hbx := Lib.hid (And.intro x.b.size (show x.w.heap.size + 1 = (x.w.alloc (.cells #[.int .i64 r.id, .int .i64 r.rd, .int .i64 r.s0, .int .i64 r.s1, .int .i64 r.e0, .int .i64 r.e1, .bool r.op, .slice r.la r.legs.length r.lc, .slice r.pa r.pauses.length r.pc, .int .i64 r.fw, .int .i64 r.fp, .int .i64 r.wh, .int .i64 r.pl] 73)).heap.size from by simp))
  generalize hW : (x.w.alloc (.cells #[.int .i64 r.id, .int .i64 r.rd, .int .i64 r.s0, .int .i64 r.s1, .int .i64 r.e0, .int .i64 r.e1, .bool r.op, .slice r.la r.legs.length r.lc, .slice r.pa r.pauses.length r.pc, .int .i64 r.fw, .int .i64 r.fp, .int .i64 r.wh, .int .i64 r.pl] 73)) = W at *
  clear hW
  generalize x.w.heap.size = bx at *
  have Hup := Lib.hid (Since.up hWup)
  rw [hy0]
  clear hy0
  replace H := Lib.hid (H.out.to hWup)
  clear hWup hf0
  have Z1 := Lib.hid (zone_calls y0.w a zs c r.fw r.fp (Since.row H.out y0) hl hf)
  have Z2 := Lib.hid (zone_calls y0.w a zs c r.wh r.pl (Since.row H.out y0) hl hp)
  by_cases he : zoneE zs r.fw r.fp = 0
  · have Hend := Lib.hid (fun y => Hp.out (zoneV zs r.fw r.fp) (zoneV zs r.wh r.pl) (zoneE zs r.wh r.pl) ⟨if_pos he, if_pos he, if_neg (by rw [he]; simp)⟩ y)
    unfold ZRes at Z1 Z2
    rw [he] at Z1
    clear he Hp
    generalize zoneV zs r.fw r.fp = v1 at *
    generalize zoneV zs r.wh r.pl = v2 at *
    generalize zoneE zs r.wh r.pl = e2 at *
    go_wp2_with fail
    refine Z1.out.mono ?_
    rintro _ _ ⟨rfl, rfl⟩
    go_wp2_with fail
    refine Z2.out.mono ?_
    rintro _ _ ⟨rfl, rfl⟩
    go_wp2_with fail
    obtain ⟨y, hy⟩ := Hup.out y0
    rw [hy]
    exact bodyPost_ret (v := .tuple #[.int .i64 v1, .int .i64 v2, .int .i64 e2]) (by simp [results, Tryd.results45, go_sem]) rfl (Hend.out y)
  · have hne : (zoneE zs r.fw r.fp != 0) = true := by simpa using he
    have Hend := Lib.hid (fun y => Hp.out 0 0 (zoneE zs r.fw r.fp) ⟨if_neg he, if_neg he, if_pos he⟩ y)
    unfold ZRes at Z1
    clear he Hp Z2
    generalize zoneV zs r.fw r.fp = v1 at *
    generalize zoneE zs r.fw r.fp = e1 at *
    go_wp2_with fail
    refine Z1.out.mono ?_
    rintro _ _ ⟨rfl, rfl⟩
    go_wp2_with fail
    obtain ⟨y, hy⟩ := Hup.out y0
    rw [hy]
    exact bodyPost_ret (v := .tuple #[.int .i64 0, .int .i64 0, .int .i64 e1]) (by simp [results, Tryd.results45, go_sem]) rfl (Hend.out y)
def badc1 (n : Int) : Bool := decide (n < -1000000) || decide (1000000 < n)
theorem chk_range {t : Tab} (h : t.r < 1 ∨ 8 < t.r ∨ t.c < 1 ∨ 8 < t.c) : chkE t = 1 := if_pos h
theorem chk_len {t : Tab} (h : ¬ (t.r < 1 ∨ 8 < t.r ∨ t.c < 1 ∨ 8 < t.c)) (h2 : (t.l.length : Int) ≠ t.r * t.c) : chkE t = 3 := by unfold chkE; rw [if_neg h, if_pos h2]
theorem chk_cell {t : Tab} (h : ¬ (t.r < 1 ∨ 8 < t.r ∨ t.c < 1 ∨ 8 < t.c)) (h2 : ¬ (t.l.length : Int) ≠ t.r * t.c) {k : Nat} {z : Int} (hz : t.l[k]? = some z) (hb : badc1 z = true) : chkE t = 1 := by
  unfold chkE; rw [if_neg h, if_neg h2]; exact if_pos (List.any_eq_true.2 ⟨z, List.mem_of_getElem? hz, hb⟩)
theorem chk_ok {t : Tab} (h : ¬ (t.r < 1 ∨ 8 < t.r ∨ t.c < 1 ∨ 8 < t.c)) (h2 : ¬ (t.l.length : Int) ≠ t.r * t.c) (hn : ∀ j, j < t.l.length → ∀ z, t.l[j]? = some z → badc1 z = false) : chkE t = 0 := by
  unfold chkE
  rw [if_neg h, if_neg h2, if_neg]
  intro hh
  obtain ⟨z, hz, hb⟩ := List.any_eq_true.1 hh
  obtain ⟨j, hj⟩ := List.mem_iff_getElem?.1 hz
  have := hn j (List.getElem?_eq_some_iff.1 hj).1 z hj
  unfold badc1 at this
  rw [this] at hb; cases hb
theorem tab_mul {a b : Int} (h : ¬ (a < 1 ∨ 8 < a ∨ b < 1 ∨ 8 < b)) : 1 ≤ a * b ∧ a * b ≤ 64 := by
  have h1 : 1 * 1 ≤ a * b := Int.mul_le_mul (by omega) (by omega) (by omega) (by omega)
  have h2 : a * b ≤ 8 * 8 := Int.mul_le_mul (by omega) (by omega) (by omega) (by omega)
  exact ⟨h1, h2⟩
set_option maxRecDepth 100000 in
set_option maxHeartbeats 4000000 in
theorem tcheck_calls (w : World) (x : Since w) (t : Tab) (a : Option Addr) (c : Nat) (h : IntRow w a t.l) (hl : t.l.length ≤ 9223372036854775807) :
    Calls Tryd.prog 36 #[.agg #[.int .i64 t.r, .int .i64 t.c, .slice a t.l.length c]] x.w fun o w' => o = .returned (.int .i64 (chkE t)) ∧ ∃ y : Since w, w' = y.w := by
  have H := Lib.hid h
  clear h
  generalize ha : a = a0 at *
  subst ha
  by_cases hr : t.r < 1 ∨ 8 < t.r ∨ t.c < 1 ∨ 8 < t.c
  · have Hr := Lib.hid (chk_range hr)
    rcases (by omega : t.r < 1 ∨ (¬ t.r < 1 ∧ 8 < t.r) ∨ (¬ t.r < 1 ∧ ¬ 8 < t.r ∧ t.c < 1) ∨ (¬ t.r < 1 ∧ ¬ 8 < t.r ∧ ¬ t.c < 1 ∧ 8 < t.c)) with h1 | ⟨h1, h2⟩ | ⟨h1, h2, h3⟩ | ⟨h1, h2, h3, h4⟩
    all_goals
      clear hr
      go_enter Tryd.func36, Tryd.ntmps36
      go_upto_region 1 with fail
      have hb0_0 : ∀ y : Since (x.w.alloc (.cells #[.int .i64 t.r, .int .i64 t.c, .slice a t.l.length c] 31)), y.w.cell? ⟨x.w.heap.size, 0, none⟩ = some (.int .i64 t.r) := fun y => Since.cell (by simp [go_sem]) (by first | (simp; done) | (simp; omega)) y
      have hb0_1 : ∀ y : Since (x.w.alloc (.cells #[.int .i64 t.r, .int .i64 t.c, .slice a t.l.length c] 31)), y.w.cell? ⟨x.w.heap.size, 1, none⟩ = some (.int .i64 t.c) := fun y => Since.cell (by simp [go_sem]) (by first | (simp; done) | (simp; omega)) y
      have hb0_2 : ∀ y : Since (x.w.alloc (.cells #[.int .i64 t.r, .int .i64 t.c, .slice a t.l.length c] 31)), y.w.cell? ⟨x.w.heap.size, 2, none⟩ = some (.slice a t.l.length c) := fun y => Since.cell (by simp [go_sem]) (by first | (simp; done) | (simp; omega)) y
      have hf0 : ∀ (y : Since (x.w.alloc (.cells #[.int .i64 t.r, .int .i64 t.c, .slice a t.l.length c] 31))) (o : Nat), y.w.frozen? ⟨x.w.heap.size, o, none⟩ = false := fun y o => Since.free (by simp [go_sem]) (by first | (simp; done) | (simp; omega)) y
      have hWup : ∃ z : Since w, (x.w.alloc (.cells #[.int .i64 t.r, .int .i64 t.c, .slice a t.l.length c] 31)) = z.w := x.alloc _
      obtain ⟨y0, hy0⟩ := Since.refl (x.w.alloc (.cells #[.int .i64 t.r, .int .i64 t.c, .slice a t.l.length c] 31))
      have Hbx := Lib.hid (And.intro x.b.size (show x.w.heap.size + 1 = (x.w.alloc (.cells #[.int .i64 t.r, .int .i64 t.c, .slice a t.l.length c] 31)).heap.size from by simp))
      generalize hW : (x.w.alloc (.cells #[.int .i64 t.r, .int .i64 t.c, .slice a t.l.length c] 31)) = W at *
      clear hW
      generalize x.w.heap.size = bx at *
      have Hup := Lib.hid (Since.up hWup)
      rw [hy0]
      clear hy0
      clear hWup
      go_wp2_with fail
      go_ret
      exact ⟨ret_int Hr.out.symm, Hup.out _⟩
  · have Hr := Lib.hid hr
    obtain ⟨m1, m2⟩ := tab_mul hr
    obtain ⟨r1, r2, r3, r4⟩ : ¬ t.r < 1 ∧ ¬ 8 < t.r ∧ ¬ t.c < 1 ∧ ¬ 8 < t.c := ⟨by omega, by omega, by omega, by omega⟩
    by_cases hn : (t.l.length : Int) ≠ t.r * t.c
    · have Hq := Lib.hid (chk_len Hr.out hn)
      have hb : ((t.l.length : Int) != t.r * t.c) = true := by simpa using hn
      clear hn hr
      go_enter Tryd.func36, Tryd.ntmps36
      go_upto_region 1 with fail
      have hb0_0 : ∀ y : Since (x.w.alloc (.cells #[.int .i64 t.r, .int .i64 t.c, .slice a t.l.length c] 31)), y.w.cell? ⟨x.w.heap.size, 0, none⟩ = some (.int .i64 t.r) := fun y => Since.cell (by simp [go_sem]) (by first | (simp; done) | (simp; omega)) y
      have hb0_1 : ∀ y : Since (x.w.alloc (.cells #[.int .i64 t.r, .int .i64 t.c, .slice a t.l.length c] 31)), y.w.cell? ⟨x.w.heap.size, 1, none⟩ = some (.int .i64 t.c) := fun y => Since.cell (by simp [go_sem]) (by first | (simp; done) | (simp; omega)) y
      have hb0_2 : ∀ y : Since (x.w.alloc (.cells #[.int .i64 t.r, .int .i64 t.c, .slice a t.l.length c] 31)), y.w.cell? ⟨x.w.heap.size, 2, none⟩ = some (.slice a t.l.length c) := fun y => Since.cell (by simp [go_sem]) (by first | (simp; done) | (simp; omega)) y
      have hf0 : ∀ (y : Since (x.w.alloc (.cells #[.int .i64 t.r, .int .i64 t.c, .slice a t.l.length c] 31))) (o : Nat), y.w.frozen? ⟨x.w.heap.size, o, none⟩ = false := fun y o => Since.free (by simp [go_sem]) (by first | (simp; done) | (simp; omega)) y
      have hWup : ∃ z : Since w, (x.w.alloc (.cells #[.int .i64 t.r, .int .i64 t.c, .slice a t.l.length c] 31)) = z.w := x.alloc _
      obtain ⟨y0, hy0⟩ := Since.refl (x.w.alloc (.cells #[.int .i64 t.r, .int .i64 t.c, .slice a t.l.length c] 31))
      have Hbx := Lib.hid (And.intro x.b.size (show x.w.heap.size + 1 = (x.w.alloc (.cells #[.int .i64 t.r, .int .i64 t.c, .slice a t.l.length c] 31)).heap.size from by simp))
      generalize hW : (x.w.alloc (.cells #[.int .i64 t.r, .int .i64 t.c, .slice a t.l.length c] 31)) = W at *
      clear hW
      generalize x.w.heap.size = bx at *
      have Hup := Lib.hid (Since.up hWup)
      rw [hy0]
      clear hy0
      clear hWup
      go_wp2_with fail
      go_ret
      exact ⟨ret_int Hq.out.symm, Hup.out _⟩
    · have Hn := Lib.hid hn
      have hb : ((t.l.length : Int) != t.r * t.c) = false := by simpa using hn
      have hl64 : t.l.length ≤ 64 := by omega
      clear hn hr
      go_enter Tryd.func36, Tryd.ntmps36
      go_upto_region 1 with fail
      have hb0_0 : ∀ y : Since (x.w.alloc (.cells #[.int .i64 t.r, .int .i64 t.c, .slice a t.l.length c] 31)), y.w.cell? ⟨x.w.heap.size, 0, none⟩ = some (.int .i64 t.r) := fun y => Since.cell (by simp [go_sem]) (by first | (simp; done) | (simp; omega)) y
      have hb0_1 : ∀ y : Since (x.w.alloc (.cells #[.int .i64 t.r, .int .i64 t.c, .slice a t.l.length c] 31)), y.w.cell? ⟨x.w.heap.size, 1, none⟩ = some (.int .i64 t.c) := fun y => Since.cell (by simp [go_sem]) (by first | (simp; done) | (simp; omega)) y
      have hb0_2 : ∀ y : Since (x.w.alloc (.cells #[.int .i64 t.r, .int .i64 t.c, .slice a t.l.length c] 31)), y.w.cell? ⟨x.w.heap.size, 2, none⟩ = some (.slice a t.l.length c) := fun y => Since.cell (by simp [go_sem]) (by first | (simp; done) | (simp; omega)) y
      have hf0 : ∀ (y : Since (x.w.alloc (.cells #[.int .i64 t.r, .int .i64 t.c, .slice a t.l.length c] 31))) (o : Nat), y.w.frozen? ⟨x.w.heap.size, o, none⟩ = false := fun y o => Since.free (by simp [go_sem]) (by first | (simp; done) | (simp; omega)) y
      have hWup : ∃ z : Since w, (x.w.alloc (.cells #[.int .i64 t.r, .int .i64 t.c, .slice a t.l.length c] 31)) = z.w := x.alloc _
      obtain ⟨y0, hy0⟩ := Since.refl (x.w.alloc (.cells #[.int .i64 t.r, .int .i64 t.c, .slice a t.l.length c] 31))
      have Hbx := Lib.hid (And.intro x.b.size (show x.w.heap.size + 1 = (x.w.alloc (.cells #[.int .i64 t.r, .int .i64 t.c, .slice a t.l.length c] 31)).heap.size from by simp))
      generalize hW : (x.w.alloc (.cells #[.int .i64 t.r, .int .i64 t.c, .slice a t.l.length c] 31)) = W at *
      clear hW
      generalize x.w.heap.size = bx at *
      have Hup := Lib.hid (Since.up hWup)
      rw [hy0]
      clear hy0
      replace H := Lib.hid (H.out.to hWup)
      clear hWup
      go_wp2_with fail
      go_loop [35] (fun i => ∃ k : Nat, k ≤ t.l.length ∧ i = .int .i64 k ∧ ∀ j, j < k → ∀ z, t.l[j]? = some z → badc1 z = false) (fun i => t.l.length - (intOf i).toNat)
      case atStart => exact ⟨0, by omega, rfl, fun j hj => by omega⟩
      case round =>
        obtain ⟨k, hk, rfl, hok⟩ := hrel
        have Hok := Lib.hid hok; clear hok
        by_cases hlt : k < t.l.length
        · obtain ⟨b, off, rfl, hbl, hc⟩ := Since.row H.out y0 k hlt
          change y0.w.cell? ⟨b, off + k, none⟩ = some (.int .i64 (at0 t.l k)) at hc
          have hk0 : (0 : Int) ≤ (k : Int) := by omega
          have hkl : (k : Int) < (t.l.length : Int) := by omega
          have Hx := Lib.hid (show t.l[k]? = some (at0 t.l k) by unfold at0; rw [List.getD_eq_getElem?_getD, List.getElem?_eq_getElem hlt]; rfl)
          generalize at0 t.l k = z at *
          clear hbl
          rcases (by omega : z < -1000000 ∨ (¬ z < -1000000 ∧ 1000000 < z) ∨ (¬ z < -1000000 ∧ ¬ 1000000 < z)) with h1 | ⟨h1, h2⟩ | ⟨h1, h2⟩
          · have Hq := Lib.hid (chk_cell Hr.out Hn.out Hx.out (by unfold badc1; rw [decide_eq_true h1]; rfl))
            go_wp2_with fail
            go_ret
            exact ⟨ret_int Hq.out.symm, Hup.out _⟩
          · have Hq := Lib.hid (chk_cell Hr.out Hn.out Hx.out (by unfold badc1; rw [decide_eq_true h2]; simp))
            go_wp2_with fail
            go_ret
            exact ⟨ret_int Hq.out.symm, Hup.out _⟩
          · have Hnx := Lib.hid (upto_next (P := fun z => badc1 z = false) Hok.out Hx.out (by unfold badc1; rw [decide_eq_false h1, decide_eq_false h2]; rfl))
            go_wp2_with fail
            go_round
            case rel => exact ⟨k + 1, by omega, by go_num, Hnx.out⟩
            case measure => simp [intOf] <;> omega
        · obtain rfl : k = t.l.length := by omega
          have Hq := Lib.hid (chk_ok Hr.out Hn.out Hok.out)
          go_wp2_with fail
          go_ret
          exact ⟨ret_int Hq.out.symm, Hup.out _⟩
end Go.Proofs.YtdkcclngionihaaDoor
/- Checks of tables, intervals of cells, walked. -/
namespace Go.Proofs.YtdkcclngionihaaDoor
open Go.RowKit

theorem sumF_mono {f : Nat → Int} (n : Nat) (h : ∀ i, i < n → 0 ≤ f i) : ∀ m, m ≤ n → 0 ≤ sumF f m ∧ sumF f m ≤ sumF f n := by
  induction n with
  | zero => intro m hm; obtain rfl : m = 0 := by omega
            exact ⟨Int.le_refl _, Int.le_refl _⟩
  | succ n ih =>
    intro m hm
    have h1 := h n (by omega)
    by_cases e : m = n + 1
    · subst e
      have := ih (fun i hi => h i (by omega)) n (Nat.le_refl _)
      simp only [sumF]
      exact ⟨by omega, Int.le_refl _⟩
    · have := ih (fun i hi => h i (by omega)) m (by omega)
      simp only [sumF]
      exact ⟨this.1, by omega⟩
theorem nat_in {k n : Nat} (h : k < n) : 0 ≤ (k : Int) ∧ (k : Int) < (n : Int) := ⟨Int.natCast_nonneg _, Int.ofNat_lt.2 h⟩
theorem SG.chk {R C : Nat} {l : List Int} (hG : SG R C l) : chkE ⟨R, C, l⟩ = 0 := by
  obtain ⟨r0, r1⟩ := hG.r
  obtain ⟨c0, c1⟩ := hG.c
  refine chk_ok (t := ⟨R, C, l⟩) (by show ¬ ((R : Int) < 1 ∨ 8 < (R : Int) ∨ (C : Int) < 1 ∨ 8 < (C : Int)); omega) ?_ (fun j hj z hz => ?_)
  · show ¬ (l.length : Int) ≠ (R : Int) * (C : Int)
    rw [hG.n]; simp
  · have hz' : l[j]? = some z := hz
    have he : at0 l j = z := by unfold at0; rw [List.getD_eq_getElem?_getD, hz']; rfl
    have := (hG.cell (i := j) hj).2.2
    rw [he] at this
    unfold badc1
    rw [decide_eq_false (by omega), decide_eq_false (by omega)]; rfl
theorem SG.net {R C : Nat} {l : List Int} (hG : SG R C l) (h : List Bool) (but : Nat) : NetGood (R + C) (netN R C l h but l.length) := by
  obtain ⟨r0, r1⟩ := hG.r
  obtain ⟨c0, c1⟩ := hG.c
  have h1 := hG.len
  have h2 := net_len (R := R) (C := C) (l := l) h but l.length
  refine ⟨by omega, by omega, by omega, hG.netOk h but, fun i hi => ?_⟩
  obtain ⟨_, _, _, d, e⟩ := net_mem hG h but l.length (Nat.le_refl _) _ (arcAt_mem hi)
  exact ⟨d, by rw [e]; decide, by rw [e]; decide⟩
theorem IsMost.pos {n : Nat} {l : List Arc} {s t v : Int} (h : NetOk n l) (hv : IsMost n l s t v) : 0 ≤ v := by
  obtain ⟨_, S, _, _, rfl⟩ := hv
  have := sumF_le (f := fun _ => 0) (g := fun i => if S (arcAt l i).u = true ∧ S (arcAt l i).v = false then (arcAt l i).cap else 0) l.length (fun i hi => by
    have := (h i hi).2.2
    show (0 : Int) ≤ _
    split <;> omega)
  rwa [sumF_zero] at this
set_option maxRecDepth 100000 in
set_option maxHeartbeats 4000000 in
theorem scheck_calls (w : World) (x : Since w) (R C : Nat) (l : List Int) (a : Option Addr) (c : Nat) (hL : IntRow w a l) (hG : SG R C l) :
    Calls Tryd.prog 46 #[.agg #[.int .i64 (R : Int), .int .i64 (C : Int), .slice a l.length c]] x.w fun o w' => o = .returned (.tuple #[.int .i64 0, .int .i64 0]) ∧ ∃ y : Since w, w' = y.w := by
  have HL := Lib.hid hL
  have HG := Lib.hid hG
  have hm1 := hG.len
  have HS := Lib.hid (sumF_mono l.length hG.z)
  have HS2 := Lib.hid hG.s
  have HC := Lib.hid hG.chk
  obtain ⟨m, hm⟩ : ∃ m, m = l.length := ⟨_, rfl⟩
  rw [← hm]
  rw [← hm] at hm1
  have Hm := Lib.hid hm
  clear hL hG hm
  go_enter Tryd.func46, Tryd.ntmps46
  go_upto_region 1 with fail
  have hb0_0 : ∀ y : Since (x.w.alloc (.cells #[.int .i64 (R : Int), .int .i64 (C : Int), .slice a m c] 31)), y.w.cell? ⟨x.w.heap.size, 0, none⟩ = some (.int .i64 (R : Int)) := fun y => Since.cell (by simp [go_sem]) (by first | (simp; done) | (simp; omega)) y
  have hb0_1 : ∀ y : Since (x.w.alloc (.cells #[.int .i64 (R : Int), .int .i64 (C : Int), .slice a m c] 31)), y.w.cell? ⟨x.w.heap.size, 1, none⟩ = some (.int .i64 (C : Int)) := fun y => Since.cell (by simp [go_sem]) (by first | (simp; done) | (simp; omega)) y
  have hb0_2 : ∀ y : Since (x.w.alloc (.cells #[.int .i64 (R : Int), .int .i64 (C : Int), .slice a m c] 31)), y.w.cell? ⟨x.w.heap.size, 2, none⟩ = some (.slice a m c) := fun y => Since.cell (by simp [go_sem]) (by first | (simp; done) | (simp; omega)) y
  have hf0 : ∀ (y : Since (x.w.alloc (.cells #[.int .i64 (R : Int), .int .i64 (C : Int), .slice a m c] 31))) (o : Nat), y.w.frozen? ⟨x.w.heap.size, o, none⟩ = false := fun y o => Since.free (by simp [go_sem]) (by first | (simp; done) | (simp; omega)) y
  have hWup : ∃ z : Since w, (x.w.alloc (.cells #[.int .i64 (R : Int), .int .i64 (C : Int), .slice a m c] 31)) = z.w := x.alloc _
  obtain ⟨y0, hy0⟩ := Since.refl (x.w.alloc (.cells #[.int .i64 (R : Int), .int .i64 (C : Int), .slice a m c] 31))
  have Hbx := Lib.hid (And.intro x.b.size (show x.w.heap.size + 1 = (x.w.alloc (.cells #[.int .i64 (R : Int), .int .i64 (C : Int), .slice a m c] 31)).heap.size from by simp))
  generalize hW : (x.w.alloc (.cells #[.int .i64 (R : Int), .int .i64 (C : Int), .slice a m c] 31)) = W at *
  clear hW
  generalize x.w.heap.size = bx at *
  have Hup := Lib.hid (Since.up hWup)
  rw [hy0]
  clear hy0
  replace HL := Lib.hid (HL.out.to hWup)
  clear hWup hf0
  have hE := tcheck_calls W y0 ⟨R, C, l⟩ a c HL.out (by show l.length ≤ _; rw [← Hm.out]; omega)
  rw [HC.out] at hE
  simp only [← Hm.out] at hE
  have HE := Lib.hid hE
  clear hE
  go_upto_region 4 with (go_at_call 36; (with_reducible refine HE.out.mono ?_); rintro _ _ ⟨rfl, y1, rfl⟩)
  clear HE
  go_upto_region 6 with fail
  go_loopw [5, 16] (fun v5 si wr => ∃ (k : Nat) (y : Since W), k ≤ m ∧ si = .int .i64 (k : Int) ∧ v5 = .int .i64 (sumF (at0 l) k) ∧ wr = y.w) (fun _ si _ => m - (intOf si).toNat)
  case atStart => exact ⟨0, y1, by omega, rfl, rfl, rfl⟩
  case round =>
    obtain ⟨k, y, hk, rfl, rfl, rfl⟩ := hrel
    obtain ⟨s0, s1⟩ := HS.out k (by rw [← Hm.out]; exact hk)
    have s2 := HS2.out
    by_cases hlt : k < m
    · have hk0 : (0 : Int) ≤ (k : Int) := by omega
      have hkl : (k : Int) < (m : Int) := by omega
      obtain ⟨b1, o1, rfl, hb1, hc1'⟩ := HL.out k (by have := Hm.out; omega)
      have f0 : y.w.cell? ⟨b1, o1 + k, none⟩ = some (.int .i64 (at0 l k)) := Since.cell hc1' hb1 y
      clear hb1 hc1'
      obtain ⟨_, _, z2, z3⟩ := HG.out.cell (i := k) (by have := Hm.out; omega)
      have Hn := Lib.hid (show sumF (at0 l) (k + 1) = sumF (at0 l) k + at0 l k from rfl)
      generalize sumF (at0 l) k = S at *
      generalize sumF (at0 l) l.length = S2 at *
      generalize at0 l k = e at *
      have ws : IntKind.i64.wrap (S + e) = S + e := IntWalk.i64_in _ (by omega)
      go_wp2_with fail
      go_roundw
      case rel => exact ⟨k + 1, y, by omega, by go_num, by rw [Hn.out], rfl⟩
      case measure => simp [intOf] <;> omega
    · obtain rfl : k = m := by omega
      generalize sumF (at0 l) k = S at *
      generalize sumF (at0 l) l.length = S2 at *
      have hs : ¬ (65536 : Int) < S := by omega
      go_wp2_with fail
      exact bodyPost_ret (v := .tuple #[.int .i64 0, .int .i64 0]) (by simp [results, Tryd.results46, go_sem]) rfl ⟨rfl, Hup.out _⟩
set_option linter.unusedSimpArgs false in
set_option maxRecDepth 100000 in
set_option maxHeartbeats 8000000 in
theorem interval_calls (w : World) (x : Since w) (R C : Nat) (l : List Int) (h : List Bool) (i : Nat) (a ah : Option Addr) (c ch : Nat) (hL : IntRow w a l) (hH : BlRow w ah h) (hG : SG R C l) (hh : h.length = l.length) (hi : i < l.length) :
    Calls Tryd.prog 47 #[.agg #[.int .i64 (R : Int), .int .i64 (C : Int), .slice a l.length c], .slice ah h.length ch, .int .i64 (i : Int)] x.w fun o w' => o = .returned (.agg #[.int .i64 (loV R C l h i), .int .i64 (hiV R C l h i)]) ∧ ∃ y : Since w, w' = y.w := by
  have HL := Lib.hid hL
  have HH := Lib.hid hH
  have HG := Lib.hid hG
  have hm1 := hG.len
  have HN := Lib.hid (network_calls · · R C l h i a ah c ch · · hG hh hi)
  have HNG := Lib.hid (hG.net h i)
  obtain ⟨hr0, hr1⟩ := hG.r
  obtain ⟨hc0, hc1⟩ := hG.c
  obtain ⟨z0, z1, z2, z3⟩ := hG.cell (i := i) hi
  have HB := Lib.hid (show bo h i = false → loV R C l h i = at0 l i ∧ hiV R C l h i = at0 l i from fun hb => by unfold loV hiV; rw [hb]; simp)
  have HY := Lib.hid (fun (g s : Int) (hg : IsMost (R + C) (netN R C l h i l.length) ((R + i % C : Nat) : Int) ((i / C : Nat) : Int) g) (hs : IsMost (R + C) (netN R C l h i l.length) ((i / C : Nat) : Int) ((R + i % C : Nat) : Int) s) (hb : bo h i = true) => show loV R C l h i = at0 l i - min (at0 l i) s ∧ hiV R C l h i = at0 l i + g from by
    unfold loV hiV gainV lossV
    rw [if_pos hb, if_pos hb, mostV_eq (hG.netOk h i) (nat_in (by omega)) hg, mostV_eq (hG.netOk h i) (nat_in (by omega)) hs]
    exact ⟨rfl, rfl⟩)
  generalize loV R C l h i = LO at *
  generalize hiV R C l h i = HI at *
  obtain ⟨m, hm⟩ : ∃ m, m = l.length := ⟨_, rfl⟩
  rw [hh, ← hm]
  have Hm := Lib.hid hm
  have Hh := Lib.hid hh
  have him : i < m := by omega
  have hm2 : m ≤ 64 := by omega
  obtain ⟨N, hN⟩ : ∃ N, N = netN R C l h i l.length := ⟨_, rfl⟩
  rw [← hN] at HN HNG HY
  rw [hh, ← hm] at HN
  clear hL hH hG hh hi hm hm1 hN
  go_enter Tryd.func47, Tryd.ntmps47
  go_upto_region 1 with fail
  have hb0_0 : ∀ y : Since ((x.w.alloc (.cells #[.int .i64 (R : Int), .int .i64 (C : Int), .slice a m c] 31)).alloc (.cells #[.int .i64 0, .int .i64 0] 56)), y.w.cell? ⟨x.w.heap.size, 0, none⟩ = some (.int .i64 (R : Int)) := fun y => Since.cell (by simp [go_sem]) (by first | (simp; done) | (simp; omega)) y
  have hb0_1 : ∀ y : Since ((x.w.alloc (.cells #[.int .i64 (R : Int), .int .i64 (C : Int), .slice a m c] 31)).alloc (.cells #[.int .i64 0, .int .i64 0] 56)), y.w.cell? ⟨x.w.heap.size, 1, none⟩ = some (.int .i64 (C : Int)) := fun y => Since.cell (by simp [go_sem]) (by first | (simp; done) | (simp; omega)) y
  have hb0_2 : ∀ y : Since ((x.w.alloc (.cells #[.int .i64 (R : Int), .int .i64 (C : Int), .slice a m c] 31)).alloc (.cells #[.int .i64 0, .int .i64 0] 56)), y.w.cell? ⟨x.w.heap.size, 2, none⟩ = some (.slice a m c) := fun y => Since.cell (by simp [go_sem]) (by first | (simp; done) | (simp; omega)) y
  have hf0 : ∀ (y : Since ((x.w.alloc (.cells #[.int .i64 (R : Int), .int .i64 (C : Int), .slice a m c] 31)).alloc (.cells #[.int .i64 0, .int .i64 0] 56))) (o : Nat), y.w.frozen? ⟨x.w.heap.size, o, none⟩ = false := fun y o => Since.free (by simp [go_sem]) (by first | (simp; done) | (simp; omega)) y
  have hb1_0 : ∀ y : Since ((x.w.alloc (.cells #[.int .i64 (R : Int), .int .i64 (C : Int), .slice a m c] 31)).alloc (.cells #[.int .i64 0, .int .i64 0] 56)), y.w.cell? ⟨x.w.heap.size + 1, 0, none⟩ = some (.int .i64 0) := fun y => Since.cell (by simp [go_sem]) (by first | (simp; done) | (simp; omega)) y
  have hb1_1 : ∀ y : Since ((x.w.alloc (.cells #[.int .i64 (R : Int), .int .i64 (C : Int), .slice a m c] 31)).alloc (.cells #[.int .i64 0, .int .i64 0] 56)), y.w.cell? ⟨x.w.heap.size + 1, 1, none⟩ = some (.int .i64 0) := fun y => Since.cell (by simp [go_sem]) (by first | (simp; done) | (simp; omega)) y
  have hf1 : ∀ (y : Since ((x.w.alloc (.cells #[.int .i64 (R : Int), .int .i64 (C : Int), .slice a m c] 31)).alloc (.cells #[.int .i64 0, .int .i64 0] 56))) (o : Nat), y.w.frozen? ⟨x.w.heap.size + 1, o, none⟩ = false := fun y o => Since.free (by simp [go_sem]) (by first | (simp; done) | (simp; omega)) y
  have hWup : ∃ z : Since w, ((x.w.alloc (.cells #[.int .i64 (R : Int), .int .i64 (C : Int), .slice a m c] 31)).alloc (.cells #[.int .i64 0, .int .i64 0] 56)) = z.w := Since.allocs x [.cells #[.int .i64 (R : Int), .int .i64 (C : Int), .slice a m c] 31, .cells #[.int .i64 0, .int .i64 0] 56]
  obtain ⟨y0, hy0⟩ := Since.refl ((x.w.alloc (.cells #[.int .i64 (R : Int), .int .i64 (C : Int), .slice a m c] 31)).alloc (.cells #[.int .i64 0, .int .i64 0] 56))
  have Hbx := Lib.hid (And.intro x.b.size (show x.w.heap.size + 2 = ((x.w.alloc (.cells #[.int .i64 (R : Int), .int .i64 (C : Int), .slice a m c] 31)).alloc (.cells #[.int .i64 0, .int .i64 0] 56)).heap.size from by simp))
  generalize hW : ((x.w.alloc (.cells #[.int .i64 (R : Int), .int .i64 (C : Int), .slice a m c] 31)).alloc (.cells #[.int .i64 0, .int .i64 0] 56)) = W at *
  clear hW
  generalize x.w.heap.size = bx at *
  have Hup := Lib.hid (Since.up hWup)
  rw [hy0]
  clear hy0
  replace HL := Lib.hid (HL.out.to hWup)
  replace HH := Lib.hid (HH.out.to hWup)
  clear hWup hf0
  have hi0 : (0 : Int) ≤ (i : Int) := by omega
  have hil : (i : Int) < (m : Int) := by omega
  obtain ⟨b1, o1, rfl, hb1, hc1'⟩ := HL.out i (by have := Hm.out; omega)
  have f0 : y0.w.cell? ⟨b1, o1 + i, none⟩ = some (.int .i64 (at0 l i)) := Since.cell hc1' hb1 y0
  obtain ⟨b2, o2, rfl, hb2, hc2'⟩ := HH.out i (by have := Hm.out; have := Hh.out; omega)
  have f1 : y0.w.cell? ⟨b2, o2 + i, none⟩ = some (.bool (bo h i)) := Since.cell hc2' hb2 y0
  clear hb1 hc1' hb2 hc2'
  cases hb : bo h i
  · rw [hb] at f1
    have HE := Lib.hid (HB.out hb)
    clear HB HY HN hb
    generalize at0 l i = e at *
    go_wp2_with fail
    have hsm : ∀ j, j < 2 → (y0.w.cell? ⟨bx + 1, j, none⟩).isSome = true := fun j hj => by
      match j, hj with
      | 0, _ => rw [hb1_0 y0]; rfl
      | 1, _ => rw [hb1_1 y0]; rfl
    obtain ⟨Z, hz, hc⟩ := set_many y0 (g := bx + 1) [.int .i64 e, .int .i64 e] hsm (Hup.out y0) (by have := Hbx.out; omega)
    simp only [World.setCells, Nat.reduceAdd] at hz
    rw [hz]
    have hc0 := hc 0 _ rfl
    have hc1 := hc 1 _ rfl
    exact bodyPost_ret (v := .agg #[.int .i64 e, .int .i64 e]) (by simp [results, Tryd.results47, go_sem, hc0, hc1]) rfl ⟨by rw [HE.out.1, HE.out.2], Z, rfl⟩
  · rw [hb] at f1
    have HY2 := Lib.hid (fun g s hg hs => HY.out g s hg hs hb)
    clear HB HY hb
    go_upto_region 4 with fail
    generalize he : at0 l i = e at *
    clear f0 f1 he
    have HN2 := Lib.hid (HN.out W y0 HL.out HH.out)
    clear HN
    go_upto_region 5 with (go_at_call 67; (with_reducible refine HN2.out.mono ?_); rintro _ _ ⟨an, cn, y1, rfl, rfl, hA⟩; have HA := Lib.hid hA; clear hA)
    have hx0 : (y1.w.alloc (.cells #[.int .i64 ((R : Int) + (C : Int)), .slice an N.length cn] 112)).cell? ⟨y1.w.heap.size, 0, none⟩ = some (.int .i64 ((R : Int) + (C : Int))) := by simp [go_sem]
    have hx1 : (y1.w.alloc (.cells #[.int .i64 ((R : Int) + (C : Int)), .slice an N.length cn] 112)).cell? ⟨y1.w.heap.size, 1, none⟩ = some (.slice an N.length cn) := by simp [go_sem]
    have hxf : ∀ o, (y1.w.alloc (.cells #[.int .i64 ((R : Int) + (C : Int)), .slice an N.length cn] 112)).frozen? ⟨y1.w.heap.size, o, none⟩ = false := fun o => by simp [go_sem]
    have hlt0 : y1.w.heap.size < (y1.w.alloc (.cells #[.int .i64 ((R : Int) + (C : Int)), .slice an N.length cn] 112)).heap.size := by simp
    have hst0 : ∃ zz : Since y1.w, (y1.w.alloc (.cells #[.int .i64 ((R : Int) + (C : Int)), .slice an N.length cn] 112)) = zz.w := IsSince.alloc (IsSince.self _) _
    have hsz0 := y1.b.size
    obtain ⟨y2, e2⟩ := IsSince.alloc (IsSince.of y1) (.cells #[.int .i64 ((R : Int) + (C : Int)), .slice an N.length cn] 112)
    rw [e2] at hx0 hx1 hxf hlt0 hst0 ⊢
    have hA2 := HA.out.to hst0
    clear e2 hst0
    generalize y1.w.heap.size = gn at *
    have Hhx0 : ∀ q : Since y2.w, q.w.cell? ⟨gn, 0, none⟩ = some (.int .i64 ((R : Int) + (C : Int))) := fun q => Since.cell hx0 (by omega) q
    have Hhx1 : ∀ q : Since y2.w, q.w.cell? ⟨gn, 1, none⟩ = some (.slice an N.length cn) := fun q => Since.cell hx1 (by omega) q
    have Hhxf : ∀ (q : Since y2.w) (o : Nat), q.w.frozen? ⟨gn, o, none⟩ = false := fun q o => Since.free (hxf o) (by omega) q
    have Hhxg := Lib.hid (And.intro hsz0 hlt0)
    clear hlt0 hsz0
    have HA2 := Lib.hid hA2
    clear hA2 HA HN2 hx0 hx1 hxf Hhxf Hhxg HL HH
    change Code.wp _ _ _ _ (Since.self y2.w).w
    replace hb0_0 := Since.cellTo ⟨y2, rfl⟩ hb0_0
    replace hb0_1 := Since.cellTo ⟨y2, rfl⟩ hb0_1
    have hCp : (0 : Int) < (C : Int) := by omega
    have wq := Lib.hid (wrap_quo z0 hr1)
    have wr := Lib.hid (wrap_rem z1 hr1 hc1)
    refine wp_region_since (by kernel_rfl) (by kernel_rfl) ?_
    repeat (go_big_quiet_step (fail))
    refine wpQuiet_nil ?_
    rintro _ ⟨z, rfl⟩
    (try simp only [wq.out, wr.out])
    have hqc : i / C < R + C := by omega
    have hrc : R + i % C < R + C := by omega
    have hqr : i / C ≠ R + i % C := by omega
    have HM1 := Lib.hid (fun z => most_calls y2.w z N (R + C) (R + i % C) (i / C) an cn HA2.out HNG.out hrc hqc hqr)
    have HM2 := Lib.hid (fun z => most_calls y2.w z N (R + C) (i / C) (R + i % C) an cn HA2.out HNG.out hqc hrc (Ne.symm hqr))
    rw [← Int.natCast_emod, ← Int.natCast_ediv, ← Int.natCast_add R (i % C)]
    generalize R + i % C = cl at *
    generalize i / C = q at *
    rw [Int.natCast_add] at HM1 HM2
    have HB1 := Lib.hid (fun (v : Int) (hv : IsMost (R + C) N (cl : Int) (q : Int) v) => show 0 ≤ v ∧ v ≤ 33554432 from ⟨hv.pos HNG.out.ok, by obtain ⟨f, hf⟩ := hv.1; exact hf.small HNG.out hrc hqr⟩)
    have HB2 := Lib.hid (fun (v : Int) (hv : IsMost (R + C) N (q : Int) (cl : Int) v) => show 0 ≤ v ∧ v ≤ 33554432 from ⟨hv.pos HNG.out.ok, by obtain ⟨f, hf⟩ := hv.1; exact hf.small HNG.out hqc (Ne.symm hqr)⟩)
    clear wq wr hCp
    go_upto_region 7 with (go_at_call 68; (with_reducible refine (HM1.out _).mono ?_); rintro _ _ ⟨g, ⟨rfl, hg⟩, z3', rfl⟩; have Hg := Lib.hid hg; have hg2 := HB1.out _ hg; clear hg)
    clear HM1 HB1
    go_upto_region 8 with (go_at_call 68; (with_reducible refine (HM2.out _).mono ?_); rintro _ _ ⟨s, ⟨rfl, hs⟩, z4, rfl⟩; have Hs := Lib.hid hs; have hs2 := HB2.out _ hs; clear hs)
    have HF := Lib.hid (HY2.out g s Hg.out Hs.out)
    clear HM2 HB2 HY2
    obtain ⟨z5, h5⟩ := y2.trans z4
    rw [h5]
    obtain ⟨mn, hmn⟩ : ∃ mn, mn = min e s := ⟨_, rfl⟩
    have hm0 : 0 ≤ mn ∧ mn ≤ 65536 := by rw [hmn]; omega
    have w1 : IntKind.i64.wrap (e - mn) = e - mn := IntWalk.i64_in _ (by omega)
    have w2 : IntKind.i64.wrap (e + g) = e + g := IntWalk.i64_in _ (by omega)
    rw [hmn] at w1
    go_wp2_with fail
    have hsm : ∀ j, j < 2 → (z5.w.cell? ⟨bx + 1, j, none⟩).isSome = true := fun j hj => by
      match j, hj with
      | 0, _ => rw [hb1_0 z5]; rfl
      | 1, _ => rw [hb1_1 z5]; rfl
    obtain ⟨Z, hz, hc⟩ := set_many z5 (g := bx + 1) [.int .i64 (e - min e s), .int .i64 (e + g)] hsm (Hup.out z5) (by have := Hbx.out; omega)
    simp only [World.setCells, Nat.reduceAdd] at hz
    rw [hz]
    have hc0 := hc 0 _ rfl
    have hc1 := hc 1 _ rfl
    exact bodyPost_ret (v := .agg #[.int .i64 (e - min e s), .int .i64 (e + g)]) (by simp [results, Tryd.results47, go_sem, hc0, hc1]) rfl ⟨by rw [HF.out.1, HF.out.2], Z, rfl⟩
end Go.Proofs.YtdkcclngionihaaDoor
/- The interval of a cell, the first unsafe cell, walked. -/
namespace Go.Proofs.YtdkcclngionihaaDoor
open Go.RowKit

theorem mostV_in {n : Nat} {l : List Arc} {s t : Nat} (hG : NetGood n l) (hs : s < n) (hst : t ≠ s) : 0 ≤ mostV n l (s : Int) (t : Int) ∧ mostV n l (s : Int) (t : Int) ≤ 33554432 := by
  by_cases h : ∃ v, IsMost n l (s : Int) (t : Int) v
  · obtain ⟨v, hv⟩ := h
    rw [mostV_eq hG.ok (nat_in hs) hv]
    obtain ⟨f, hf⟩ := hv.1
    exact ⟨hv.pos hG.ok, hf.small hG hs hst⟩
  · have : mostV n l (s : Int) (t : Int) = 0 := by unfold mostV; rw [dif_neg h]
    rw [this]; exact ⟨Int.le_refl _, by decide⟩
theorem SG.iv {R C : Nat} {l : List Int} (hG : SG R C l) (h : List Bool) {i : Nat} (hi : i < l.length) : 0 ≤ loV R C l h i ∧ loV R C l h i ≤ at0 l i ∧ at0 l i ≤ hiV R C l h i ∧ hiV R C l h i ≤ 33619968 := by
  obtain ⟨z0, z1, z2, z3⟩ := hG.cell (i := i) hi
  have hN := hG.net h i
  have h1 := mostV_in (s := R + i % C) (t := i / C) hN (by omega) (by omega)
  have h2 := mostV_in (s := i / C) (t := R + i % C) hN (by omega) (by omega)
  unfold loV hiV gainV lossV
  generalize mostV (R + C) (netN R C l h i l.length) ((R + i % C : Nat) : Int) ((i / C : Nat) : Int) = g at *
  generalize mostV (R + C) (netN R C l h i l.length) ((i / C : Nat) : Int) ((R + i % C : Nat) : Int) = s at *
  by_cases hb : bo h i = true
  · rw [if_pos hb, if_pos hb]; omega
  · rw [if_neg hb, if_neg hb]; omega
set_option linter.unusedSimpArgs false in
set_option maxRecDepth 100000 in
set_option maxHeartbeats 8000000 in
theorem srange_calls (w : World) (x : Since w) (R C : Nat) (l : List Int) (h : List Bool) (i : Nat) (a ah : Option Addr) (c ch : Nat) (hL : IntRow w a l) (hH : BlRow w ah h) (hG : SG R C l) (hh : h.length = l.length) (hi : i < l.length) :
    Calls Tryd.prog 22 #[.agg #[.int .i64 (R : Int), .int .i64 (C : Int), .slice a l.length c], .slice ah h.length ch, .int .i64 (i : Int)] x.w fun o w' => o = .returned (.tuple #[.agg #[.int .i64 (loV R C l h i), .int .i64 (hiV R C l h i)], .int .i64 0]) ∧ ∃ y : Since w, w' = y.w := by
  have HL := Lib.hid hL
  have HH := Lib.hid hH
  have HC := Lib.hid (fun (w : World) (x : Since w) hL => scheck_calls w x R C l a c hL hG)
  have HI := Lib.hid (fun (w : World) (x : Since w) hL hH => interval_calls w x R C l h i a ah c ch hL hH hG hh hi)
  generalize loV R C l h i = LO at *
  generalize hiV R C l h i = HI2 at *
  have hm1 := hG.len
  obtain ⟨m, hm⟩ : ∃ m, m = l.length := ⟨_, rfl⟩
  rw [hh, ← hm] at HI
  rw [← hm] at HC
  rw [hh, ← hm]
  have him : i < m := by omega
  clear hL hH hG hh hi hm hm1
  go_enter Tryd.func22, Tryd.ntmps22
  go_upto_region 1 with fail
  have hb0_0 : ∀ y : Since ((x.w.alloc (.cells #[.int .i64 (R : Int), .int .i64 (C : Int), .slice a m c] 31)).alloc (.cells #[.int .i64 0, .int .i64 0] 56)), y.w.cell? ⟨x.w.heap.size, 0, none⟩ = some (.int .i64 (R : Int)) := fun y => Since.cell (by simp [go_sem]) (by first | (simp; done) | (simp; omega)) y
  have hb0_1 : ∀ y : Since ((x.w.alloc (.cells #[.int .i64 (R : Int), .int .i64 (C : Int), .slice a m c] 31)).alloc (.cells #[.int .i64 0, .int .i64 0] 56)), y.w.cell? ⟨x.w.heap.size, 1, none⟩ = some (.int .i64 (C : Int)) := fun y => Since.cell (by simp [go_sem]) (by first | (simp; done) | (simp; omega)) y
  have hb0_2 : ∀ y : Since ((x.w.alloc (.cells #[.int .i64 (R : Int), .int .i64 (C : Int), .slice a m c] 31)).alloc (.cells #[.int .i64 0, .int .i64 0] 56)), y.w.cell? ⟨x.w.heap.size, 2, none⟩ = some (.slice a m c) := fun y => Since.cell (by simp [go_sem]) (by first | (simp; done) | (simp; omega)) y
  have hf0 : ∀ (y : Since ((x.w.alloc (.cells #[.int .i64 (R : Int), .int .i64 (C : Int), .slice a m c] 31)).alloc (.cells #[.int .i64 0, .int .i64 0] 56))) (o : Nat), y.w.frozen? ⟨x.w.heap.size, o, none⟩ = false := fun y o => Since.free (by simp [go_sem]) (by first | (simp; done) | (simp; omega)) y
  have hb1_0 : ∀ y : Since ((x.w.alloc (.cells #[.int .i64 (R : Int), .int .i64 (C : Int), .slice a m c] 31)).alloc (.cells #[.int .i64 0, .int .i64 0] 56)), y.w.cell? ⟨x.w.heap.size + 1, 0, none⟩ = some (.int .i64 0) := fun y => Since.cell (by simp [go_sem]) (by first | (simp; done) | (simp; omega)) y
  have hb1_1 : ∀ y : Since ((x.w.alloc (.cells #[.int .i64 (R : Int), .int .i64 (C : Int), .slice a m c] 31)).alloc (.cells #[.int .i64 0, .int .i64 0] 56)), y.w.cell? ⟨x.w.heap.size + 1, 1, none⟩ = some (.int .i64 0) := fun y => Since.cell (by simp [go_sem]) (by first | (simp; done) | (simp; omega)) y
  have hf1 : ∀ (y : Since ((x.w.alloc (.cells #[.int .i64 (R : Int), .int .i64 (C : Int), .slice a m c] 31)).alloc (.cells #[.int .i64 0, .int .i64 0] 56))) (o : Nat), y.w.frozen? ⟨x.w.heap.size + 1, o, none⟩ = false := fun y o => Since.free (by simp [go_sem]) (by first | (simp; done) | (simp; omega)) y
  have hWup : ∃ z : Since w, ((x.w.alloc (.cells #[.int .i64 (R : Int), .int .i64 (C : Int), .slice a m c] 31)).alloc (.cells #[.int .i64 0, .int .i64 0] 56)) = z.w := Since.allocs x [.cells #[.int .i64 (R : Int), .int .i64 (C : Int), .slice a m c] 31, .cells #[.int .i64 0, .int .i64 0] 56]
  obtain ⟨y0, hy0⟩ := Since.refl ((x.w.alloc (.cells #[.int .i64 (R : Int), .int .i64 (C : Int), .slice a m c] 31)).alloc (.cells #[.int .i64 0, .int .i64 0] 56))
  have Hbx := Lib.hid (And.intro x.b.size (show x.w.heap.size + 2 = ((x.w.alloc (.cells #[.int .i64 (R : Int), .int .i64 (C : Int), .slice a m c] 31)).alloc (.cells #[.int .i64 0, .int .i64 0] 56)).heap.size from by simp))
  generalize hW : ((x.w.alloc (.cells #[.int .i64 (R : Int), .int .i64 (C : Int), .slice a m c] 31)).alloc (.cells #[.int .i64 0, .int .i64 0] 56)) = W at *
  clear hW
  generalize x.w.heap.size = bx at *
  have Hup := Lib.hid (Since.up hWup)
  rw [hy0]
  clear hy0
  replace HL := Lib.hid (HL.out.to hWup)
  replace HH := Lib.hid (HH.out.to hWup)
  clear hWup hf0
  have hi0 : (0 : Int) ≤ (i : Int) := by omega
  have hil : (i : Int) < (m : Int) := by omega
  have H1 := Lib.hid (HC.out W y0 HL.out)
  have H2 := Lib.hid (fun z : Since W => HI.out W z HL.out HH.out)
  clear HC HI HL HH
  go_wp2_with (first | (go_at_call 46; ((with_reducible refine H1.out.mono ?_); rintro _ _ ⟨rfl, y1, rfl⟩)) | (go_at_call 47; ((with_reducible refine (H2.out _).mono ?_); rintro _ _ ⟨rfl, y2, rfl⟩)))
  have hsm : ∀ j, j < 2 → (y2.w.cell? ⟨bx + 1, j, none⟩).isSome = true := fun j hj => by
    match j, hj with
    | 0, _ => rw [hb1_0 y2]; rfl
    | 1, _ => rw [hb1_1 y2]; rfl
  obtain ⟨Z, hz, hc⟩ := set_many y2 (g := bx + 1) [.int .i64 LO, .int .i64 HI2] hsm (Hup.out y2) (by have := Hbx.out; omega)
  simp only [World.setCells, Nat.reduceAdd] at hz
  rw [hz]
  have hc0 := hc 0 _ rfl
  have hc1 := hc 1 _ rfl
  exact bodyPost_ret (v := .tuple #[.agg #[.int .i64 LO, .int .i64 HI2], .int .i64 0]) (by simp [results, Tryd.results22, go_sem, hc0, hc1]) rfl ⟨rfl, Z, rfl⟩
set_option linter.unusedSimpArgs false in
set_option maxRecDepth 100000 in
set_option maxHeartbeats 8000000 in
theorem unsafe_calls (w : World) (x : Since w) (R C : Nat) (l : List Int) (h : List Bool) (width : Int) (a ah : Option Addr) (c ch : Nat) (hL : IntRow w a l) (hH : BlRow w ah h) (hG : SG R C l) (hh : h.length = l.length) :
    Calls Tryd.prog 52 #[.agg #[.int .i64 (R : Int), .int .i64 (C : Int), .slice a l.length c], .slice ah h.length ch, .int .i64 width] x.w fun o w' => o = .returned (.int .i64 (orNeg (unsV R C l h width))) ∧ ∃ y : Since w, w' = y.w := by
  have HL := Lib.hid hL
  have HH := Lib.hid hH
  have hm1 := hG.len
  obtain ⟨m, hm⟩ : ∃ m, m = l.length := ⟨_, rfl⟩
  have HI := Lib.hid (fun (w : World) (x : Since w) hL hH (i : Nat) (hi : i < m) => interval_calls w x R C l h i a ah c ch hL hH hG hh (by omega))
  have HV := Lib.hid (fun (i : Nat) (hi : i < m) => hG.iv h (i := i) (by omega))
  have Hno := Lib.hid (fun (hn : ∀ j, j < m → narrow R C l h width j = false) => show orNeg (unsV R C l h width) = -1 from by unfold unsV; rw [fstP_none (by rw [hh, ← hm]; exact hn)]; rfl)
  have Hyes := Lib.hid (fun (k : Nat) (hk : k < m) (hp : narrow R C l h width k = true) (hn : ∀ j, j < k → narrow R C l h width j = false) => show orNeg (unsV R C l h width) = (k : Int) from by unfold unsV; rw [fstP_some (by rw [hh, ← hm]; exact hk) hp hn]; rfl)
  rw [hh, ← hm] at HI
  rw [hh, ← hm]
  have Hm := Lib.hid hm
  have Hh := Lib.hid hh
  generalize orNeg (unsV R C l h width) = U at *
  have hm64 : m ≤ 64 := by omega
  clear hL hH hG hh hm hm1
  go_enter Tryd.func52, Tryd.ntmps52
  go_upto_region 1 with fail
  have hb0_0 : ∀ y : Since (x.w.alloc (.cells #[.int .i64 (R : Int), .int .i64 (C : Int), .slice a m c] 31)), y.w.cell? ⟨x.w.heap.size, 0, none⟩ = some (.int .i64 (R : Int)) := fun y => Since.cell (by simp [go_sem]) (by first | (simp; done) | (simp; omega)) y
  have hb0_1 : ∀ y : Since (x.w.alloc (.cells #[.int .i64 (R : Int), .int .i64 (C : Int), .slice a m c] 31)), y.w.cell? ⟨x.w.heap.size, 1, none⟩ = some (.int .i64 (C : Int)) := fun y => Since.cell (by simp [go_sem]) (by first | (simp; done) | (simp; omega)) y
  have hb0_2 : ∀ y : Since (x.w.alloc (.cells #[.int .i64 (R : Int), .int .i64 (C : Int), .slice a m c] 31)), y.w.cell? ⟨x.w.heap.size, 2, none⟩ = some (.slice a m c) := fun y => Since.cell (by simp [go_sem]) (by first | (simp; done) | (simp; omega)) y
  have hf0 : ∀ (y : Since (x.w.alloc (.cells #[.int .i64 (R : Int), .int .i64 (C : Int), .slice a m c] 31))) (o : Nat), y.w.frozen? ⟨x.w.heap.size, o, none⟩ = false := fun y o => Since.free (by simp [go_sem]) (by first | (simp; done) | (simp; omega)) y
  have hWup : ∃ z : Since w, (x.w.alloc (.cells #[.int .i64 (R : Int), .int .i64 (C : Int), .slice a m c] 31)) = z.w := x.alloc _
  obtain ⟨y0, hy0⟩ := Since.refl (x.w.alloc (.cells #[.int .i64 (R : Int), .int .i64 (C : Int), .slice a m c] 31))
  have Hbx := Lib.hid (And.intro x.b.size (show x.w.heap.size + 1 = (x.w.alloc (.cells #[.int .i64 (R : Int), .int .i64 (C : Int), .slice a m c] 31)).heap.size from by simp))
  generalize hW : (x.w.alloc (.cells #[.int .i64 (R : Int), .int .i64 (C : Int), .slice a m c] 31)) = W at *
  clear hW
  generalize x.w.heap.size = bx at *
  have Hup := Lib.hid (Since.up hWup)
  rw [hy0]
  clear hy0
  replace HL := Lib.hid (HL.out.to hWup)
  replace HH := Lib.hid (HH.out.to hWup)
  clear hWup hf0
  go_upto_region 2 with fail
  go_loopw [11] (fun si wr => ∃ (k : Nat) (y : Since W), k ≤ m ∧ si = .int .i64 (k : Int) ∧ wr = y.w ∧ ∀ j, j < k → narrow R C l h width j = false) (fun si _ => m - (intOf si).toNat)
  case atStart => exact ⟨0, y0, by omega, rfl, rfl, fun j hj => by omega⟩
  case round =>
    obtain ⟨k, y, hk, rfl, rfl, hn⟩ := hrel
    have Hn := Lib.hid hn
    clear hn
    by_cases hlt : k < m
    · have hk0 : (0 : Int) ≤ (k : Int) := by omega
      have hkl : (k : Int) < (m : Int) := by omega
      obtain ⟨b2, o2, rfl, hb2, hc2'⟩ := HH.out k (by have := Hm.out; have := Hh.out; omega)
      have f1 : ∀ q : Since W, q.w.cell? ⟨b2, o2 + k, none⟩ = some (.bool (bo h k)) := fun q => Since.cell hc2' hb2 q
      clear hb2 hc2'
      have H2 := Lib.hid (HI.out W y HL.out HH.out k hlt)
      obtain ⟨v0, v1, v2, v3⟩ := HV.out k hlt
      have HNar := Lib.hid (show narrow R C l h width k = (bo h k && decide (hiV R C l h k - loV R C l h k < width)) from rfl)
      generalize loV R C l h k = LO at *
      generalize hiV R C l h k = HI2 at *
      generalize at0 l k = e at *
      go_upto_region 5 with (go_at_call 47; ((with_reducible refine H2.out.mono ?_); rintro _ _ ⟨rfl, y1, rfl⟩))
      clear H2
      have hx0 : (y1.w.alloc (.cells #[.int .i64 LO, .int .i64 HI2] 56)).cell? ⟨y1.w.heap.size, 0, none⟩ = some (.int .i64 LO) := by simp [go_sem]
      have hx1 : (y1.w.alloc (.cells #[.int .i64 LO, .int .i64 HI2] 56)).cell? ⟨y1.w.heap.size, 1, none⟩ = some (.int .i64 HI2) := by simp [go_sem]
      have hxf : ∀ o, (y1.w.alloc (.cells #[.int .i64 LO, .int .i64 HI2] 56)).frozen? ⟨y1.w.heap.size, o, none⟩ = false := fun o => by simp [go_sem]
      have hlt0 : y1.w.heap.size < (y1.w.alloc (.cells #[.int .i64 LO, .int .i64 HI2] 56)).heap.size := by simp
      have hst0 : ∃ zz : Since y1.w, (y1.w.alloc (.cells #[.int .i64 LO, .int .i64 HI2] 56)) = zz.w := IsSince.alloc (IsSince.self _) _
      have hsz0 := y1.b.size
      obtain ⟨y2, e2⟩ := IsSince.alloc (IsSince.of y1) (.cells #[.int .i64 LO, .int .i64 HI2] 56)
      rw [e2] at hx0 hx1 hxf hlt0 hst0 ⊢
      skip
      clear e2 hst0
      generalize y1.w.heap.size = gz at *
      have Hhx0 : ∀ q : Since y2.w, q.w.cell? ⟨gz, 0, none⟩ = some (.int .i64 LO) := fun q => Since.cell hx0 (by omega) q
      have Hhx1 : ∀ q : Since y2.w, q.w.cell? ⟨gz, 1, none⟩ = some (.int .i64 HI2) := fun q => Since.cell hx1 (by omega) q
      have Hhxf : ∀ (q : Since y2.w) (o : Nat), q.w.frozen? ⟨gz, o, none⟩ = false := fun q o => Since.free (hxf o) (by omega) q
      have Hhxg := Lib.hid (And.intro hsz0 hlt0)
      clear hlt0 hsz0
      clear hx0 hx1 hxf Hhxf Hhxg
      obtain ⟨q0, hq0⟩ := Since.refl y2.w
      rw [hq0]
      clear hq0
      replace f1 := Since.cellTo ⟨y2, rfl⟩ f1
      cases hb : bo h k
      · rw [hb] at f1 HNar
        have Hstep := Lib.hid (fun j (hj : j < k + 1) => show narrow R C l h width j = false from by
          by_cases e : j = k
          · subst e; exact HNar.out
          · exact Hn.out j (by omega))
        have HQ := Lib.hid (show ∃ y3 : Since W, q0.w = y3.w from y2.trans q0)
        go_wp2_with fail
        obtain ⟨y3, h3⟩ := HQ.out
        rw [h3]
        go_roundw
        case rel => exact ⟨k + 1, y3, by omega, by go_num, rfl, Hstep.out⟩
        case measure => simp [intOf] <;> omega
      · rw [hb, Bool.true_and] at HNar
        rw [hb] at f1
        have ws : IntKind.i64.wrap (HI2 - LO) = HI2 - LO := IntWalk.i64_in _ (by omega)
        by_cases hw : HI2 - LO < width
        · have HU := Lib.hid (Hyes.out k hlt (HNar.out.trans (decide_eq_true hw)) Hn.out)
          have HQ := Lib.hid (show ∃ y3 : Since w, q0.w = y3.w from by obtain ⟨y3, h3⟩ := y2.trans q0; rw [h3]; exact Hup.out y3)
          clear Hyes Hno
          go_wp2_with fail
          go_ret
          exact ⟨ret_int HU.out.symm, HQ.out⟩
        · have Hstep := Lib.hid (fun j (hj : j < k + 1) => show narrow R C l h width j = false from by
            by_cases e : j = k
            · subst e; exact HNar.out.trans (decide_eq_false hw)
            · exact Hn.out j (by omega))
          have HQ := Lib.hid (show ∃ y3 : Since W, q0.w = y3.w from y2.trans q0)
          clear Hyes Hno
          go_wp2_with fail
          obtain ⟨y3, h3⟩ := HQ.out
          rw [h3]
          go_roundw
          case rel => exact ⟨k + 1, y3, by omega, by go_num, rfl, Hstep.out⟩
          case measure => simp [intOf] <;> omega
    · obtain rfl : k = m := by omega
      have HU := Lib.hid (Hno.out Hn.out)
      clear Hyes Hno
      go_wp2_with fail
      go_ret
      exact ⟨ret_int HU.out.symm, Hup.out y⟩
end Go.Proofs.YtdkcclngionihaaDoor
/- The cell that is hidden next, walked. Written by mknext.py. -/
namespace Go.Proofs.YtdkcclngionihaaDoor
open Go.RowKit

/-- the three kinds of cells -/
def fitV (C i : Nat) : Nat → Nat → Bool
  | 0, k => decide (k / C = i / C)
  | 1, k => decide (k % C = i % C)
  | _, _ => true
theorem fitV0 (C i k : Nat) : ((k : Int) / (C : Int) == (i : Int) / (C : Int)) = fitV C i 0 k := by
  rw [← Int.natCast_ediv, ← Int.natCast_ediv]
  show _ = decide (k / C = i / C)
  by_cases h : k / C = i / C
  · rw [h, decide_eq_true rfl]; exact beq_self_eq_true _
  · rw [decide_eq_false h, beq_eq_false_iff_ne]; omega
theorem fitV1 (C i k : Nat) : ((k : Int) % (C : Int) == (i : Int) % (C : Int)) = fitV C i 1 k := by
  rw [← Int.natCast_emod, ← Int.natCast_emod]
  show _ = decide (k % C = i % C)
  by_cases h : k % C = i % C
  · rw [h, decide_eq_true rfl]; exact beq_self_eq_true _
  · rw [decide_eq_false h, beq_eq_false_iff_ne]; omega
theorem nextV_eq {C i m : Nat} {h : List Bool} (hm : h.length = m) : nextV C h i = ((fstP (fun k => !bo h k && fitV C i 0 k) m).or (fstP (fun k => !bo h k && fitV C i 1 k) m)).or (fstP (fun k => !bo h k && fitV C i 2 k) m) := by
  subst hm
  have : (fun k => !bo h k && fitV C i 2 k) = (fun k => !bo h k) := funext fun k => Bool.and_true _
  rw [this]; rfl
theorem next_yes {C i m : Nat} {h : List Bool} (hm : h.length = m) {j k : Nat} (hj : j < 3) (hl : ∀ j', j' < j → ∀ q, q < m → (!bo h q && fitV C i j' q) = false) (hk : k < m) (hp : (!bo h k && fitV C i j k) = true) (hn : ∀ q, q < k → (!bo h q && fitV C i j q) = false) : orNeg (nextV C h i) = (k : Int) := by
  rw [nextV_eq hm]
  obtain rfl | rfl | rfl : j = 0 ∨ j = 1 ∨ j = 2 := by omega
  · rw [fstP_some hk hp hn]; rfl
  · rw [fstP_none (hl 0 (by omega)), fstP_some hk hp hn]; rfl
  · rw [fstP_none (hl 0 (by omega)), fstP_none (hl 1 (by omega)), fstP_some hk hp hn]; rfl
theorem next_no {C i m : Nat} {h : List Bool} (hm : h.length = m) (hl : ∀ j', j' < 3 → ∀ q, q < m → (!bo h q && fitV C i j' q) = false) : orNeg (nextV C h i) = -1 := by
  rw [nextV_eq hm, fstP_none (hl 0 (by omega)), fstP_none (hl 1 (by omega)), fstP_none (hl 2 (by omega))]; rfl
set_option maxRecDepth 100000 in
set_option maxHeartbeats 4000000 in
theorem next0_calls (w : World) (x : Since w) (R C i k bt bi : Nat) (hR : R ≤ 8) (hC : 0 < C ∧ C ≤ 8) (hi : i / C < R) (hk : k / C < R) (h1 : ∀ q : Since w, q.w.cell? ⟨bt, 1, none⟩ = some (.int .i64 (C : Int))) (h2 : ∀ q : Since w, q.w.cell? ⟨bi, 0, none⟩ = some (.int .i64 (i : Int))) :
    Calls Tryd.prog 75 #[.int .i64 (k : Int), .pointer (some ⟨bt, 0, none⟩), .pointer (some ⟨bi, 0, none⟩)] x.w fun o w' => o = .returned (.bool (fitV C i 0 k)) ∧ ∃ y : Since w, w' = y.w := by
  have wq := Lib.hid (wrap_quo hk hR)
  have wi := Lib.hid (wrap_quo hi hR)
  have HV := Lib.hid (fitV0 C i k)
  have hC0 : (0 : Int) < (C : Int) := by omega
  generalize fitV C i 0 k = V at *
  clear hi hk
  go_enter Tryd.func75, Tryd.ntmps75
  go_upto_region 1 with fail
  refine wp_region_since (by kernel_rfl) (by kernel_rfl) ?_
  repeat (go_big_quiet_step (fail))
  refine wpQuiet_nil ?_
  rintro _ ⟨y, rfl⟩
  (try simp only [wq.out, wi.out, HV.out])
  go_wp2_with fail
  go_ret
  exact ⟨rfl, y, rfl⟩
set_option maxRecDepth 100000 in
set_option maxHeartbeats 4000000 in
theorem next1_calls (w : World) (x : Since w) (R C i k bt bi : Nat) (_hR : R ≤ 8) (hC : 0 < C ∧ C ≤ 8) (hi : i / C < R) (hk : k / C < R) (h1 : ∀ q : Since w, q.w.cell? ⟨bt, 1, none⟩ = some (.int .i64 (C : Int))) (h2 : ∀ q : Since w, q.w.cell? ⟨bi, 0, none⟩ = some (.int .i64 (i : Int))) :
    Calls Tryd.prog 76 #[.int .i64 (k : Int), .pointer (some ⟨bt, 0, none⟩), .pointer (some ⟨bi, 0, none⟩)] x.w fun o w' => o = .returned (.bool (fitV C i 1 k)) ∧ ∃ y : Since w, w' = y.w := by
  have HV := Lib.hid (fitV1 C i k)
  have hC0 : (0 : Int) < (C : Int) := by omega
  generalize fitV C i 1 k = V at *
  clear hi hk
  go_enter Tryd.func76, Tryd.ntmps76
  go_upto_region 1 with fail
  refine wp_region_since (by kernel_rfl) (by kernel_rfl) ?_
  repeat (go_big_quiet_step (fail))
  refine wpQuiet_nil ?_
  rintro _ ⟨y, rfl⟩
  (try simp only [HV.out])
  go_wp2_with fail
  go_ret
  exact ⟨rfl, y, rfl⟩
set_option maxRecDepth 100000 in
set_option maxHeartbeats 4000000 in
theorem next2_calls (w : World) (x : Since w) (C i k : Nat) :
    Calls Tryd.prog 77 #[.int .i64 (k : Int)] x.w fun o w' => o = .returned (.bool (fitV C i 2 k)) ∧ ∃ y : Since w, w' = y.w := by
  go_enter Tryd.func77, Tryd.ntmps77
  go_wp2_with fail
  go_ret
  exact ⟨rfl, x, rfl⟩
set_option linter.unusedSimpArgs false in
set_option maxRecDepth 100000 in
set_option maxHeartbeats 8000000 in
theorem next_calls (w : World) (x : Since w) (R C i m : Nat) (h : List Bool) (a ah : Option Addr) (c ch : Nat) (hH : BlRow w ah h) (hh : h.length = m) (hR : R ≤ 8) (hC : 0 < C ∧ C ≤ 8) (hm : ∀ k, k < m → k / C < R) (hm64 : m ≤ 64) (hi : i < m) :
    Calls Tryd.prog 53 #[.agg #[.int .i64 (R : Int), .int .i64 (C : Int), .slice a m c], .slice ah h.length ch, .int .i64 (i : Int)] x.w fun o w' => o = .returned (.int .i64 (orNeg (nextV C h i))) ∧ ∃ y : Since w, w' = y.w := by
  have HH := Lib.hid hH
  have Hyes := Lib.hid (fun j k => next_yes (C := C) (i := i) hh (j := j) (k := k))
  have Hno := Lib.hid (next_no (C := C) (i := i) hh)
  have Hm := Lib.hid hm
  have Hi := Lib.hid (hm i hi)
  have Hh := Lib.hid hh
  have HfV := Lib.hid (show ∀ q, fitV C i 2 q = true from fun q => rfl)
  generalize orNeg (nextV C h i) = U at *
  rw [hh]
  clear hH hh hm hi
  go_enter Tryd.func53, Tryd.ntmps53
  go_upto_region 1 with fail
  have hb0_0 : ∀ y : Since ((x.w.alloc (.cells #[.int .i64 (R : Int), .int .i64 (C : Int), .slice a m c] 31)).alloc (.cells #[.int .i64 (i : Int)] 3)), y.w.cell? ⟨x.w.heap.size, 0, none⟩ = some (.int .i64 (R : Int)) := fun y => Since.cell (by simp [go_sem]) (by first | (simp; done) | (simp; omega)) y
  have hb0_1 : ∀ y : Since ((x.w.alloc (.cells #[.int .i64 (R : Int), .int .i64 (C : Int), .slice a m c] 31)).alloc (.cells #[.int .i64 (i : Int)] 3)), y.w.cell? ⟨x.w.heap.size, 1, none⟩ = some (.int .i64 (C : Int)) := fun y => Since.cell (by simp [go_sem]) (by first | (simp; done) | (simp; omega)) y
  have hb0_2 : ∀ y : Since ((x.w.alloc (.cells #[.int .i64 (R : Int), .int .i64 (C : Int), .slice a m c] 31)).alloc (.cells #[.int .i64 (i : Int)] 3)), y.w.cell? ⟨x.w.heap.size, 2, none⟩ = some (.slice a m c) := fun y => Since.cell (by simp [go_sem]) (by first | (simp; done) | (simp; omega)) y
  have hf0 : ∀ (y : Since ((x.w.alloc (.cells #[.int .i64 (R : Int), .int .i64 (C : Int), .slice a m c] 31)).alloc (.cells #[.int .i64 (i : Int)] 3))) (o : Nat), y.w.frozen? ⟨x.w.heap.size, o, none⟩ = false := fun y o => Since.free (by simp [go_sem]) (by first | (simp; done) | (simp; omega)) y
  have hb1_0 : ∀ y : Since ((x.w.alloc (.cells #[.int .i64 (R : Int), .int .i64 (C : Int), .slice a m c] 31)).alloc (.cells #[.int .i64 (i : Int)] 3)), y.w.cell? ⟨x.w.heap.size + 1, 0, none⟩ = some (.int .i64 (i : Int)) := fun y => Since.cell (by simp [go_sem]) (by first | (simp; done) | (simp; omega)) y
  have hf1 : ∀ (y : Since ((x.w.alloc (.cells #[.int .i64 (R : Int), .int .i64 (C : Int), .slice a m c] 31)).alloc (.cells #[.int .i64 (i : Int)] 3))) (o : Nat), y.w.frozen? ⟨x.w.heap.size + 1, o, none⟩ = false := fun y o => Since.free (by simp [go_sem]) (by first | (simp; done) | (simp; omega)) y
  have hWup : ∃ z : Since w, ((x.w.alloc (.cells #[.int .i64 (R : Int), .int .i64 (C : Int), .slice a m c] 31)).alloc (.cells #[.int .i64 (i : Int)] 3)) = z.w := Since.allocs x [.cells #[.int .i64 (R : Int), .int .i64 (C : Int), .slice a m c] 31, .cells #[.int .i64 (i : Int)] 3]
  obtain ⟨y0, hy0⟩ := Since.refl ((x.w.alloc (.cells #[.int .i64 (R : Int), .int .i64 (C : Int), .slice a m c] 31)).alloc (.cells #[.int .i64 (i : Int)] 3))
  have Hbx := Lib.hid (And.intro x.b.size (show x.w.heap.size + 2 = ((x.w.alloc (.cells #[.int .i64 (R : Int), .int .i64 (C : Int), .slice a m c] 31)).alloc (.cells #[.int .i64 (i : Int)] 3)).heap.size from by simp))
  generalize hW : ((x.w.alloc (.cells #[.int .i64 (R : Int), .int .i64 (C : Int), .slice a m c] 31)).alloc (.cells #[.int .i64 (i : Int)] 3)) = W at *
  clear hW
  generalize x.w.heap.size = bx at *
  have Hup := Lib.hid (Since.up hWup)
  rw [hy0]
  clear hy0
  replace HH := Lib.hid (HH.out.to hWup)
  clear hWup
  go_upto_region 2 with fail
  have hx0 : (y0.w.alloc (.cells #[.func (.func 75) #[] #[.pointer (some ⟨bx, 0, none⟩), .pointer (some ⟨bx + 1, 0, none⟩)], .func (.func 76) #[] #[.pointer (some ⟨bx, 0, none⟩), .pointer (some ⟨bx + 1, 0, none⟩)], .func (.func 77) #[] #[]] 118)).cell? ⟨y0.w.heap.size, 0, none⟩ = some (.func (.func 75) #[] #[.pointer (some ⟨bx, 0, none⟩), .pointer (some ⟨bx + 1, 0, none⟩)]) := by simp [go_sem]
  have hx1 : (y0.w.alloc (.cells #[.func (.func 75) #[] #[.pointer (some ⟨bx, 0, none⟩), .pointer (some ⟨bx + 1, 0, none⟩)], .func (.func 76) #[] #[.pointer (some ⟨bx, 0, none⟩), .pointer (some ⟨bx + 1, 0, none⟩)], .func (.func 77) #[] #[]] 118)).cell? ⟨y0.w.heap.size, 1, none⟩ = some (.func (.func 76) #[] #[.pointer (some ⟨bx, 0, none⟩), .pointer (some ⟨bx + 1, 0, none⟩)]) := by simp [go_sem]
  have hx2 : (y0.w.alloc (.cells #[.func (.func 75) #[] #[.pointer (some ⟨bx, 0, none⟩), .pointer (some ⟨bx + 1, 0, none⟩)], .func (.func 76) #[] #[.pointer (some ⟨bx, 0, none⟩), .pointer (some ⟨bx + 1, 0, none⟩)], .func (.func 77) #[] #[]] 118)).cell? ⟨y0.w.heap.size, 2, none⟩ = some (.func (.func 77) #[] #[]) := by simp [go_sem]
  have hxf : ∀ o, (y0.w.alloc (.cells #[.func (.func 75) #[] #[.pointer (some ⟨bx, 0, none⟩), .pointer (some ⟨bx + 1, 0, none⟩)], .func (.func 76) #[] #[.pointer (some ⟨bx, 0, none⟩), .pointer (some ⟨bx + 1, 0, none⟩)], .func (.func 77) #[] #[]] 118)).frozen? ⟨y0.w.heap.size, o, none⟩ = false := fun o => by simp [go_sem]
  have hlt0 : y0.w.heap.size < (y0.w.alloc (.cells #[.func (.func 75) #[] #[.pointer (some ⟨bx, 0, none⟩), .pointer (some ⟨bx + 1, 0, none⟩)], .func (.func 76) #[] #[.pointer (some ⟨bx, 0, none⟩), .pointer (some ⟨bx + 1, 0, none⟩)], .func (.func 77) #[] #[]] 118)).heap.size := by simp
  have hst0 : ∃ zz : Since y0.w, (y0.w.alloc (.cells #[.func (.func 75) #[] #[.pointer (some ⟨bx, 0, none⟩), .pointer (some ⟨bx + 1, 0, none⟩)], .func (.func 76) #[] #[.pointer (some ⟨bx, 0, none⟩), .pointer (some ⟨bx + 1, 0, none⟩)], .func (.func 77) #[] #[]] 118)) = zz.w := IsSince.alloc (IsSince.self _) _
  have hsz0 := y0.b.size
  obtain ⟨y1, e2⟩ := IsSince.alloc (IsSince.of y0) (.cells #[.func (.func 75) #[] #[.pointer (some ⟨bx, 0, none⟩), .pointer (some ⟨bx + 1, 0, none⟩)], .func (.func 76) #[] #[.pointer (some ⟨bx, 0, none⟩), .pointer (some ⟨bx + 1, 0, none⟩)], .func (.func 77) #[] #[]] 118)
  rw [e2] at hx0 hx1 hx2 hxf hlt0 hst0 ⊢
  skip
  clear e2 hst0
  generalize y0.w.heap.size = gs at *
  have Hhx0 : ∀ q : Since y1.w, q.w.cell? ⟨gs, 0, none⟩ = some (.func (.func 75) #[] #[.pointer (some ⟨bx, 0, none⟩), .pointer (some ⟨bx + 1, 0, none⟩)]) := fun q => Since.cell hx0 (by omega) q
  have Hhx1 : ∀ q : Since y1.w, q.w.cell? ⟨gs, 1, none⟩ = some (.func (.func 76) #[] #[.pointer (some ⟨bx, 0, none⟩), .pointer (some ⟨bx + 1, 0, none⟩)]) := fun q => Since.cell hx1 (by omega) q
  have Hhx2 : ∀ q : Since y1.w, q.w.cell? ⟨gs, 2, none⟩ = some (.func (.func 77) #[] #[]) := fun q => Since.cell hx2 (by omega) q
  have Hhxf : ∀ (q : Since y1.w) (o : Nat), q.w.frozen? ⟨gs, o, none⟩ = false := fun q o => Since.free (hxf o) (by omega) q
  have Hhxg := Lib.hid (And.intro hsz0 hlt0)
  clear hlt0 hsz0
  have Hz1 := Lib.hid (fun q : Since y1.w => show ∃ z : Since w, q.w = z.w from by obtain ⟨z2, h2⟩ := y1.trans q; rw [h2]; exact Hup.out z2)
  go_loopw [14] (fun si wr => ∃ (j : Nat) (y : Since y1.w), j ≤ 3 ∧ si = .int .i64 (j : Int) ∧ wr = y.w ∧ ∀ j', j' < j → ∀ q, q < m → (!bo h q && fitV C i j' q) = false) (fun si _ => 3 - (intOf si).toNat)
  case atStart => exact ⟨0, Since.self _, by omega, rfl, rfl, fun j hj => by omega⟩
  case round =>
    obtain ⟨j, y, hj, rfl, rfl, hl⟩ := hrel
    have Hl := Lib.hid hl
    clear hl
    by_cases hlt : j < 3
    · have Hy2 := Lib.hid (Hyes.out j)
      clear Hyes Hno
      obtain rfl | rfl | rfl : j = 0 ∨ j = 1 ∨ j = 2 := by omega
      · rw [show (((0 : Nat)) : Int) = 0 from rfl]
        have HF := Lib.hid (fun (k : Nat) (hlt2 : k < m) (z : Since y1.w) => next0_calls y1.w z R C i k bx (bx + 1) hR hC Hi.out (Hm.out k hlt2) (Since.cellTo ⟨y1, rfl⟩ hb0_1) (Since.cellTo ⟨y1, rfl⟩ hb1_0))
        go_upto_region 5 with fail
        go_loopw [20] (fun si wr => ∃ (k : Nat) (y : Since y1.w), k ≤ m ∧ si = .int .i64 (k : Int) ∧ wr = y.w ∧ ∀ q, q < k → (!bo h q && fitV C i 0 q) = false) (fun si _ => m - (intOf si).toNat)
        case atStart => exact ⟨0, y, by omega, rfl, rfl, fun j hj => by omega⟩
        case round =>
          obtain ⟨k, y3, hk, rfl, rfl, hn⟩ := hrel
          have Hn := Lib.hid hn
          clear hn
          by_cases hlt2 : k < m
          · have hk0 : (0 : Int) ≤ (k : Int) := by omega
            have hkl : (k : Int) < (m : Int) := by omega
            obtain ⟨b2, o2, rfl, hb2, hc2'⟩ := HH.out k (by have := Hh.out; omega)
            have f1 : ∀ q : Since W, q.w.cell? ⟨b2, o2 + k, none⟩ = some (.bool (bo h k)) := fun q => Since.cell hc2' hb2 q
            have f1 := (Since.cellTo ⟨y1, rfl⟩ f1) y3
            clear hb2 hc2'
            have HC := Lib.hid (HF.out k hlt2 y3)
            have Hst := Lib.hid (fun (hp : (!bo h k && fitV C i 0 k) = false) q (hq : q < k + 1) => show (!bo h q && fitV C i 0 q) = false from by
              by_cases e : q = k
              · rw [e]; exact hp
              · exact Hn.out q (by omega))
            have Hye := Lib.hid (fun (hp : (!bo h k && fitV C i 0 k) = true) => Hy2.out k (by omega) Hl.out hlt2 hp Hn.out)
            clear HF Hy2
            generalize fitV C i 0 k = V at *
            cases hb : bo h k
            · rw [hb] at f1 Hst Hye
              cases V
              · clear Hye
                go_wp2_with (go_at_call 75; ((with_reducible refine HC.out.mono ?_); rintro _ _ ⟨rfl, y4, rfl⟩))
                go_roundw
                case rel => exact ⟨k + 1, y4, by omega, by go_num, rfl, Hst.out rfl⟩
                case measure => simp [intOf] <;> omega
              · have HU := Lib.hid (Hye.out rfl)
                clear Hst Hye
                go_wp2_with (go_at_call 75; ((with_reducible refine HC.out.mono ?_); rintro _ _ ⟨rfl, y4, rfl⟩))
                go_ret
                exact ⟨ret_int HU.out.symm, Hz1.out _⟩
            · rw [hb] at f1 Hst
              clear Hye HC
              go_wp2_with fail
              go_roundw
              case rel => exact ⟨k + 1, y3, by omega, by go_num, rfl, Hst.out rfl⟩
              case measure => simp [intOf] <;> omega
          · obtain rfl : k = m := by omega
            have Hl2 := Lib.hid (fun j' (hj' : j' < 1) => show ∀ q, q < k → (!bo h q && fitV C i j' q) = false from by
              by_cases e : j' = 0
              · rw [e]; exact Hn.out
              · exact Hl.out j' (by omega))
            clear HF Hy2
            go_wp2_with fail
            go_roundw
            case rel => exact ⟨1, y3, by omega, by go_num, rfl, Hl2.out⟩
            case measure => simp [intOf] <;> omega
      · rw [show (((1 : Nat)) : Int) = 1 from rfl]
        have HF := Lib.hid (fun (k : Nat) (hlt2 : k < m) (z : Since y1.w) => next1_calls y1.w z R C i k bx (bx + 1) hR hC Hi.out (Hm.out k hlt2) (Since.cellTo ⟨y1, rfl⟩ hb0_1) (Since.cellTo ⟨y1, rfl⟩ hb1_0))
        go_upto_region 5 with fail
        go_loopw [20] (fun si wr => ∃ (k : Nat) (y : Since y1.w), k ≤ m ∧ si = .int .i64 (k : Int) ∧ wr = y.w ∧ ∀ q, q < k → (!bo h q && fitV C i 1 q) = false) (fun si _ => m - (intOf si).toNat)
        case atStart => exact ⟨0, y, by omega, rfl, rfl, fun j hj => by omega⟩
        case round =>
          obtain ⟨k, y3, hk, rfl, rfl, hn⟩ := hrel
          have Hn := Lib.hid hn
          clear hn
          by_cases hlt2 : k < m
          · have hk0 : (0 : Int) ≤ (k : Int) := by omega
            have hkl : (k : Int) < (m : Int) := by omega
            obtain ⟨b2, o2, rfl, hb2, hc2'⟩ := HH.out k (by have := Hh.out; omega)
            have f1 : ∀ q : Since W, q.w.cell? ⟨b2, o2 + k, none⟩ = some (.bool (bo h k)) := fun q => Since.cell hc2' hb2 q
            have f1 := (Since.cellTo ⟨y1, rfl⟩ f1) y3
            clear hb2 hc2'
            have HC := Lib.hid (HF.out k hlt2 y3)
            have Hst := Lib.hid (fun (hp : (!bo h k && fitV C i 1 k) = false) q (hq : q < k + 1) => show (!bo h q && fitV C i 1 q) = false from by
              by_cases e : q = k
              · rw [e]; exact hp
              · exact Hn.out q (by omega))
            have Hye := Lib.hid (fun (hp : (!bo h k && fitV C i 1 k) = true) => Hy2.out k (by omega) Hl.out hlt2 hp Hn.out)
            clear HF Hy2
            generalize fitV C i 1 k = V at *
            cases hb : bo h k
            · rw [hb] at f1 Hst Hye
              cases V
              · clear Hye
                go_wp2_with (go_at_call 76; ((with_reducible refine HC.out.mono ?_); rintro _ _ ⟨rfl, y4, rfl⟩))
                go_roundw
                case rel => exact ⟨k + 1, y4, by omega, by go_num, rfl, Hst.out rfl⟩
                case measure => simp [intOf] <;> omega
              · have HU := Lib.hid (Hye.out rfl)
                clear Hst Hye
                go_wp2_with (go_at_call 76; ((with_reducible refine HC.out.mono ?_); rintro _ _ ⟨rfl, y4, rfl⟩))
                go_ret
                exact ⟨ret_int HU.out.symm, Hz1.out _⟩
            · rw [hb] at f1 Hst
              clear Hye HC
              go_wp2_with fail
              go_roundw
              case rel => exact ⟨k + 1, y3, by omega, by go_num, rfl, Hst.out rfl⟩
              case measure => simp [intOf] <;> omega
          · obtain rfl : k = m := by omega
            have Hl2 := Lib.hid (fun j' (hj' : j' < 2) => show ∀ q, q < k → (!bo h q && fitV C i j' q) = false from by
              by_cases e : j' = 1
              · rw [e]; exact Hn.out
              · exact Hl.out j' (by omega))
            clear HF Hy2
            go_wp2_with fail
            go_roundw
            case rel => exact ⟨2, y3, by omega, by go_num, rfl, Hl2.out⟩
            case measure => simp [intOf] <;> omega
      · rw [show (((2 : Nat)) : Int) = 2 from rfl]
        have HF := Lib.hid (fun (k : Nat) (hlt2 : k < m) (z : Since y1.w) => next2_calls y1.w z C i k)
        go_upto_region 5 with fail
        go_loopw [20] (fun si wr => ∃ (k : Nat) (y : Since y1.w), k ≤ m ∧ si = .int .i64 (k : Int) ∧ wr = y.w ∧ ∀ q, q < k → (!bo h q && fitV C i 2 q) = false) (fun si _ => m - (intOf si).toNat)
        case atStart => exact ⟨0, y, by omega, rfl, rfl, fun j hj => by omega⟩
        case round =>
          obtain ⟨k, y3, hk, rfl, rfl, hn⟩ := hrel
          have Hn := Lib.hid hn
          clear hn
          by_cases hlt2 : k < m
          · have hk0 : (0 : Int) ≤ (k : Int) := by omega
            have hkl : (k : Int) < (m : Int) := by omega
            obtain ⟨b2, o2, rfl, hb2, hc2'⟩ := HH.out k (by have := Hh.out; omega)
            have f1 : ∀ q : Since W, q.w.cell? ⟨b2, o2 + k, none⟩ = some (.bool (bo h k)) := fun q => Since.cell hc2' hb2 q
            have f1 := (Since.cellTo ⟨y1, rfl⟩ f1) y3
            clear hb2 hc2'
            have HC := Lib.hid (HF.out k hlt2 y3)
            have Hst := Lib.hid (fun (hp : (!bo h k && fitV C i 2 k) = false) q (hq : q < k + 1) => show (!bo h q && fitV C i 2 q) = false from by
              by_cases e : q = k
              · rw [e]; exact hp
              · exact Hn.out q (by omega))
            have Hye := Lib.hid (fun (hp : (!bo h k && fitV C i 2 k) = true) => Hy2.out k (by omega) Hl.out hlt2 hp Hn.out)
            clear HF Hy2
            generalize fitV C i 2 k = V at *
            cases hb : bo h k
            · rw [hb] at f1 Hst Hye
              cases V
              · clear Hye
                go_wp2_with (go_at_call 77; ((with_reducible refine HC.out.mono ?_); rintro _ _ ⟨rfl, y4, rfl⟩))
                go_roundw
                case rel => exact ⟨k + 1, y4, by omega, by go_num, rfl, Hst.out rfl⟩
                case measure => simp [intOf] <;> omega
              · have HU := Lib.hid (Hye.out rfl)
                clear Hst Hye
                go_wp2_with (go_at_call 77; ((with_reducible refine HC.out.mono ?_); rintro _ _ ⟨rfl, y4, rfl⟩))
                go_ret
                exact ⟨ret_int HU.out.symm, Hz1.out _⟩
            · rw [hb] at f1 Hst
              clear Hye HC
              go_wp2_with fail
              go_roundw
              case rel => exact ⟨k + 1, y3, by omega, by go_num, rfl, Hst.out rfl⟩
              case measure => simp [intOf] <;> omega
          · obtain rfl : k = m := by omega
            have Hl2 := Lib.hid (fun j' (hj' : j' < 3) => show ∀ q, q < k → (!bo h q && fitV C i j' q) = false from by
              by_cases e : j' = 2
              · rw [e]; exact Hn.out
              · exact Hl.out j' (by omega))
            clear HF Hy2
            go_wp2_with fail
            go_roundw
            case rel => exact ⟨3, y3, by omega, by go_num, rfl, Hl2.out⟩
            case measure => simp [intOf] <;> omega
    · obtain rfl : j = 3 := by omega
      have HU := Lib.hid (Hno.out Hl.out)
      clear Hyes Hno
      go_wp2_with fail
      go_ret
      exact ⟨ret_int HU.out.symm, Hz1.out _⟩
end Go.Proofs.YtdkcclngionihaaDoor
/- Hiding cells, walked. -/
namespace Go.Proofs.YtdkcclngionihaaDoor
open Go.RowKit

theorem sBoolF : SliceOf Tryd.prog 32 4 (.bool false) 1 1 := SliceOf.mk' Tryd.underlying32 (by kernel_rfl) rfl (by decide)
theorem BoxIs.bools {w : World} {g : Nat} {F : List Bool} (h : BoxIs w g (F.map .bool)) : BlRow w (some ⟨g, 0, none⟩) F := by
  intro i hi
  refine ⟨g, 0, rfl, h.lt, ?_⟩
  rw [Nat.zero_add]
  refine h.c i _ ?_
  rw [List.getElem?_map, List.getElem?_eq_getElem hi]
  simp [bo, List.getD_eq_getElem?_getD, List.getElem?_eq_getElem hi]
theorem bo_set (h : List Bool) (k j : Nat) (b : Bool) (hk : k < h.length) : bo (h.set k b) j = if j = k then b else bo h j := by
  unfold bo
  rw [List.getD_eq_getElem?_getD, List.getD_eq_getElem?_getD, List.getElem?_set]
  by_cases e : k = j
  · subst e; rw [if_pos rfl, if_pos rfl, if_pos hk]; rfl
  · rw [if_neg e, if_neg (Ne.symm e)]
theorem bo_ext {h k : List Bool} (hl : h.length = k.length) (he : ∀ j, j < h.length → bo h j = bo k j) : h = k := by
  refine List.ext_getElem hl fun i h1 h2 => ?_
  have := he i h1
  unfold bo at this
  simpa [List.getD_eq_getElem?_getD, List.getElem?_eq_getElem h1, List.getElem?_eq_getElem h2] using this
theorem bo_map (f : Int → Bool) (l : List Int) (j : Nat) (hj : j < l.length) : bo (l.map f) j = f (at0 l j) := by
  unfold bo at0
  simp [List.getD_eq_getElem?_getD, List.getElem?_eq_getElem hj]
/-- a whole box is copied into another one -/
theorem copyB_run {w : World} {gd gs n : Nat} {vs us : List Value} (hd : BoxIs w gd vs) (hs : BoxIs w gs us) (hv : vs.length = n) (hu : us.length = n) (h1 : ∀ v ∈ us, v.oneCell' = true) (t ty e : TypeId) (z : Value) (bytes : Nat) (ht : SliceOf Tryd.prog t e z 1 bytes) :
    (Builtin.copy_ #[t, t] ty #[.slice (some ⟨gd, 0, none⟩) n n, .slice (some ⟨gs, 0, none⟩) n n]).run Tryd.prog w = .ok (goInt (n : Nat)) (w.setCells gd 0 us) := by
  obtain ⟨i, hi, hz, hsize, hby⟩ := ht.e
  have h := run_copyK (P := Tryd.prog) w t t ty e 1 gd 0 n n ⟨gs, 0, none⟩ n n us ht.t (by rw [hi]; simp [hsize]) (by rw [hu]; simp) (fun j v hv => by rw [Addr.add_lit, Nat.zero_add]; exact hs.c j v hv)
    (fun j hj => by
      have hj' : j < vs.length := by omega
      rw [Nat.zero_add, hd.c j _ (List.getElem?_eq_getElem hj')]; rfl) (fun j hj => hd.f _) h1
  rw [show Nat.min n n = n from Nat.min_self n] at h
  exact h
/-- how many cells of a box are not hidden -/
noncomputable def openF (w : World) (g m : Nat) : Nat := open Classical in ((List.range m).filter fun j => decide (w.cell? ⟨g, j, none⟩ = some (.bool false))).length
def cntF (h : List Bool) : Nat := ((List.range h.length).filter fun j => !bo h j).length
theorem openF_box {w : World} {g m : Nat} {h : List Bool} (hb : BoxIs w g (h.map .bool)) (hm : h.length = m) : openF w g m = cntF h := by
  unfold openF cntF
  rw [hm]
  congr 1
  refine List.filter_congr fun j hj => ?_
  rw [List.mem_range] at hj
  have := hb.c j (.bool (bo h j)) (by rw [List.getElem?_map, List.getElem?_eq_getElem (by omega)]; simp [bo, List.getD_eq_getElem?_getD, List.getElem?_eq_getElem (show j < h.length by omega)])
  rw [this]
  cases bo h j <;> simp
theorem filterS_le {p q : Nat → Bool} : ∀ (l : List Nat), (∀ j ∈ l, q j = true → p j = true) → (l.filter q).length ≤ (l.filter p).length
  | [], _ => Nat.le_refl _
  | a :: l, h => by
    have := filterS_le l fun j hj => h j (List.mem_cons_of_mem _ hj)
    have ha := h a (List.mem_cons_self ..)
    simp only [List.filter_cons]
    cases hq : q a
    · cases p a <;> simp <;> omega
    · rw [ha hq]; simp; omega
theorem filterS_lt {p q : Nat → Bool} {k : Nat} : ∀ (l : List Nat), (∀ j ∈ l, q j = true → p j = true) → k ∈ l → p k = true → q k = false → (l.filter q).length < (l.filter p).length
  | a :: l, h, hk, hp, hq => by
    have hl := filterS_le l fun j hj => h j (List.mem_cons_of_mem _ hj)
    have ha := h a (List.mem_cons_self ..)
    simp only [List.filter_cons]
    rcases List.mem_cons.1 hk with rfl | hk
    · rw [hp, hq]; simp; omega
    · have := filterS_lt l (fun j hj => h j (List.mem_cons_of_mem _ hj)) hk hp hq
      cases hq : q a
      · cases p a <;> simp <;> omega
      · rw [ha hq]; simp; omega
theorem cntF_set {h : List Bool} {k : Nat} (hk : k < h.length) (hb : bo h k = false) : cntF (h.set k true) < cntF h := by
  unfold cntF
  rw [List.length_set]
  refine filterS_lt (k := k) _ (fun j hj hq => ?_) (by simpa using hk) (by rw [hb]; rfl) (by rw [bo_set _ _ _ _ hk, if_pos rfl]; rfl)
  rw [bo_set _ _ _ _ hk] at hq
  by_cases e : j = k
  · rw [if_pos e] at hq; cases hq
  · rw [if_neg e] at hq; exact hq
theorem cntF_le (h : List Bool) : cntF h ≤ h.length := by
  have := List.length_filter_le (fun j => !bo h j) (List.range h.length)
  rw [List.length_range] at this
  exact this
theorem nextV_some {C i k : Nat} {h : List Bool} (hn : nextV C h i = some k) : k < h.length ∧ bo h k = false := by
  have key : ∀ p : Nat → Bool, fstP (fun k => !bo h k && p k) h.length = some k → k < h.length ∧ bo h k = false := fun p hp => by
    obtain ⟨h1, h2⟩ := fstP_mem hp
    refine ⟨h1, ?_⟩
    cases hb : bo h k
    · rfl
    · simp [hb] at h2
  rw [nextV_eq (i := i) rfl] at hn
  rcases h0 : fstP (fun k => !bo h k && fitV C i 0 k) h.length with _ | a
  · rw [h0, Option.none_or] at hn
    rcases h1 : fstP (fun k => !bo h k && fitV C i 1 k) h.length with _ | a
    · rw [h1, Option.none_or] at hn
      exact key _ hn
    · rw [h1, Option.some_or] at hn
      exact key _ (h1.trans hn)
  · rw [h0, Option.some_or, Option.some_or] at hn
    exact key _ (h0.trans hn)
theorem hideF_len {R C : Nat} {l : List Int} {width : Int} : ∀ (f : Nat) (h k : List Bool), hideF R C l width f h = some k → k.length = h.length
  | 0, _, _, e => by cases e
  | f + 1, h, k, e => by
    rw [hideF] at e
    cases hu : unsV R C l h width with
    | none => rw [hu] at e; simp at e; rw [← e]
    | some i =>
      rw [hu] at e
      dsimp only at e
      cases hn : nextV C h i with
      | none => rw [hn] at e; cases e
      | some j => rw [hn] at e; dsimp only at e; rw [hideF_len f _ _ e, List.length_set]
theorem hideV_len {R C : Nat} {l : List Int} {least width : Int} {h : List Bool} (e : hideV R C l least width = some h) : h.length = l.length := by
  rw [hideF_len _ _ _ e, List.length_map]
theorem hideF_step {R C : Nat} {l : List Int} {h : List Bool} {width : Int} {f i k : Nat} (hu : unsV R C l h width = some i) (hn : nextV C h i = some k) : hideF R C l width (f + 1) h = hideF R C l width f (h.set k true) := by
  rw [hideF, hu]; dsimp only; rw [hn]
theorem hideF_no {R C : Nat} {l : List Int} {h : List Bool} {width : Int} {f i : Nat} (hu : unsV R C l h width = some i) (hn : nextV C h i = none) : hideF R C l width (f + 1) h = none := by
  rw [hideF, hu]; dsimp only; rw [hn]
def badH (least width : Int) : Prop := least < 1 ∨ 1000000 < least ∨ width < 0 ∨ 65536 < width
noncomputable def hideE (R C : Nat) (l : List Int) (least width : Int) : Int := open Classical in if badH least width then 1 else if hideV R C l least width = none then 10 else 0
def HideRes (w : World) (R C : Nat) (l : List Int) (least width : Int) (o : Ending) (w' : World) : Prop :=
  ∃ (ah : Option Addr) (n ch : Nat) (y : Since w), o = .returned (.tuple #[.slice ah n ch, .int .i64 (hideE R C l least width)]) ∧ w' = y.w ∧ (hideE R C l least width = 0 → ∃ h, hideV R C l least width = some h ∧ h.length = l.length ∧ n = l.length ∧ BlRow y.w ah h ∧ n ≤ ch ∧ ∀ b, ah = some b → w.heap.size ≤ b.block)
theorem HideRes.bad {w : World} {R C : Nat} {l : List Int} {least width : Int} (h : badH least width) (y : Since w) : HideRes w R C l least width (.returned (.tuple #[.slice none 0 0, .int .i64 1])) y.w := by
  have e : hideE R C l least width = 1 := by unfold hideE; rw [if_pos h]
  exact ⟨none, 0, 0, y, by rw [e], rfl, fun h0 => by rw [e] at h0; cases h0⟩
theorem HideRes.no {w : World} {R C : Nat} {l : List Int} {least width : Int} (h : ¬ badH least width) (hn : hideV R C l least width = none) (y : Since w) : HideRes w R C l least width (.returned (.tuple #[.slice none 0 0, .int .i64 10])) y.w := by
  have e : hideE R C l least width = 10 := by unfold hideE; rw [if_neg h, if_pos hn]
  exact ⟨none, 0, 0, y, by rw [e], rfl, fun h0 => by rw [e] at h0; cases h0⟩
theorem HideRes.yes {w : World} {R C : Nat} {l : List Int} {least width : Int} (h : ¬ badH least width) {k : List Bool} (hn : hideV R C l least width = some k) (y : Since w) {g m : Nat} (hm : m = l.length) (hb : BoxIs y.w g (k.map .bool)) (hg : w.heap.size ≤ g) : HideRes w R C l least width (.returned (.tuple #[.slice (some ⟨g, 0, none⟩) m m, .int .i64 0])) y.w := by
  have e : hideE R C l least width = 0 := by unfold hideE; rw [if_neg h, if_neg (by rw [hn]; intro h; cases h)]
  exact ⟨_, m, m, y, by rw [e], rfl, fun _ => ⟨k, hn, hideV_len hn, hm, hb.bools, Nat.le_refl _, fun b e => by cases e; exact hg⟩⟩
theorem one_bools (l : List Bool) : ∀ v ∈ l.map Value.bool, v.oneCell' = true := by
  intro v hv
  obtain ⟨b, _, rfl⟩ := List.mem_map.1 hv
  rfl
set_option linter.unusedSimpArgs false in
set_option maxRecDepth 100000 in
set_option maxHeartbeats 8000000 in
theorem hide_calls (w : World) (x : Since w) (R C : Nat) (l : List Int) (least width : Int) (a : Option Addr) (c : Nat) (hL : IntRow w a l) (hG : SG R C l) :
    Calls Tryd.prog 31 #[.agg #[.int .i64 (R : Int), .int .i64 (C : Int), .slice a l.length c], .int .i64 least, .int .i64 width] x.w (HideRes w R C l least width) := by
  have HL := Lib.hid hL
  have HG := Lib.hid hG
  have HBad := Lib.hid (fun (h : badH least width) (y : Since w) => HideRes.bad (R := R) (C := C) (l := l) h y)
  have HNo := Lib.hid (fun (h : ¬ badH least width) (hn : hideV R C l least width = none) (y : Since w) => HideRes.no h hn y)
  have HYes := Lib.hid (fun (h : ¬ badH least width) (k : List Bool) (hn : hideV R C l least width = some k) (y : Since w) (g m : Nat) => HideRes.yes (w := w) h hn y (g := g) (m := m))
  have HD := Lib.hid (show hideV R C l least width = hideF R C l width (l.length + 1) (l.map (smallB least)) from rfl)
  generalize HideRes w R C l least width = PO at *
  generalize hideV R C l least width = HV at *
  have hm1 := hG.len
  obtain ⟨m, hm⟩ : ∃ m, m = l.length := ⟨_, rfl⟩
  have HC := Lib.hid (fun (w : World) (x : Since w) hL => scheck_calls w x R C l a c hL hG)
  have HU := Lib.hid (fun (w : World) (x : Since w) (h : List Bool) (ah : Option Addr) (ch : Nat) hL hH hh => unsafe_calls w x R C l h width a ah c ch hL hH hG hh)
  have HX := Lib.hid (fun (w : World) (x : Since w) (h : List Bool) (ah : Option Addr) (ch i : Nat) hH hh hi => next_calls w x R C i m h a ah c ch hH hh hG.r.2 ⟨hG.c.1, hG.c.2⟩ (fun k hk => (hG.cell (i := k) (by omega)).1) (by omega) hi)
  rw [← hm] at HC HU
  rw [← hm]
  have hm64 : m ≤ 64 := by omega
  have Hm := Lib.hid hm
  clear hL hG hm hm1
  go_enter Tryd.func31, Tryd.ntmps31
  go_upto_region 1 with fail
  have hb0_0 : ∀ y : Since (x.w.alloc (.cells #[.int .i64 (R : Int), .int .i64 (C : Int), .slice a m c] 31)), y.w.cell? ⟨x.w.heap.size, 0, none⟩ = some (.int .i64 (R : Int)) := fun y => Since.cell (by simp [go_sem]) (by first | (simp; done) | (simp; omega)) y
  have hb0_1 : ∀ y : Since (x.w.alloc (.cells #[.int .i64 (R : Int), .int .i64 (C : Int), .slice a m c] 31)), y.w.cell? ⟨x.w.heap.size, 1, none⟩ = some (.int .i64 (C : Int)) := fun y => Since.cell (by simp [go_sem]) (by first | (simp; done) | (simp; omega)) y
  have hb0_2 : ∀ y : Since (x.w.alloc (.cells #[.int .i64 (R : Int), .int .i64 (C : Int), .slice a m c] 31)), y.w.cell? ⟨x.w.heap.size, 2, none⟩ = some (.slice a m c) := fun y => Since.cell (by simp [go_sem]) (by first | (simp; done) | (simp; omega)) y
  have hf0 : ∀ (y : Since (x.w.alloc (.cells #[.int .i64 (R : Int), .int .i64 (C : Int), .slice a m c] 31))) (o : Nat), y.w.frozen? ⟨x.w.heap.size, o, none⟩ = false := fun y o => Since.free (by simp [go_sem]) (by first | (simp; done) | (simp; omega)) y
  have hWup : ∃ z : Since w, (x.w.alloc (.cells #[.int .i64 (R : Int), .int .i64 (C : Int), .slice a m c] 31)) = z.w := x.alloc _
  obtain ⟨y0, hy0⟩ := Since.refl (x.w.alloc (.cells #[.int .i64 (R : Int), .int .i64 (C : Int), .slice a m c] 31))
  have Hbx := Lib.hid (And.intro x.b.size (show x.w.heap.size + 1 = (x.w.alloc (.cells #[.int .i64 (R : Int), .int .i64 (C : Int), .slice a m c] 31)).heap.size from by simp))
  generalize hW : (x.w.alloc (.cells #[.int .i64 (R : Int), .int .i64 (C : Int), .slice a m c] 31)) = W at *
  clear hW
  generalize x.w.heap.size = bx at *
  have Hup := Lib.hid (Since.up hWup)
  rw [hy0]
  clear hy0
  replace HL := Lib.hid (HL.out.to hWup)
  clear hWup hf0
  have H1 := Lib.hid (HC.out W y0 HL.out)
  go_upto_region 2 with (go_at_call 46; ((with_reducible refine H1.out.mono ?_); rintro _ _ ⟨rfl, y1, rfl⟩))
  clear H1 HC
  by_cases hbad : badH least width
  · have HB := Lib.hid (fun y : Since W => show PO (.returned (.tuple #[.slice none 0 0, .int .i64 1])) y.w from by obtain ⟨z, hz⟩ := Hup.out y; rw [hz]; exact HBad.out hbad z)
    have hd : (decide (least < 1) || decide (1000000 < least) || decide (width < 0) || decide (65536 < width)) = true := by unfold badH at hbad; simp only [Bool.or_eq_true, decide_eq_true_eq]; omega
    clear hbad HBad HNo HYes
    go_wp2_with fail
    all_goals exact HB.out y1
  · have HNo2 := Lib.hid (HNo.out hbad)
    have HYes2 := Lib.hid (HYes.out hbad)
    clear HBad HNo HYes
    obtain ⟨h1, h2, h3, h4⟩ : 1 ≤ least ∧ least ≤ 1000000 ∧ 0 ≤ width ∧ width ≤ 65536 := by unfold badH at hbad; omega
    clear hbad
    go_upto_region 8 with fail
    have hmk := fun q : World => make1_run sBoolF rfl m (by omega) (by omega) q
    go_upto_region 9 with fail
    obtain ⟨y2, hy2⟩ := y1.alloc (.cells (List.replicate m (Value.bool false)).toArray 4)
    have hb := BoxIs.new y1.w (List.replicate m (Value.bool false)) 4
    have hgW : W.heap.size ≤ y1.w.heap.size := y1.b.size
    rw [List.toArray_replicate] at hy2 hb
    rw [hy2] at hb ⊢
    have hb2 : BoxIs y2.w y1.w.heap.size ((List.replicate m false).map Value.bool) := by rw [List.map_replicate]; exact hb
    have HB := Lib.hid hb2
    clear hb hb2 hy2
    generalize y1.w.heap.size = gs at *
    go_upto_region 10 with fail
    go_loopw [51] (fun si wr => ∃ (k : Nat) (h : List Bool) (y : Since W), k ≤ m ∧ si = .int .i64 (k : Int) ∧ wr = y.w ∧ h.length = m ∧ BoxIs y.w gs (h.map .bool) ∧ ∀ j, j < k → bo h j = smallB least (at0 l j)) (fun si _ => m - (intOf si).toNat)
    case atStart => exact ⟨0, _, y2, by omega, rfl, rfl, by simp, HB.out, fun j hj => by omega⟩
    case round =>
      clear HB
      obtain ⟨k, h, y, hk, rfl, rfl, hl, hB, hs⟩ := hrel
      have HB := Lib.hid hB; have Hs := Lib.hid hs; have Hl := Lib.hid hl
      clear hB hs hl
      by_cases hlt : k < m
      · have hk0 : (0 : Int) ≤ (k : Int) := by omega
        have hkl : (k : Int) < (m : Int) := by omega
        obtain ⟨b1, o1, rfl, hb1, hc1'⟩ := HL.out k (by have := Hm.out; omega)
        have f0 : y.w.cell? ⟨b1, o1 + k, none⟩ = some (.int .i64 (at0 l k)) := Since.cell hc1' hb1 y
        clear hb1 hc1'
        have f1 := HB.out.c k (.bool (bo h k)) (by rw [List.getElem?_map, List.getElem?_eq_getElem (by have := Hl.out; omega)]; simp [bo, List.getD_eq_getElem?_getD, List.getElem?_eq_getElem (show k < h.length by have := Hl.out; omega)])
        have f2 := HB.out.f
        have HS := Lib.hid (show ∀ b : Bool, smallB least (at0 l k) = b → ∃ z : Since W, y.w.setCell ⟨gs, k, none⟩ (.bool b) = z.w ∧ (h.set k b).length = m ∧ BoxIs z.w gs ((h.set k b).map .bool) ∧ ∀ j, j < k + 1 → bo (h.set k b) j = smallB least (at0 l j) from fun b hb => by
          obtain ⟨z, hz⟩ := y.set ⟨gs, k, none⟩ hgW (.bool b)
          have := HB.out.setj (j := k) (by rw [List.length_map, Hl.out]; exact hlt) (.bool b)
          rw [hz] at this
          refine ⟨z, hz, by rw [List.length_set]; exact Hl.out, by rw [List.map_set]; exact this, fun j hj => ?_⟩
          rw [bo_set _ _ _ _ (by rw [Hl.out]; exact hlt)]
          by_cases e : j = k
          · rw [if_pos e, e, hb]
          · rw [if_neg e]; exact Hs.out j (by omega))
        have Hd := Lib.hid (show smallB least (at0 l k) = (decide (1 ≤ at0 l k) && decide (at0 l k < least)) from rfl)
        generalize at0 l k = e at *
        by_cases d1 : 1 ≤ e
        · by_cases d2 : e < least
          · obtain ⟨z, hz, hz2, hz3, hz4⟩ := HS.out true (by rw [Hd.out, decide_eq_true d1, decide_eq_true d2]; rfl)
            have H2 := Lib.hid hz2; have H3 := Lib.hid hz3; have H4 := Lib.hid hz4
            clear hz2 hz3 hz4 HS Hd HB Hs
            go_wp2_with fail
            (try rw [hz])
            go_roundw
            case rel => exact ⟨k + 1, _, z, by omega, by go_num, rfl, H2.out, H3.out, H4.out⟩
            case measure => simp [intOf] <;> omega
          · obtain ⟨z, hz, hz2, hz3, hz4⟩ := HS.out false (by rw [Hd.out, decide_eq_false d2, Bool.and_false])
            have H2 := Lib.hid hz2; have H3 := Lib.hid hz3; have H4 := Lib.hid hz4
            clear hz2 hz3 hz4 HS Hd HB Hs
            go_wp2_with fail
            (try rw [hz])
            go_roundw
            case rel => exact ⟨k + 1, _, z, by omega, by go_num, rfl, H2.out, H3.out, H4.out⟩
            case measure => simp [intOf] <;> omega
        · obtain ⟨z, hz, hz2, hz3, hz4⟩ := HS.out false (by rw [Hd.out, decide_eq_false d1, Bool.false_and])
          have H2 := Lib.hid hz2; have H3 := Lib.hid hz3; have H4 := Lib.hid hz4
          clear hz2 hz3 hz4 HS Hd HB Hs
          go_wp2_with fail
          (try rw [hz])
          go_roundw
          case rel => exact ⟨k + 1, _, z, by omega, by go_num, rfl, H2.out, H3.out, H4.out⟩
          case measure => simp [intOf] <;> omega
      · obtain rfl : k = m := by omega
        have HE := Lib.hid (show h = l.map (smallB least) from bo_ext (by rw [Hl.out, Hm.out, List.length_map]) fun j hj => by
          rw [bo_map _ _ _ (by have := Hl.out; have := Hm.out; omega)]
          exact Hs.out j (by have := Hl.out; omega))
        clear Hs
        go_upto_region 15 with fail
        obtain ⟨y3, hy3⟩ := y.alloc (.cells (List.replicate k (Value.bool false)).toArray 4)
        have hb := BoxIs.new y.w (List.replicate k (Value.bool false)) 4
        have hgh : W.heap.size ≤ y.w.heap.size := y.b.size
        have hb1 := HB.out.up (.cells (List.replicate k (Value.bool false)).toArray 4)
        have hne : gs ≠ y.w.heap.size := by have := HB.out.lt; omega
        rw [List.toArray_replicate] at hy3 hb hb1
        rw [hy3] at hb hb1 ⊢
        clear hy3 HB hmk
        generalize y.w.heap.size = gh at *
        have hcp := copyB_run (n := k) hb hb1 (by simp) (by rw [List.length_map]; exact Hl.out) (one_bools h) 32 3 4 (.bool false) 1 sBoolF
        obtain ⟨y4, h4, hb4, _⟩ := hb.stored (B := W) ⟨y3, rfl⟩ hgh (h.map .bool) (by simp [Hl.out])
        rw [h4] at hcp
        have HB4 := Lib.hid hb4
        clear hb hb1 h4 hb4 hne
        go_upto_region 16 with fail
        clear hcp
        have HH := Lib.hid (show HV = hideF R C l width (k + 1) h ∧ cntF h < k + 1 from ⟨by rw [HD.out, HE.out, Hm.out], by have := cntF_le h; have := Hl.out; omega⟩)
        have HEx := Lib.hid (show ∃ g : List Bool, HV = hideF R C l width (k + 1) g ∧ cntF g < k + 1 ∧ g.length = k ∧ BoxIs y4.w gh (g.map .bool) from ⟨h, HH.out.1, HH.out.2, Hl.out, HB4.out⟩)
        clear HH HB4 HE Hl HD h
        go_loopw [] (fun wr => ∃ (f : Nat) (h : List Bool) (y : Since W), wr = y.w ∧ h.length = k ∧ BoxIs y.w gh (h.map .bool) ∧ HV = hideF R C l width f h ∧ cntF h < f) (fun wr => openF wr gh k)
        case atStart => obtain ⟨g, h1, h2, h3, h4⟩ := HEx.out; exact ⟨_, g, y4, rfl, h3, h4, h1, h2⟩
        case round =>
          clear HEx
          obtain ⟨f, h, y, rfl, hl, hB, hf, hcnt⟩ := hrel
          have HB := Lib.hid hB; have Hf := Lib.hid hf; have Hl := Lib.hid hl; have Hc := Lib.hid hcnt
          clear hB hf hl hcnt
          obtain ⟨q0, hq0⟩ := Since.refl y.w
          rw [hq0]
          clear hq0
          replace hb0_0 := Since.cellTo ⟨y, rfl⟩ hb0_0
          replace hb0_1 := Since.cellTo ⟨y, rfl⟩ hb0_1
          replace hb0_2 := Since.cellTo ⟨y, rfl⟩ hb0_2
          have hU := HU.out y.w q0 h (some ⟨gh, 0, none⟩) k (HL.out.to ⟨y, rfl⟩) HB.out.bools Hl.out
          rw [Hl.out] at hU
          have H1 := Lib.hid hU
          clear hU
          have HPO := Lib.hid (fun (v : Value) (hv : ∀ z : Since w, BoxIs z.w gh (h.map .bool) → PO (.returned v) z.w) (y2 : Since y.w) => show PO (.returned v) y2.w from by
            obtain ⟨z, hz⟩ := y.trans y2
            obtain ⟨z2, hz2⟩ := Hup.out z
            have hb := HB.out.since y2
            rw [hz, hz2] at hb ⊢
            exact hv z2 hb)
          obtain ⟨f, rfl⟩ : ∃ f', f = f' + 1 := ⟨f - 1, by have := Hc.out; omega⟩
          cases hu : unsV R C l h width with
          | none =>
            have HF := Lib.hid (show HV = some h by rw [Hf.out, hideF, hu])
            rw [hu] at H1
            have HEnd := Lib.hid (HPO.out _ (fun z hb => HYes2.out h HF.out z gh k Hm.out hb (by have := Hbx.out; omega)))
            clear HF HNo2 HYes2 HU HX Hf Hc HPO
            go_wp2_with (go_at_call 52; ((with_reducible refine H1.out.mono ?_); rintro _ _ ⟨rfl, y2, rfl⟩; rw [show orNeg none = -1 from rfl]))
            exact HEnd.out y2
          | some i =>
            have hi := (fstP_mem hu).1
            rw [Hl.out] at hi
            rw [hu] at H1
            have hi0 : (0 : Int) ≤ (i : Int) := by omega
            have H2 := Lib.hid (fun z : Since y.w => by
              have := HX.out y.w z h (some ⟨gh, 0, none⟩) k i HB.out.bools Hl.out hi
              rw [Hl.out] at this
              exact this)
            cases hn : nextV C h i with
            | none =>
              have HF := Lib.hid (show HV = none by rw [Hf.out, hideF_no hu hn])
              rw [hn] at H2
              have HEnd := Lib.hid (HPO.out _ (fun z _ => HNo2.out HF.out z))
              clear HF HNo2 HYes2 HU HX Hf Hc HPO
              go_upto_region 17 with (go_at_call 52; ((with_reducible refine H1.out.mono ?_); rintro _ _ ⟨rfl, y2, rfl⟩; rw [show orNeg (some i) = (i : Int) from rfl]))
              go_wp2_with (go_at_call 53; ((with_reducible refine (H2.out _).mono ?_); rintro _ _ ⟨rfl, y3, rfl⟩; rw [show orNeg none = -1 from rfl]))
              exact HEnd.out y3
            | some q =>
              obtain ⟨hq, hbq⟩ := nextV_some hn
              rw [hn] at H2
              have HF := Lib.hid (show HV = hideF R C l width f (h.set q true) by rw [Hf.out, hideF_step hu hn])
              have HC2 := Lib.hid (show cntF (h.set q true) < cntF h from cntF_set hq hbq)
              have HSt := Lib.hid (fun y3 : Since y.w => show ∃ z2 : Since W, y3.w.setCell ⟨gh, q, none⟩ (.bool true) = z2.w ∧ BoxIs z2.w gh ((h.set q true).map .bool) ∧ openF z2.w gh k < openF q0.w gh k from by
                obtain ⟨z, hz⟩ := y.trans y3
                have hb := (HB.out.since y3).setj (j := q) (by rw [List.length_map]; exact hq) (.bool true)
                obtain ⟨z2, hz2⟩ := z.set ⟨gh, q, none⟩ hgh (.bool true)
                rw [hz, hz2, ← List.map_set] at hb
                rw [hz]
                exact ⟨z2, hz2, hb, by rw [openF_box hb (by rw [List.length_set]; exact Hl.out), openF_box (HB.out.since q0) Hl.out]; exact HC2.out⟩)
              have hqk : q < k := by have := Hl.out; omega
              have hq0 : (0 : Int) ≤ (q : Int) := by omega
              have hqi : (q : Int) < (k : Int) := by omega
              have f0 := fun y3 : Since y.w => (HB.out.since y3).c q (.bool (bo h q)) (by rw [List.getElem?_map, List.getElem?_eq_getElem hq]; simp [bo, List.getD_eq_getElem?_getD, List.getElem?_eq_getElem hq])
              have f1 := fun y3 : Since y.w => (HB.out.since y3).f
              clear HNo2 HYes2 HU HX Hf HPO
              go_upto_region 17 with (go_at_call 52; ((with_reducible refine H1.out.mono ?_); rintro _ _ ⟨rfl, y2, rfl⟩; rw [show orNeg (some i) = (i : Int) from rfl]))
              go_upto_region 20 with (go_at_call 53; ((with_reducible refine (H2.out _).mono ?_); rintro _ _ ⟨rfl, y3, rfl⟩; rw [show orNeg (some q) = (q : Int) from rfl]))
              obtain ⟨z2, hz2, hb2, hm2⟩ := HSt.out y3
              have HB2 := Lib.hid hb2; have HM2 := Lib.hid hm2
              clear hb2 hm2 HSt
              go_wp2_with fail
              (try rw [hz2])
              go_roundw
              case rel => exact ⟨f, h.set q true, z2, rfl, by rw [List.length_set]; exact Hl.out, HB2.out, HF.out, by have := HC2.out; have := Hc.out; omega⟩
              case measure => exact HM2.out
end Go.Proofs.YtdkcclngionihaaDoor
/- Hidden cells of the examples: plain mathematics. -/
namespace Go.Proofs.YtdkcclngionihaaDoor

theorem mostV_zero {n : Nat} {l : List Arc} {s t : Nat} (h : NetOk n l) (hs : s < n) (S : Int → Bool) (h1 : S (s : Int) = true) (h2 : S (t : Int) = false) (h3 : cutC l S = 0) : mostV n l (s : Int) (t : Int) = 0 :=
  mostV_eq h (nat_in hs) ⟨⟨_, flow_zero h _ _⟩, S, h1, h2, h3⟩
/-- a width of 0 hides the small cells alone -/
theorem hideV_zero {R C : Nat} {l : List Int} (hG : SG R C l) (least : Int) {width : Int} (hw : width ≤ 0) : hideV R C l least width = some (l.map (smallB least)) := by
  unfold hideV hideF
  have : unsV R C l (l.map (smallB least)) width = none := by
    unfold unsV
    refine fstP_none fun j hj => ?_
    have := hG.iv (l.map (smallB least)) (i := j) (by simpa using hj)
    unfold narrow
    rw [decide_eq_false (by omega), Bool.and_false]
  rw [this]
theorem narrow_zero {R C : Nat} {l : List Int} {h : List Bool} {width : Int} {i : Nat} (hz : 0 ≤ at0 l i) (hb : bo h i = true) (hg : gainV R C l h i = 0) (hl : lossV R C l h i = 0) (hw : 0 < width) : narrow R C l h width i = true := by
  unfold narrow hiV loV
  rw [if_pos hb, if_pos hb, hg, hl, hb, Bool.true_and]
  exact decide_eq_true (by omega)
/-- the table of the examples -/
abbrev exT4 : List Int := [0, 4, 0, 0]
theorem ex_good : SG 2 2 exT4 := ⟨by decide, by decide, rfl, by decide, by decide⟩
theorem ex_hide : hideV 2 2 exT4 5 1 = none := by
  have hG := ex_good
  have u0 : unsV 2 2 exT4 [false, true, false, false] 1 = some 1 := fstP_some (by decide)
    (narrow_zero (by decide) rfl (mostV_zero (s := 3) (t := 0) (hG.netOk _ _) (by decide) (fun k => decide (k = 3)) rfl rfl (by decide)) (mostV_zero (s := 0) (t := 3) (hG.netOk _ _) (by decide) (fun k => decide (k = 0)) rfl rfl (by decide)) (by decide))
    (fun j hj => by obtain rfl : j = 0 := by omega
                    rfl)
  have u1 : ∀ h : List Bool, bo h 0 = true → 0 < h.length → cutC (netN 2 2 exT4 h 0 4) (fun k => decide (k = 2)) = 0 → cutC (netN 2 2 exT4 h 0 4) (fun k => decide (k = 0) || decide (k = 3)) = 0 → unsV 2 2 exT4 h 1 = some 0 := fun h hb hl h1 h2 =>
    fstP_some hl (narrow_zero (by decide) hb (mostV_zero (s := 2) (t := 0) (hG.netOk _ _) (by decide) (fun k => decide (k = 2)) rfl rfl h1) (mostV_zero (s := 0) (t := 2) (hG.netOk _ _) (by decide) (fun k => decide (k = 0) || decide (k = 3)) rfl rfl h2) (by decide)) (fun j hj => by omega)
  show hideF 2 2 exT4 1 5 [false, true, false, false] = none
  rw [hideF_step u0 (k := 0) (by decide)]
  show hideF 2 2 exT4 1 4 [true, true, false, false] = none
  rw [hideF_step (u1 _ rfl (by decide) (by decide) (by decide)) (k := 2) (by decide)]
  show hideF 2 2 exT4 1 3 [true, true, true, false] = none
  rw [hideF_step (u1 _ rfl (by decide) (by decide) (by decide)) (k := 3) (by decide)]
  show hideF 2 2 exT4 1 2 [true, true, true, true] = none
  exact hideF_no (u1 _ rfl (by decide) (by decide) (by decide)) (by decide)
end Go.Proofs.YtdkcclngionihaaDoor
/- Trips between zones, the program: how far two tables are apart. -/
namespace Go.Proofs.YtdkcclngionihaaDoor
open Go.RowKit

/-- what an accepted table is -/
structure TabOk (t : Tab) : Prop where
  r : 1 ≤ t.r ∧ t.r ≤ 8
  c : 1 ≤ t.c ∧ t.c ≤ 8
  n : (t.l.length : Int) = t.r * t.c
  v : ∀ k, k < t.l.length → -1000000 ≤ at0 t.l k ∧ at0 t.l k ≤ 1000000
theorem tabOk_of {t : Tab} (h : chkE t = 0) : TabOk t := by
  by_cases h1 : t.r < 1 ∨ 8 < t.r ∨ t.c < 1 ∨ 8 < t.c
  · rw [chk_range h1] at h; cases h
  by_cases h2 : (t.l.length : Int) ≠ t.r * t.c
  · rw [chk_len h1 h2] at h; cases h
  refine ⟨⟨by omega, by omega⟩, ⟨by omega, by omega⟩, by simpa using h2, fun k hk => ?_⟩
  cases hb : badc1 (at0 t.l k)
  · unfold badc1 at hb
    simp at hb
    omega
  · rw [chk_cell h1 h2 (k := k) (z := at0 t.l k) (by unfold at0; rw [List.getD_eq_getElem?_getD, List.getElem?_eq_getElem hk]; rfl) hb] at h
    cases h
theorem TabOk.len {t : Tab} (h : TabOk t) : t.l.length ≤ 64 := by
  have := (tab_mul (a := t.r) (b := t.c) (by have := h.r; have := h.c; omega)).2
  have := h.n
  omega
theorem apS_range {s t : Tab} (hs : TabOk s) (ht : TabOk t) : ∀ k, k ≤ s.l.length → k ≤ t.l.length → 0 ≤ apS s.l t.l k ∧ apS s.l t.l k ≤ 2000000 * k
  | 0, _, _ => by simp [apS]
  | k + 1, h1, h2 => by
    have ih := apS_range hs ht k (by omega) (by omega)
    have a := hs.v k (by omega)
    have b := ht.v k (by omega)
    simp only [apS]
    push_cast
    omega
def TwoI (w : World) (a b : Int) (o : Ending) (w' : World) : Prop := o = .returned (.tuple #[.int .i64 a, .int .i64 b]) ∧ ∃ y : Since w, w' = y.w
theorem twoI {w : World} {a b c d : Int} (h : a = c ∧ b = d) (y : Since w) : TwoI w a b (.returned (.tuple #[.int .i64 c, .int .i64 d])) y.w := by
  obtain ⟨rfl, rfl⟩ := h; exact ⟨rfl, y, rfl⟩
set_option maxRecDepth 100000 in
set_option maxHeartbeats 8000000 in
theorem apart_calls (w : World) (x : Since w) (s t : Tab) (a1 : Option Addr) (c1 : Nat) (a2 : Option Addr) (c2 : Nat) (h1 : IntRow w a1 s.l) (h2 : IntRow w a2 t.l) (hl1 : s.l.length ≤ 9223372036854775807) (hl2 : t.l.length ≤ 9223372036854775807) :
    Calls Tryd.prog 25 #[.agg #[.int .i64 s.r, .int .i64 s.c, .slice a1 s.l.length c1], .agg #[.int .i64 t.r, .int .i64 t.c, .slice a2 t.l.length c2]] x.w (TwoI w (apV s t) (apE s t)) := by
  have HS := Lib.hid h1
  have HT := Lib.hid h2
  have Hp := Lib.hid (fun (c d : Int) (h : apV s t = c ∧ apE s t = d) (y : Since w) => twoI h y)
  generalize TwoI w (apV s t) (apE s t) = PO at *
  clear h1 h2
  go_enter Tryd.func25, Tryd.ntmps25
  go_upto_region 1 with fail
  have hb0_0 : ∀ y : Since ((x.w.alloc (.cells #[.int .i64 s.r, .int .i64 s.c, .slice a1 s.l.length c1] 31)).alloc (.cells #[.int .i64 t.r, .int .i64 t.c, .slice a2 t.l.length c2] 31)), y.w.cell? ⟨x.w.heap.size, 0, none⟩ = some (.int .i64 s.r) := fun y => Since.cell (by simp [go_sem]) (by first | (simp; done) | (simp; omega)) y
  have hb0_1 : ∀ y : Since ((x.w.alloc (.cells #[.int .i64 s.r, .int .i64 s.c, .slice a1 s.l.length c1] 31)).alloc (.cells #[.int .i64 t.r, .int .i64 t.c, .slice a2 t.l.length c2] 31)), y.w.cell? ⟨x.w.heap.size, 1, none⟩ = some (.int .i64 s.c) := fun y => Since.cell (by simp [go_sem]) (by first | (simp; done) | (simp; omega)) y
  have hb0_2 : ∀ y : Since ((x.w.alloc (.cells #[.int .i64 s.r, .int .i64 s.c, .slice a1 s.l.length c1] 31)).alloc (.cells #[.int .i64 t.r, .int .i64 t.c, .slice a2 t.l.length c2] 31)), y.w.cell? ⟨x.w.heap.size, 2, none⟩ = some (.slice a1 s.l.length c1) := fun y => Since.cell (by simp [go_sem]) (by first | (simp; done) | (simp; omega)) y
  have hf0 : ∀ (y : Since ((x.w.alloc (.cells #[.int .i64 s.r, .int .i64 s.c, .slice a1 s.l.length c1] 31)).alloc (.cells #[.int .i64 t.r, .int .i64 t.c, .slice a2 t.l.length c2] 31))) (o : Nat), y.w.frozen? ⟨x.w.heap.size, o, none⟩ = false := fun y o => Since.free (by simp [go_sem]) (by first | (simp; done) | (simp; omega)) y
  have hb1_0 : ∀ y : Since ((x.w.alloc (.cells #[.int .i64 s.r, .int .i64 s.c, .slice a1 s.l.length c1] 31)).alloc (.cells #[.int .i64 t.r, .int .i64 t.c, .slice a2 t.l.length c2] 31)), y.w.cell? ⟨x.w.heap.size + 1, 0, none⟩ = some (.int .i64 t.r) := fun y => Since.cell (by simp [go_sem]) (by first | (simp; done) | (simp; omega)) y
  have hb1_1 : ∀ y : Since ((x.w.alloc (.cells #[.int .i64 s.r, .int .i64 s.c, .slice a1 s.l.length c1] 31)).alloc (.cells #[.int .i64 t.r, .int .i64 t.c, .slice a2 t.l.length c2] 31)), y.w.cell? ⟨x.w.heap.size + 1, 1, none⟩ = some (.int .i64 t.c) := fun y => Since.cell (by simp [go_sem]) (by first | (simp; done) | (simp; omega)) y
  have hb1_2 : ∀ y : Since ((x.w.alloc (.cells #[.int .i64 s.r, .int .i64 s.c, .slice a1 s.l.length c1] 31)).alloc (.cells #[.int .i64 t.r, .int .i64 t.c, .slice a2 t.l.length c2] 31)), y.w.cell? ⟨x.w.heap.size + 1, 2, none⟩ = some (.slice a2 t.l.length c2) := fun y => Since.cell (by simp [go_sem]) (by first | (simp; done) | (simp; omega)) y
  have hf1 : ∀ (y : Since ((x.w.alloc (.cells #[.int .i64 s.r, .int .i64 s.c, .slice a1 s.l.length c1] 31)).alloc (.cells #[.int .i64 t.r, .int .i64 t.c, .slice a2 t.l.length c2] 31))) (o : Nat), y.w.frozen? ⟨x.w.heap.size + 1, o, none⟩ = false := fun y o => Since.free (by simp [go_sem]) (by first | (simp; done) | (simp; omega)) y
  have hWup : ∃ z : Since w, ((x.w.alloc (.cells #[.int .i64 s.r, .int .i64 s.c, .slice a1 s.l.length c1] 31)).alloc (.cells #[.int .i64 t.r, .int .i64 t.c, .slice a2 t.l.length c2] 31)) = z.w := Since.allocs x [.cells #[.int .i64 s.r, .int .i64 s.c, .slice a1 s.l.length c1] 31, .cells #[.int .i64 t.r, .int .i64 t.c, .slice a2 t.l.length c2] 31]
  obtain ⟨y0, hy0⟩ := Since.refl ((x.w.alloc (.cells #[.int .i64 s.r, .int .i64 s.c, .slice a1 s.l.length c1] 31)).alloc (.cells #[.int .i64 t.r, .int .i64 t.c, .slice a2 t.l.length c2] 31))
  have Hbx := Lib.hid (And.intro x.b.size (show x.w.heap.size + 2 = ((x.w.alloc (.cells #[.int .i64 s.r, .int .i64 s.c, .slice a1 s.l.length c1] 31)).alloc (.cells #[.int .i64 t.r, .int .i64 t.c, .slice a2 t.l.length c2] 31)).heap.size from by simp))
  generalize hW : ((x.w.alloc (.cells #[.int .i64 s.r, .int .i64 s.c, .slice a1 s.l.length c1] 31)).alloc (.cells #[.int .i64 t.r, .int .i64 t.c, .slice a2 t.l.length c2] 31)) = W at *
  clear hW
  generalize x.w.heap.size = bx at *
  have Hup := Lib.hid (Since.up hWup)
  rw [hy0]
  clear hy0
  replace HS := Lib.hid (HS.out.to hWup)
  replace HT := Lib.hid (HT.out.to hWup)
  clear hWup hf0 hf1
  have C1 := Lib.hid (fun y : Since W => tcheck_calls W y s a1 c1 HS.out hl1)
  have C2 := Lib.hid (fun y : Since W => tcheck_calls W y t a2 c2 HT.out hl2)
  by_cases e1 : chkE s = 0
  case neg =>
    have hne : (chkE s != 0) = true := by simpa using e1
    have hE : apE s t = chkE s := if_pos e1
    have hV : apV s t = 0 := if_neg (by rw [hE]; exact e1)
    have HB := Lib.hid (Hp.out 0 (chkE s) ⟨hV, hE⟩)
    clear e1 hE hV Hp C2
    generalize chkE s = e at *
    go_wp2_with (go_at_call 36; ((with_reducible refine (C1.out _).mono ?_); rintro _ _ ⟨rfl, y1, rfl⟩))
    obtain ⟨z, hz⟩ := Hup.out y1
    rw [hz]
    exact HB.out z
  have Hs := Lib.hid (tabOk_of e1)
  have He1 := Lib.hid e1
  rw [e1] at C1
  clear e1
  by_cases e2 : chkE t = 0
  case neg =>
    have hne : (chkE t != 0) = true := by simpa using e2
    have hE : apE s t = chkE t := by unfold apE; rw [if_neg (by rw [He1.out]; simp), if_pos e2]
    have hV : apV s t = 0 := if_neg (by rw [hE]; exact e2)
    have HB := Lib.hid (Hp.out 0 (chkE t) ⟨hV, hE⟩)
    clear e2 hE hV Hp
    generalize chkE t = e at *
    go_wp2_with fail
    refine (C1.out _).mono ?_
    rintro _ _ ⟨rfl, y1, rfl⟩
    go_wp2_with fail
    refine (C2.out _).mono ?_
    rintro _ _ ⟨rfl, y2, rfl⟩
    go_wp2_with fail
    obtain ⟨z, hz⟩ := Hup.out y2
    rw [hz]
    exact HB.out z
  have Ht := Lib.hid (tabOk_of e2)
  have He2 := Lib.hid e2
  rw [e2] at C2
  clear e2
  go_wp2_with fail
  refine (C1.out _).mono ?_
  rintro _ _ ⟨rfl, y1, rfl⟩
  go_wp2_with fail
  refine (C2.out _).mono ?_
  rintro _ _ ⟨rfl, y2, rfl⟩
  clear C1 C2
  by_cases hd : s.r ≠ t.r ∨ s.c ≠ t.c
  · have hE : apE s t = 3 := by unfold apE; rw [if_neg (by rw [He1.out]; simp), if_neg (by rw [He2.out]; simp), if_pos hd]
    have hV : apV s t = 0 := if_neg (by rw [hE]; simp)
    have HB := Lib.hid (Hp.out 0 3 ⟨hV, hE⟩)
    have hc : (s.r != t.r) = true ∨ ((s.r != t.r) = false ∧ (s.c != t.c) = true) := by
      by_cases h : s.r = t.r
      · right; exact ⟨by simpa using h, by rcases hd with h2 | h2; exact (h2 h).elim; simpa using h2⟩
      · left; simpa using h
    clear hd hE hV Hp
    rcases hc with h | ⟨h, h'⟩
    all_goals
      go_wp2_with fail
      obtain ⟨z, hz⟩ := Hup.out y2
      rw [hz]
      exact HB.out z
  · have hE : apE s t = 0 := by unfold apE; rw [if_neg (by rw [He1.out]; simp), if_neg (by rw [He2.out]; simp), if_neg hd]
    have hV : apV s t = apS s.l t.l s.l.length := if_pos hE
    have HB := Lib.hid (Hp.out (apS s.l t.l s.l.length) 0 ⟨hV, hE⟩)
    have q1 : (s.r != t.r) = false := by simp; omega
    have q2 : (s.c != t.c) = false := by simp; omega
    have hll : s.l.length = t.l.length := by
      have a := Hs.out.n
      have b := Ht.out.n
      have e1 : s.r = t.r := by omega
      have e2 : s.c = t.c := by omega
      rw [e1, e2] at a
      omega
    have Hll := Lib.hid hll
    have hs64 := Hs.out.len
    clear hd hE hV Hp hll
    obtain ⟨n, hn⟩ : ∃ n, n = s.l.length := ⟨_, rfl⟩
    rw [← hn] at hb0_2 hs64 HB
    have Hn := Lib.hid hn
    clear hn
    go_wp2_with fail
    go_loopw [8, 35] (fun ss si wr => ∃ (k : Nat) (y : Since W), k ≤ n ∧ si = .int .i64 (k : Int) ∧ ss = .int .i64 (apS s.l t.l k) ∧ wr = y.w) (fun _ si _ => n - (intOf si).toNat)
    case atStart => exact ⟨0, y2, by omega, rfl, rfl, rfl⟩
    case round =>
      obtain ⟨k, y, hk, rfl, rfl, rfl⟩ := hrel
      by_cases hlt : k < n
      · obtain ⟨b1, off1, rfl, hbl1, hc1⟩ := HS.out k (by have := Hn.out; omega)
        obtain ⟨b2, off2, rfl, hbl2, hc2⟩ := HT.out k (by have := Hn.out; have := Hll.out; omega)
        have kc1 : ∀ q : Since W, q.w.cell? ⟨b1, off1 + k, none⟩ = some (.int .i64 (at0 s.l k)) := fun q => Since.cell hc1 hbl1 q
        have kc2 : ∀ q : Since W, q.w.cell? ⟨b2, off2 + k, none⟩ = some (.int .i64 (at0 t.l k)) := fun q => Since.cell hc2 hbl2 q
        obtain ⟨u1, u2⟩ := Hs.out.v k (by have := Hn.out; omega)
        obtain ⟨v1, v2⟩ := Ht.out.v k (by have := Hn.out; have := Hll.out; omega)
        have hS := apS_range Hs.out Ht.out k (by have := Hn.out; omega) (by have := Hn.out; have := Hll.out; omega)
        have Hnx := Lib.hid (show apS s.l t.l (k + 1) = apS s.l t.l k + max (at0 s.l k - at0 t.l k) (at0 t.l k - at0 s.l k) from rfl)
        have hk0 : (0 : Int) ≤ (k : Int) := by omega
        have hkl : (k : Int) < (n : Int) := by omega
        have hkt : (k : Int) < (t.l.length : Int) := by have := Hn.out; have := Hll.out; omega
        generalize at0 s.l k = p at *
        generalize at0 t.l k = r at *
        obtain ⟨S, hS2⟩ : ∃ S, S = apS s.l t.l k := ⟨_, rfl⟩
        rw [← hS2] at Hnx hS ⊢
        obtain ⟨s1, s2⟩ := hS
        have w1 : IntKind.i64.wrap (p - r) = p - r := IntWalk.i64_in _ (by omega)
        have w2 : IntKind.i64.wrap (r - p) = r - p := IntWalk.i64_in _ (by omega)
        have w3 : IntKind.i64.wrap (S + max (p - r) (r - p)) = S + max (p - r) (r - p) := IntWalk.i64_in _ (by omega)
        clear hc1 hc2 hbl1 hbl2 hS2
        go_wp2_with fail
        refine wp_region_since (by kernel_rfl) (by kernel_rfl) ?_
        repeat (go_big_quiet_step (fail))
        refine wpQuiet_nil ?_
        rintro _ ⟨z, rfl⟩
        clear w1 w2 w3
        go_wp2_with fail
        go_roundw
        case rel => exact ⟨k + 1, z, by omega, by go_num, by rw [Hnx.out], rfl⟩
        case measure => simp [intOf] <;> omega
      · obtain rfl : k = n := by omega
        go_wp2_with fail
        obtain ⟨z, hz⟩ := Hup.out y
        rw [hz]
        exact HB.out z
end Go.Proofs.YtdkcclngionihaaDoor
/- Trips between zones, the reference: Zone and Check, after the program's (TrW5, TrW6). -/
namespace Go.Proofs.YtdkcclngionihaaDoor
open Go.RowKit

set_option maxRecDepth 100000 in
set_option maxHeartbeats 4000000 in
theorem rtcheck_calls (w : World) (x : Since w) (t : Tab) (a : Option Addr) (c : Nat) (h : IntRow w a t.l) (hl : t.l.length ≤ 9223372036854775807) :
    Calls Tryd.prog 39 #[.agg #[.int .i64 t.r, .int .i64 t.c, .slice a t.l.length c]] x.w fun o w' => o = .returned (.int .i64 (chkE t)) ∧ ∃ y : Since w, w' = y.w := by
  have H := Lib.hid h
  clear h
  generalize ha : a = a0 at *
  subst ha
  by_cases hr : t.r < 1 ∨ 8 < t.r ∨ t.c < 1 ∨ 8 < t.c
  · have Hr := Lib.hid (chk_range hr)
    rcases (by omega : t.r < 1 ∨ (¬ t.r < 1 ∧ 8 < t.r) ∨ (¬ t.r < 1 ∧ ¬ 8 < t.r ∧ t.c < 1) ∨ (¬ t.r < 1 ∧ ¬ 8 < t.r ∧ ¬ t.c < 1 ∧ 8 < t.c)) with h1 | ⟨h1, h2⟩ | ⟨h1, h2, h3⟩ | ⟨h1, h2, h3, h4⟩
    all_goals
      clear hr
      go_enter Tryd.func39, Tryd.ntmps39
      go_upto_region 1 with fail
      have hb0_0 : ∀ y : Since (x.w.alloc (.cells #[.int .i64 t.r, .int .i64 t.c, .slice a t.l.length c] 31)), y.w.cell? ⟨x.w.heap.size, 0, none⟩ = some (.int .i64 t.r) := fun y => Since.cell (by simp [go_sem]) (by first | (simp; done) | (simp; omega)) y
      have hb0_1 : ∀ y : Since (x.w.alloc (.cells #[.int .i64 t.r, .int .i64 t.c, .slice a t.l.length c] 31)), y.w.cell? ⟨x.w.heap.size, 1, none⟩ = some (.int .i64 t.c) := fun y => Since.cell (by simp [go_sem]) (by first | (simp; done) | (simp; omega)) y
      have hb0_2 : ∀ y : Since (x.w.alloc (.cells #[.int .i64 t.r, .int .i64 t.c, .slice a t.l.length c] 31)), y.w.cell? ⟨x.w.heap.size, 2, none⟩ = some (.slice a t.l.length c) := fun y => Since.cell (by simp [go_sem]) (by first | (simp; done) | (simp; omega)) y
      have hf0 : ∀ (y : Since (x.w.alloc (.cells #[.int .i64 t.r, .int .i64 t.c, .slice a t.l.length c] 31))) (o : Nat), y.w.frozen? ⟨x.w.heap.size, o, none⟩ = false := fun y o => Since.free (by simp [go_sem]) (by first | (simp; done) | (simp; omega)) y
      have hWup : ∃ z : Since w, (x.w.alloc (.cells #[.int .i64 t.r, .int .i64 t.c, .slice a t.l.length c] 31)) = z.w := x.alloc _
      obtain ⟨y0, hy0⟩ := Since.refl (x.w.alloc (.cells #[.int .i64 t.r, .int .i64 t.c, .slice a t.l.length c] 31))
      have Hbx := Lib.hid (And.intro x.b.size (show x.w.heap.size + 1 = (x.w.alloc (.cells #[.int .i64 t.r, .int .i64 t.c, .slice a t.l.length c] 31)).heap.size from by simp))
      generalize hW : (x.w.alloc (.cells #[.int .i64 t.r, .int .i64 t.c, .slice a t.l.length c] 31)) = W at *
      clear hW
      generalize x.w.heap.size = bx at *
      have Hup := Lib.hid (Since.up hWup)
      rw [hy0]
      clear hy0
      clear hWup
      go_wp2_with fail
      go_ret
      exact ⟨ret_int Hr.out.symm, Hup.out _⟩
  · have Hr := Lib.hid hr
    obtain ⟨m1, m2⟩ := tab_mul hr
    obtain ⟨r1, r2, r3, r4⟩ : ¬ t.r < 1 ∧ ¬ 8 < t.r ∧ ¬ t.c < 1 ∧ ¬ 8 < t.c := ⟨by omega, by omega, by omega, by omega⟩
    by_cases hn : (t.l.length : Int) ≠ t.r * t.c
    · have Hq := Lib.hid (chk_len Hr.out hn)
      have hb : ((t.l.length : Int) != t.r * t.c) = true := by simpa using hn
      clear hn hr
      go_enter Tryd.func39, Tryd.ntmps39
      go_upto_region 1 with fail
      have hb0_0 : ∀ y : Since (x.w.alloc (.cells #[.int .i64 t.r, .int .i64 t.c, .slice a t.l.length c] 31)), y.w.cell? ⟨x.w.heap.size, 0, none⟩ = some (.int .i64 t.r) := fun y => Since.cell (by simp [go_sem]) (by first | (simp; done) | (simp; omega)) y
      have hb0_1 : ∀ y : Since (x.w.alloc (.cells #[.int .i64 t.r, .int .i64 t.c, .slice a t.l.length c] 31)), y.w.cell? ⟨x.w.heap.size, 1, none⟩ = some (.int .i64 t.c) := fun y => Since.cell (by simp [go_sem]) (by first | (simp; done) | (simp; omega)) y
      have hb0_2 : ∀ y : Since (x.w.alloc (.cells #[.int .i64 t.r, .int .i64 t.c, .slice a t.l.length c] 31)), y.w.cell? ⟨x.w.heap.size, 2, none⟩ = some (.slice a t.l.length c) := fun y => Since.cell (by simp [go_sem]) (by first | (simp; done) | (simp; omega)) y
      have hf0 : ∀ (y : Since (x.w.alloc (.cells #[.int .i64 t.r, .int .i64 t.c, .slice a t.l.length c] 31))) (o : Nat), y.w.frozen? ⟨x.w.heap.size, o, none⟩ = false := fun y o => Since.free (by simp [go_sem]) (by first | (simp; done) | (simp; omega)) y
      have hWup : ∃ z : Since w, (x.w.alloc (.cells #[.int .i64 t.r, .int .i64 t.c, .slice a t.l.length c] 31)) = z.w := x.alloc _
      obtain ⟨y0, hy0⟩ := Since.refl (x.w.alloc (.cells #[.int .i64 t.r, .int .i64 t.c, .slice a t.l.length c] 31))
      have Hbx := Lib.hid (And.intro x.b.size (show x.w.heap.size + 1 = (x.w.alloc (.cells #[.int .i64 t.r, .int .i64 t.c, .slice a t.l.length c] 31)).heap.size from by simp))
      generalize hW : (x.w.alloc (.cells #[.int .i64 t.r, .int .i64 t.c, .slice a t.l.length c] 31)) = W at *
      clear hW
      generalize x.w.heap.size = bx at *
      have Hup := Lib.hid (Since.up hWup)
      rw [hy0]
      clear hy0
      clear hWup
      go_wp2_with fail
      go_ret
      exact ⟨ret_int Hq.out.symm, Hup.out _⟩
    · have Hn := Lib.hid hn
      have hb : ((t.l.length : Int) != t.r * t.c) = false := by simpa using hn
      have hl64 : t.l.length ≤ 64 := by omega
      clear hn hr
      go_enter Tryd.func39, Tryd.ntmps39
      go_upto_region 1 with fail
      have hb0_0 : ∀ y : Since (x.w.alloc (.cells #[.int .i64 t.r, .int .i64 t.c, .slice a t.l.length c] 31)), y.w.cell? ⟨x.w.heap.size, 0, none⟩ = some (.int .i64 t.r) := fun y => Since.cell (by simp [go_sem]) (by first | (simp; done) | (simp; omega)) y
      have hb0_1 : ∀ y : Since (x.w.alloc (.cells #[.int .i64 t.r, .int .i64 t.c, .slice a t.l.length c] 31)), y.w.cell? ⟨x.w.heap.size, 1, none⟩ = some (.int .i64 t.c) := fun y => Since.cell (by simp [go_sem]) (by first | (simp; done) | (simp; omega)) y
      have hb0_2 : ∀ y : Since (x.w.alloc (.cells #[.int .i64 t.r, .int .i64 t.c, .slice a t.l.length c] 31)), y.w.cell? ⟨x.w.heap.size, 2, none⟩ = some (.slice a t.l.length c) := fun y => Since.cell (by simp [go_sem]) (by first | (simp; done) | (simp; omega)) y
      have hf0 : ∀ (y : Since (x.w.alloc (.cells #[.int .i64 t.r, .int .i64 t.c, .slice a t.l.length c] 31))) (o : Nat), y.w.frozen? ⟨x.w.heap.size, o, none⟩ = false := fun y o => Since.free (by simp [go_sem]) (by first | (simp; done) | (simp; omega)) y
      have hWup : ∃ z : Since w, (x.w.alloc (.cells #[.int .i64 t.r, .int .i64 t.c, .slice a t.l.length c] 31)) = z.w := x.alloc _
      obtain ⟨y0, hy0⟩ := Since.refl (x.w.alloc (.cells #[.int .i64 t.r, .int .i64 t.c, .slice a t.l.length c] 31))
      have Hbx := Lib.hid (And.intro x.b.size (show x.w.heap.size + 1 = (x.w.alloc (.cells #[.int .i64 t.r, .int .i64 t.c, .slice a t.l.length c] 31)).heap.size from by simp))
      generalize hW : (x.w.alloc (.cells #[.int .i64 t.r, .int .i64 t.c, .slice a t.l.length c] 31)) = W at *
      clear hW
      generalize x.w.heap.size = bx at *
      have Hup := Lib.hid (Since.up hWup)
      rw [hy0]
      clear hy0
      replace H := Lib.hid (H.out.to hWup)
      clear hWup
      go_wp2_with fail
      go_loop [3] (fun i => ∃ k : Nat, k ≤ t.l.length ∧ i = .int .i64 k ∧ ∀ j, j < k → ∀ z, t.l[j]? = some z → badc1 z = false) (fun i => t.l.length - (intOf i).toNat)
      case atStart => exact ⟨0, by omega, rfl, fun j hj => by omega⟩
      case round =>
        obtain ⟨k, hk, rfl, hok⟩ := hrel
        have Hok := Lib.hid hok; clear hok
        by_cases hlt : k < t.l.length
        · obtain ⟨b, off, rfl, hbl, hc⟩ := Since.row H.out y0 k hlt
          change y0.w.cell? ⟨b, off + k, none⟩ = some (.int .i64 (at0 t.l k)) at hc
          have hk0 : (0 : Int) ≤ (k : Int) := by omega
          have hkl : (k : Int) < (t.l.length : Int) := by omega
          have Hx := Lib.hid (show t.l[k]? = some (at0 t.l k) by unfold at0; rw [List.getD_eq_getElem?_getD, List.getElem?_eq_getElem hlt]; rfl)
          generalize at0 t.l k = z at *
          clear hbl
          rcases (by omega : z < -1000000 ∨ (¬ z < -1000000 ∧ 1000000 < z) ∨ (¬ z < -1000000 ∧ ¬ 1000000 < z)) with h1 | ⟨h1, h2⟩ | ⟨h1, h2⟩
          · have Hq := Lib.hid (chk_cell Hr.out Hn.out Hx.out (by unfold badc1; rw [decide_eq_true h1]; rfl))
            go_wp2_with fail
            go_ret
            exact ⟨ret_int Hq.out.symm, Hup.out _⟩
          · have Hq := Lib.hid (chk_cell Hr.out Hn.out Hx.out (by unfold badc1; rw [decide_eq_true h2]; simp))
            go_wp2_with fail
            go_ret
            exact ⟨ret_int Hq.out.symm, Hup.out _⟩
          · have Hnx := Lib.hid (upto_next (P := fun z => badc1 z = false) Hok.out Hx.out (by unfold badc1; rw [decide_eq_false h1, decide_eq_false h2]; rfl))
            go_wp2_with fail
            go_round
            case rel => exact ⟨k + 1, by omega, by go_num, Hnx.out⟩
            case measure => simp [intOf] <;> omega
        · obtain rfl : k = t.l.length := by omega
          have Hq := Lib.hid (chk_ok Hr.out Hn.out Hok.out)
          go_wp2_with fail
          go_ret
          exact ⟨ret_int Hq.out.symm, Hup.out _⟩
def badAt (zs : List Int) (k : Nat) : Prop := ∃ z, zs[k]? = some z ∧ badz1 z = true
set_option maxRecDepth 100000 in
set_option maxHeartbeats 8000000 in
theorem rzone_calls (w : World) (a : Option Addr) (zs : List Int) (c : Nat) (wh pl : Int) (h : IntRow w a zs) (hl : zs.length ≤ 9223372036854775807) (hpl : pl ≤ 9223372036854775807) :
    Calls Tryd.prog 55 #[.slice a zs.length c, .int .i64 wh, .int .i64 pl] w (ZRes zs wh pl w) := by
  have H := Lib.hid h
  have Hp := Lib.hid (fun (v e : Int) (h : zoneE zs wh pl = e ∧ zoneV zs wh pl = v) => zRes h w)
  generalize ZRes zs wh pl w = PO at *
  clear h
  by_cases hz : 64 ≤ zs.length ∧ zs.length ≤ 96
  case neg =>
    have HB := Lib.hid (Hp.out _ _ (zone_bad (Or.inl (show zlenB zs = false by unfold zlenB; rw [← Bool.decide_and]; exact decide_eq_false hz)) wh pl))
    rcases (by omega : zs.length < 64 ∨ (64 ≤ zs.length ∧ 96 < zs.length)) with h | ⟨h, h'⟩
    all_goals
      clear hz
      go_enter Tryd.func55, Tryd.ntmps55
      go_wp2_with fail
      exact HB.out
  obtain ⟨z1, z2⟩ := hz
  have Hzl := Lib.hid (show zlenB zs = true by unfold zlenB; rw [decide_eq_true z1, decide_eq_true z2]; rfl)
  go_enter Tryd.func55, Tryd.ntmps55
  go_wp2_with fail
  go_loop [8] (fun i => ∃ k : Nat, k ≤ zs.length ∧ i = .int .i64 k ∧ ∀ j, j < k → ∀ z, zs[j]? = some z → badz1 z = false) (fun i => zs.length - (intOf i).toNat)
  case atStart => exact ⟨0, by omega, rfl, fun j hj => by omega⟩
  case round =>
    obtain ⟨k, hk, rfl, hok⟩ := hrel
    have Hok := Lib.hid hok; clear hok
    by_cases hlt : k < zs.length
    · obtain ⟨b, off, rfl, hbl, hc⟩ := H.out k hlt
      change w.cell? ⟨b, off + k, none⟩ = some (.int .i64 (at0 zs k)) at hc
      have hk0 : (0 : Int) ≤ (k : Int) := by omega
      have hkl : (k : Int) < (zs.length : Int) := by omega
      have Hx := Lib.hid (show zs[k]? = some (at0 zs k) by unfold at0; rw [List.getD_eq_getElem?_getD, List.getElem?_eq_getElem hlt]; rfl)
      generalize at0 zs k = z at *
      clear hbl
      rcases (by omega : z < 0 ∨ (¬ z < 0 ∧ 8 ≤ z) ∨ (¬ z < 0 ∧ ¬ 8 ≤ z)) with h1 | ⟨h1, h2⟩ | ⟨h1, h2⟩
      · have HB := Lib.hid (Hp.out _ _ (zone_bad (Or.inr (badZ_of Hx.out (by unfold badz1; rw [decide_eq_true h1]; rfl))) wh pl))
        go_wp2_with fail
        exact HB.out
      · have HB := Lib.hid (Hp.out _ _ (zone_bad (Or.inr (badZ_of Hx.out (by unfold badz1; rw [decide_eq_true h2]; simp))) wh pl))
        go_wp2_with fail
        exact HB.out
      · have Hnx := Lib.hid (upto_next (P := fun z => badz1 z = false) Hok.out Hx.out (by unfold badz1; rw [decide_eq_false h1, decide_eq_false h2]; rfl))
        go_wp2_with fail
        go_round
        case rel => exact ⟨k + 1, by omega, by go_num, Hnx.out⟩
        case measure => simp [intOf] <;> omega
    · obtain rfl : k = zs.length := by omega
      have Hb := Lib.hid (badZ_no Hok.out)
      clear Hok
      by_cases h2 : wh = 2
      · subst h2
        by_cases hp : 0 ≤ pl ∧ pl < 64
        · obtain ⟨p, rfl⟩ : ∃ p : Nat, pl = p := ⟨pl.toNat, by omega⟩
          obtain ⟨b, off, rfl, hbl, hcell⟩ := H.out p (by omega)
          change w.cell? ⟨b, off + p, none⟩ = some (.int .i64 (at0 zs p)) at hcell
          have HB := Lib.hid (Hp.out _ _ (zone_st Hzl.out Hb.out hp))
          rw [Int.toNat_natCast] at HB
          obtain ⟨p1, p2⟩ := hp
          have p3 : (p : Int) < (zs.length : Int) := by omega
          clear hbl
          generalize at0 zs p = v at *
          go_wp2_with fail
          exact HB.out
        · have HB := Lib.hid (Hp.out _ _ (zone_st_no Hzl.out Hb.out hp))
          rcases (by omega : pl < 0 ∨ (0 ≤ pl ∧ 64 ≤ pl)) with h | ⟨h, h'⟩
          all_goals
            clear hp
            go_wp2_with fail
            exact HB.out
      · by_cases h1 : wh = 1
        · subst h1
          by_cases hp : 0 ≤ pl ∧ pl / 32 < (zs.length : Int) - 64
          · obtain ⟨p, rfl⟩ : ∃ p : Nat, pl = p := ⟨pl.toNat, by omega⟩
            obtain ⟨b, off, rfl, hbl, hcell⟩ := H.out (64 + p / 32) (by omega)
            change w.cell? ⟨b, off + (64 + p / 32), none⟩ = some (.int .i64 (at0 zs (64 + p / 32))) at hcell
            have HB := Lib.hid (Hp.out _ _ (zone_dk Hzl.out Hb.out hp))
            rw [show (64 + (p : Int) / 32).toNat = 64 + p / 32 by omega] at HB
            obtain ⟨p1, p2⟩ := hp
            have p3 : (0 : Int) ≤ 64 + (p : Int) / 32 := by omega
            have p4 : 64 + (p : Int) / 32 < (zs.length : Int) := by omega
            have p5 : (64 + (p : Int) / 32).toNat = 64 + p / 32 := by omega
            clear hbl h2
            generalize at0 zs (64 + p / 32) = v at *
            go_wp2_with fail
            exact HB.out
          · have HB := Lib.hid (Hp.out _ _ (zone_dk_no Hzl.out Hb.out hp))
            rcases (by omega : pl < 0 ∨ (0 ≤ pl ∧ ¬ pl / 32 < (zs.length : Int) - 64)) with h | ⟨h, h'⟩
            all_goals
              clear hp h2
              go_wp2_with fail
              exact HB.out
        · have HB := Lib.hid (Hp.out _ _ (zone_kind Hzl.out Hb.out h1 h2))
          have e1 : (wh == 1) = false := by simpa using h1
          have e2 : (wh == 2) = false := by simpa using h2
          clear h1 h2
          go_wp2_with fail
          exact HB.out
end Go.Proofs.YtdkcclngionihaaDoor
