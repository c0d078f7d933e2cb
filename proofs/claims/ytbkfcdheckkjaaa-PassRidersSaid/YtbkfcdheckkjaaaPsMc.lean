/- The walks of the reference's check of a ride, fifth part: the ends are in order (the walk). -/
import Derived.Test.YtbkfcdheckkjaaaPsMb
import Derived.Deep.QuietTactic
import Derived.BigQuiet
import Derived.Shelf.SlSortCmp.NoneTotal
import Derived.Test.YtbkfcdheckkjaaaProg
import Derived.Shelf.Lay
import Derived.Shelf.SlGeneric
import Derived.Shelf.SlicesQ.IndexFunc
import Derived.Ground.SlsfProg
import Derived.Ground.SlgfProg
import Derived.IntWalk
set_option linter.all false
namespace Go.Proofs.Ytbkfcdheckkjaaa
open Go.RowKit

set_option maxRecDepth 100000 in
set_option maxHeartbeats 8000000 in
theorem rordered_calls (w : World) (x : Since w) (r : Ride) (h : r.At w) (hp : r.pauses.length ≤ 100000) :
    Calls Try.prog 51 #[.agg #[.int .i64 r.id, .int .i64 r.rd, .int .i64 r.s0, .int .i64 r.s1, .int .i64 r.e0, .int .i64 r.e1, .bool r.op, .slice r.la r.legs.length r.lc, .slice r.pa r.pauses.length r.pc, .int .i64 r.fw, .int .i64 r.fp, .int .i64 r.wh, .int .i64 r.pl]] x.w fun o w' => o = .returned (.bool (orderedB r)) ∧ ∃ y : Since w, w' = y.w := by
  have HL := Lib.hid h.l
  have hlm := h.lm
  have hpm := h.pm
  have HA := Lib.hid h
  have HO := Lib.hid (ordered_iff r)
  have HG := Lib.hid (legsO_all r.op r.legs)
  have hmlen := marks_len r.op r.pauses
  have Hmk := Lib.hid (fun (W : World) (h : r.At W) (y : Since W) => marks_calls W y r h hp)
  clear h
  generalize marksL r.op r.pauses = M at *
  unfold MarksPost at Hmk
  generalize r.la = la at HL Hmk ⊢
  generalize r.op = op at HO HG Hmk ⊢
  go_enter Try.func51, Try.ntmps51
  go_upto_region 1 with fail
  have hb0_0 : ∀ y : Since (x.w.alloc (.cells #[.int .i64 r.id, .int .i64 r.rd, .int .i64 r.s0, .int .i64 r.s1, .int .i64 r.e0, .int .i64 r.e1, .bool op, .slice la r.legs.length r.lc, .slice r.pa r.pauses.length r.pc, .int .i64 r.fw, .int .i64 r.fp, .int .i64 r.wh, .int .i64 r.pl] 44)), y.w.cell? ⟨x.w.heap.size, 0, none⟩ = some (.int .i64 r.id) := fun y => Since.cell (by simp [go_sem]) (by first | (simp; done) | (simp; omega)) y
  have hb0_1 : ∀ y : Since (x.w.alloc (.cells #[.int .i64 r.id, .int .i64 r.rd, .int .i64 r.s0, .int .i64 r.s1, .int .i64 r.e0, .int .i64 r.e1, .bool op, .slice la r.legs.length r.lc, .slice r.pa r.pauses.length r.pc, .int .i64 r.fw, .int .i64 r.fp, .int .i64 r.wh, .int .i64 r.pl] 44)), y.w.cell? ⟨x.w.heap.size, 1, none⟩ = some (.int .i64 r.rd) := fun y => Since.cell (by simp [go_sem]) (by first | (simp; done) | (simp; omega)) y
  have hb0_2 : ∀ y : Since (x.w.alloc (.cells #[.int .i64 r.id, .int .i64 r.rd, .int .i64 r.s0, .int .i64 r.s1, .int .i64 r.e0, .int .i64 r.e1, .bool op, .slice la r.legs.length r.lc, .slice r.pa r.pauses.length r.pc, .int .i64 r.fw, .int .i64 r.fp, .int .i64 r.wh, .int .i64 r.pl] 44)), y.w.cell? ⟨x.w.heap.size, 2, none⟩ = some (.int .i64 r.s0) := fun y => Since.cell (by simp [go_sem]) (by first | (simp; done) | (simp; omega)) y
  have hb0_3 : ∀ y : Since (x.w.alloc (.cells #[.int .i64 r.id, .int .i64 r.rd, .int .i64 r.s0, .int .i64 r.s1, .int .i64 r.e0, .int .i64 r.e1, .bool op, .slice la r.legs.length r.lc, .slice r.pa r.pauses.length r.pc, .int .i64 r.fw, .int .i64 r.fp, .int .i64 r.wh, .int .i64 r.pl] 44)), y.w.cell? ⟨x.w.heap.size, 3, none⟩ = some (.int .i64 r.s1) := fun y => Since.cell (by simp [go_sem]) (by first | (simp; done) | (simp; omega)) y
  have hb0_4 : ∀ y : Since (x.w.alloc (.cells #[.int .i64 r.id, .int .i64 r.rd, .int .i64 r.s0, .int .i64 r.s1, .int .i64 r.e0, .int .i64 r.e1, .bool op, .slice la r.legs.length r.lc, .slice r.pa r.pauses.length r.pc, .int .i64 r.fw, .int .i64 r.fp, .int .i64 r.wh, .int .i64 r.pl] 44)), y.w.cell? ⟨x.w.heap.size, 4, none⟩ = some (.int .i64 r.e0) := fun y => Since.cell (by simp [go_sem]) (by first | (simp; done) | (simp; omega)) y
  have hb0_5 : ∀ y : Since (x.w.alloc (.cells #[.int .i64 r.id, .int .i64 r.rd, .int .i64 r.s0, .int .i64 r.s1, .int .i64 r.e0, .int .i64 r.e1, .bool op, .slice la r.legs.length r.lc, .slice r.pa r.pauses.length r.pc, .int .i64 r.fw, .int .i64 r.fp, .int .i64 r.wh, .int .i64 r.pl] 44)), y.w.cell? ⟨x.w.heap.size, 5, none⟩ = some (.int .i64 r.e1) := fun y => Since.cell (by simp [go_sem]) (by first | (simp; done) | (simp; omega)) y
  have hb0_6 : ∀ y : Since (x.w.alloc (.cells #[.int .i64 r.id, .int .i64 r.rd, .int .i64 r.s0, .int .i64 r.s1, .int .i64 r.e0, .int .i64 r.e1, .bool op, .slice la r.legs.length r.lc, .slice r.pa r.pauses.length r.pc, .int .i64 r.fw, .int .i64 r.fp, .int .i64 r.wh, .int .i64 r.pl] 44)), y.w.cell? ⟨x.w.heap.size, 6, none⟩ = some (.bool op) := fun y => Since.cell (by simp [go_sem]) (by first | (simp; done) | (simp; omega)) y
  have hb0_7 : ∀ y : Since (x.w.alloc (.cells #[.int .i64 r.id, .int .i64 r.rd, .int .i64 r.s0, .int .i64 r.s1, .int .i64 r.e0, .int .i64 r.e1, .bool op, .slice la r.legs.length r.lc, .slice r.pa r.pauses.length r.pc, .int .i64 r.fw, .int .i64 r.fp, .int .i64 r.wh, .int .i64 r.pl] 44)), y.w.cell? ⟨x.w.heap.size, 7, none⟩ = some (.slice la r.legs.length r.lc) := fun y => Since.cell (by simp [go_sem]) (by first | (simp; done) | (simp; omega)) y
  have hb0_8 : ∀ y : Since (x.w.alloc (.cells #[.int .i64 r.id, .int .i64 r.rd, .int .i64 r.s0, .int .i64 r.s1, .int .i64 r.e0, .int .i64 r.e1, .bool op, .slice la r.legs.length r.lc, .slice r.pa r.pauses.length r.pc, .int .i64 r.fw, .int .i64 r.fp, .int .i64 r.wh, .int .i64 r.pl] 44)), y.w.cell? ⟨x.w.heap.size, 8, none⟩ = some (.slice r.pa r.pauses.length r.pc) := fun y => Since.cell (by simp [go_sem]) (by first | (simp; done) | (simp; omega)) y
  have hb0_9 : ∀ y : Since (x.w.alloc (.cells #[.int .i64 r.id, .int .i64 r.rd, .int .i64 r.s0, .int .i64 r.s1, .int .i64 r.e0, .int .i64 r.e1, .bool op, .slice la r.legs.length r.lc, .slice r.pa r.pauses.length r.pc, .int .i64 r.fw, .int .i64 r.fp, .int .i64 r.wh, .int .i64 r.pl] 44)), y.w.cell? ⟨x.w.heap.size, 9, none⟩ = some (.int .i64 r.fw) := fun y => Since.cell (by simp [go_sem]) (by first | (simp; done) | (simp; omega)) y
  have hb0_10 : ∀ y : Since (x.w.alloc (.cells #[.int .i64 r.id, .int .i64 r.rd, .int .i64 r.s0, .int .i64 r.s1, .int .i64 r.e0, .int .i64 r.e1, .bool op, .slice la r.legs.length r.lc, .slice r.pa r.pauses.length r.pc, .int .i64 r.fw, .int .i64 r.fp, .int .i64 r.wh, .int .i64 r.pl] 44)), y.w.cell? ⟨x.w.heap.size, 10, none⟩ = some (.int .i64 r.fp) := fun y => Since.cell (by simp [go_sem]) (by first | (simp; done) | (simp; omega)) y
  have hb0_11 : ∀ y : Since (x.w.alloc (.cells #[.int .i64 r.id, .int .i64 r.rd, .int .i64 r.s0, .int .i64 r.s1, .int .i64 r.e0, .int .i64 r.e1, .bool op, .slice la r.legs.length r.lc, .slice r.pa r.pauses.length r.pc, .int .i64 r.fw, .int .i64 r.fp, .int .i64 r.wh, .int .i64 r.pl] 44)), y.w.cell? ⟨x.w.heap.size, 11, none⟩ = some (.int .i64 r.wh) := fun y => Since.cell (by simp [go_sem]) (by first | (simp; done) | (simp; omega)) y
  have hb0_12 : ∀ y : Since (x.w.alloc (.cells #[.int .i64 r.id, .int .i64 r.rd, .int .i64 r.s0, .int .i64 r.s1, .int .i64 r.e0, .int .i64 r.e1, .bool op, .slice la r.legs.length r.lc, .slice r.pa r.pauses.length r.pc, .int .i64 r.fw, .int .i64 r.fp, .int .i64 r.wh, .int .i64 r.pl] 44)), y.w.cell? ⟨x.w.heap.size, 12, none⟩ = some (.int .i64 r.pl) := fun y => Since.cell (by simp [go_sem]) (by first | (simp; done) | (simp; omega)) y
  have hf0 : ∀ (y : Since (x.w.alloc (.cells #[.int .i64 r.id, .int .i64 r.rd, .int .i64 r.s0, .int .i64 r.s1, .int .i64 r.e0, .int .i64 r.e1, .bool op, .slice la r.legs.length r.lc, .slice r.pa r.pauses.length r.pc, .int .i64 r.fw, .int .i64 r.fp, .int .i64 r.wh, .int .i64 r.pl] 44))) (o : Nat), y.w.frozen? ⟨x.w.heap.size, o, none⟩ = false := fun y o => Since.free (by simp [go_sem]) (by first | (simp; done) | (simp; omega)) y
  have hWup : ∃ z : Since w, (x.w.alloc (.cells #[.int .i64 r.id, .int .i64 r.rd, .int .i64 r.s0, .int .i64 r.s1, .int .i64 r.e0, .int .i64 r.e1, .bool op, .slice la r.legs.length r.lc, .slice r.pa r.pauses.length r.pc, .int .i64 r.fw, .int .i64 r.fp, .int .i64 r.wh, .int .i64 r.pl] 44)) = z.w := x.alloc _
  obtain ⟨y0, hy0⟩ := Since.refl (x.w.alloc (.cells #[.int .i64 r.id, .int .i64 r.rd, .int .i64 r.s0, .int .i64 r.s1, .int .i64 r.e0, .int .i64 r.e1, .bool op, .slice la r.legs.length r.lc, .slice r.pa r.pauses.length r.pc, .int .i64 r.fw, .int .i64 r.fp, .int .i64 r.wh, .int .i64 r.pl] 44))
  have Hbx := Lib.hid (And.intro x.b.size (show x.w.heap.size + 1 = (x.w.alloc (.cells #[.int .i64 r.id, .int .i64 r.rd, .int .i64 r.s0, .int .i64 r.s1, .int .i64 r.e0, .int .i64 r.e1, .bool op, .slice la r.legs.length r.lc, .slice r.pa r.pauses.length r.pc, .int .i64 r.fw, .int .i64 r.fp, .int .i64 r.wh, .int .i64 r.pl] 44)).heap.size from by simp))
  generalize hW : (x.w.alloc (.cells #[.int .i64 r.id, .int .i64 r.rd, .int .i64 r.s0, .int .i64 r.s1, .int .i64 r.e0, .int .i64 r.e1, .bool op, .slice la r.legs.length r.lc, .slice r.pa r.pauses.length r.pc, .int .i64 r.fw, .int .i64 r.fp, .int .i64 r.wh, .int .i64 r.pl] 44)) = W at *
  clear hW
  generalize x.w.heap.size = bx at *
  have Hup := Lib.hid (Since.up hWup)
  rw [hy0]
  clear hy0
  replace HL := Lib.hid (HL.out.to hWup); replace HA := Lib.hid (HA.out.to hWup)
  replace Hmk := Lib.hid (Hmk.out W HA.out)
  clear hWup
  go_wp2_with fail
  go_loopw [3] (fun i wr => ∃ (k : Nat) (y : Since W), k ≤ r.legs.length ∧ i = .int .i64 k ∧ wr = y.w ∧ ∀ i, i < k → legB op r.legs i = true) (fun i _ => r.legs.length - (intOf i).toNat)
  case atStart => exact ⟨0, _, by omega, rfl, rfl, fun i hi => by omega⟩
  case round =>
    obtain ⟨k, y, hk, rfl, rfl, hok⟩ := hrel
    have Hok := Lib.hid hok; clear hok
    by_cases hlt : k < r.legs.length
    · obtain ⟨e, he⟩ : ∃ e, r.legs[k]? = some e := ⟨_, List.getElem?_eq_getElem hlt⟩
      obtain ⟨b1, off1, rfl, h1'⟩ := Els.leg HL.out he
      have pa0 := h1'.c0
      have pa1 := h1'.c1
      have pa2 := h1'.c2
      have pa3 := h1'.c3
      have pa4 := h1'.c4
      have Hlb := Lib.hid (show legB op r.legs k = (decide (e.f0 ≤ e.t0) || (op && decide (k + 1 = r.legs.length))) by unfold legB; rw [he])
      have hk0 : (0 : Int) ≤ (k : Int) := by omega
      have hkl : (k : Int) < (r.legs.length : Int) := by omega
      clear h1' he
      have hcase : (((k : Int) == (r.legs.length : Int) - 1) = true ∧ op = true ∧ legB op r.legs k = true) ∨ (((k : Int) == (r.legs.length : Int) - 1) = true ∧ op = false ∧ legB op r.legs k = decide (e.f0 ≤ e.t0)) ∨ (((k : Int) == (r.legs.length : Int) - 1) = false ∧ legB op r.legs k = decide (e.f0 ≤ e.t0)) := by
        by_cases h1 : k + 1 = r.legs.length
        · cases op
          · exact .inr (.inl ⟨by simp; omega, rfl, by rw [Hlb.out]; simp⟩)
          · exact .inl ⟨by simp; omega, rfl, by rw [Hlb.out, decide_eq_true h1]; simp⟩
        · exact .inr (.inr ⟨by simp; omega, by rw [Hlb.out, decide_eq_false h1]; simp⟩)
      clear Hlb
      rcases hcase with ⟨hkb, rfl, hlb⟩ | ⟨hkb, rfl, hlb⟩ | ⟨hkb, hlb⟩
      · have Hlb := Lib.hid hlb; clear hlb
        go_wp2_with fail
        refine wp_region_since (by kernel_rfl) (by kernel_rfl) ?_
        repeat (go_big_quiet_step (fail))
        refine wpQuiet_nil ?_
        rintro _ ⟨y2, rfl⟩
        go_wp2_with fail
        go_roundw
        case rel => exact ⟨k + 1, y2, by omega, by go_num, rfl, fun i hi => by
          by_cases hik : i < k
          · exact Hok.out i hik
          · obtain rfl : i = k := by omega
            exact Hlb.out⟩
        case measure => simp [intOf] <;> omega
      all_goals
        have Hlb := Lib.hid hlb; clear hlb
        by_cases hft : e.f0 ≤ e.t0
        · have hb : decide (e.t0 < e.f0) = false := decide_eq_false (by omega)
          have Hlb2 := Lib.hid (Hlb.out.trans (decide_eq_true hft))
          clear hft
          go_wp2_with fail
          refine wp_region_since (by kernel_rfl) (by kernel_rfl) ?_
          repeat (go_big_quiet_step (fail))
          refine wpQuiet_nil ?_
          rintro _ ⟨y2, rfl⟩
          clear hb
          go_wp2_with fail
          go_roundw
          case rel => exact ⟨k + 1, y2, by omega, by go_num, rfl, fun i hi => by
            by_cases hik : i < k
            · exact Hok.out i hik
            · obtain rfl : i = k := by omega
              exact Hlb2.out⟩
          case measure => simp [intOf] <;> omega
        · have hb : decide (e.t0 < e.f0) = true := decide_eq_true (by omega)
          have Hr := Lib.hid (show orderedB r = false by
            cases hh : orderedB r
            · rfl
            · have := HG.out.1 (HO.out.1 hh).1 k hlt
              rw [Hlb.out, decide_eq_false hft] at this; cases this)
          clear hft
          go_wp2_with fail
          refine wp_region_since (by kernel_rfl) (by kernel_rfl) ?_
          repeat (go_big_quiet_step (fail))
          refine wpQuiet_nil ?_
          rintro _ ⟨y2, rfl⟩
          clear hb
          go_wp2_with fail
          go_ret
          exact ⟨ret_bool Hr.out.symm, Hup.out _⟩
    · obtain rfl : k = r.legs.length := by omega
      have HG2 := Lib.hid (HG.out.2 Hok.out)
      clear Hok HG
      go_wp2_with (go_at_call 64; ((with_reducible refine (Hmk.out _).mono ?_); rintro _ _ ⟨a, cap, y2, rfl, rfl, hrow⟩))
      clear Hmk
      have hM5 : M.length ≤ 200000 := by omega
      have Hrow := Lib.hid hrow; clear hrow
      replace hb0_0 := Since.cellTo ⟨y2, rfl⟩ hb0_0
      replace hb0_1 := Since.cellTo ⟨y2, rfl⟩ hb0_1
      replace hb0_2 := Since.cellTo ⟨y2, rfl⟩ hb0_2
      replace hb0_3 := Since.cellTo ⟨y2, rfl⟩ hb0_3
      replace hb0_4 := Since.cellTo ⟨y2, rfl⟩ hb0_4
      replace hb0_5 := Since.cellTo ⟨y2, rfl⟩ hb0_5
      replace hb0_6 := Since.cellTo ⟨y2, rfl⟩ hb0_6
      replace hb0_7 := Since.cellTo ⟨y2, rfl⟩ hb0_7
      replace hb0_8 := Since.cellTo ⟨y2, rfl⟩ hb0_8
      replace hb0_9 := Since.cellTo ⟨y2, rfl⟩ hb0_9
      replace hb0_10 := Since.cellTo ⟨y2, rfl⟩ hb0_10
      replace hb0_11 := Since.cellTo ⟨y2, rfl⟩ hb0_11
      replace hb0_12 := Since.cellTo ⟨y2, rfl⟩ hb0_12
      obtain ⟨q0, hq0⟩ := Since.refl y2.w
      rw [hq0]
      clear hq0
      go_wp2_with fail
      go_loopw [6] (fun i wr => ∃ (k : Nat) (z : Since y2.w), k ≤ M.length ∧ i = .int .i64 k ∧ wr = z.w ∧ ∀ i, i < k → markB op r.s0 r.e0 M i = true) (fun i _ => M.length - (intOf i).toNat)
      case atStart => exact ⟨0, _, by omega, rfl, rfl, fun i hi => by omega⟩
      case round =>
        obtain ⟨k, z, hk, rfl, rfl, hok⟩ := hrel
        have Hok := Lib.hid hok; clear hok
        by_cases hlt : k < M.length
        · obtain ⟨b, off, rfl, hbl, hc⟩ := Hrow.out k hlt
          have kc : ∀ q : Since y2.w, q.w.cell? ⟨b, off + k, none⟩ = some (.int .i64 (at0 M k)) := fun q => Since.cell hc hbl q
          have hk0 : (0 : Int) ≤ (k : Int) := by omega
          have hkl : (k : Int) < (M.length : Int) := by omega
          clear hbl hc
          by_cases hz : k = 0
          · have hz1 : ((k : Int) == 0) = true := by simp; omega
            have hz2 : decide ((0 : Int) < (k : Int)) = false := decide_eq_false (by omega)
            have hz3 : decide (0 < k) = false := decide_eq_false (by omega)
            have Hmb := Lib.hid (show markB op r.s0 r.e0 M k = (decide (r.s0 ≤ at0 M k) && (op || decide (at0 M k ≤ r.e0))) by unfold markB; rw [if_pos hz, hz])
            clear hz
            generalize at0 M k = v at *
            have hcase : (decide (v < r.s0) = true ∧ markB op r.s0 r.e0 M k = false) ∨ (decide (v < r.s0) = false ∧ op = true ∧ markB op r.s0 r.e0 M k = true) ∨ (decide (v < r.s0) = false ∧ op = false ∧ decide (r.e0 < v) = true ∧ markB op r.s0 r.e0 M k = false) ∨ (decide (v < r.s0) = false ∧ op = false ∧ decide (r.e0 < v) = false ∧ markB op r.s0 r.e0 M k = true) := by
              rw [Hmb.out]
              by_cases h1 : v < r.s0
              · exact .inl ⟨decide_eq_true h1, by rw [decide_eq_false (by omega)]; rfl⟩
              · cases op
                · by_cases h2 : r.e0 < v
                  · exact .inr (.inr (.inl ⟨decide_eq_false h1, rfl, decide_eq_true h2, by rw [decide_eq_false (p := v ≤ r.e0) (by omega)]; simp⟩))
                  · exact .inr (.inr (.inr ⟨decide_eq_false h1, rfl, decide_eq_false h2, by simp; omega⟩))
                · exact .inr (.inl ⟨decide_eq_false h1, rfl, by simp; omega⟩)
            clear Hmb
            rcases hcase with ⟨t1, hm⟩ | ⟨t1, rfl, hm⟩ | ⟨t1, rfl, t2, hm⟩ | ⟨t1, rfl, t2, hm⟩
            · have Hm := Lib.hid hm; clear hm
              have Hr := Lib.hid (show orderedB r = false by
                cases hh : orderedB r
                · rfl
                · have := (HO.out.1 hh).2 k hlt
                  rw [Hm.out] at this; cases this)
              go_wp2_with fail
              refine wp_region_since (by kernel_rfl) (by kernel_rfl) ?_
              repeat (go_big_quiet_step (fail))
              refine wpQuiet_nil ?_
              rintro _ ⟨z2, rfl⟩
              clear hz1 hz2 hz3
              go_wp2_with fail
              go_ret
              exact ⟨ret_bool Hr.out.symm, by obtain ⟨q, e⟩ := y2.trans z2; rw [e]; exact Hup.out q⟩
            · have Hm := Lib.hid hm; clear hm
              go_wp2_with fail
              refine wp_region_since (by kernel_rfl) (by kernel_rfl) ?_
              repeat (go_big_quiet_step (fail))
              refine wpQuiet_nil ?_
              rintro _ ⟨z2, rfl⟩
              clear hz1 hz2 hz3
              go_wp2_with fail
              go_roundw
              case rel => exact ⟨k + 1, z2, by omega, by go_num, rfl, fun i hi => by
                by_cases hik : i < k
                · exact Hok.out i hik
                · obtain rfl : i = k := by omega
                  exact Hm.out⟩
              case measure => simp [intOf] <;> omega
            · have Hm := Lib.hid hm; clear hm
              have Hr := Lib.hid (show orderedB r = false by
                cases hh : orderedB r
                · rfl
                · have := (HO.out.1 hh).2 k hlt
                  rw [Hm.out] at this; cases this)
              go_wp2_with fail
              refine wp_region_since (by kernel_rfl) (by kernel_rfl) ?_
              repeat (go_big_quiet_step (fail))
              refine wpQuiet_nil ?_
              rintro _ ⟨z2, rfl⟩
              clear hz1 hz2 hz3
              go_wp2_with fail
              go_ret
              exact ⟨ret_bool Hr.out.symm, by obtain ⟨q, e⟩ := y2.trans z2; rw [e]; exact Hup.out q⟩
            · have Hm := Lib.hid hm; clear hm
              go_wp2_with fail
              refine wp_region_since (by kernel_rfl) (by kernel_rfl) ?_
              repeat (go_big_quiet_step (fail))
              refine wpQuiet_nil ?_
              rintro _ ⟨z2, rfl⟩
              clear hz1 hz2 hz3
              go_wp2_with fail
              go_roundw
              case rel => exact ⟨k + 1, z2, by omega, by go_num, rfl, fun i hi => by
                by_cases hik : i < k
                · exact Hok.out i hik
                · obtain rfl : i = k := by omega
                  exact Hm.out⟩
              case measure => simp [intOf] <;> omega
          · obtain ⟨b', off', hbo, hbl, hc⟩ := Hrow.out (k - 1) (by omega)
            obtain ⟨rfl, rfl⟩ : b = b' ∧ off = off' := by simpa using hbo
            have kp : ∀ q : Since y2.w, q.w.cell? ⟨b, off + (k - 1), none⟩ = some (.int .i64 (at0 M (k - 1))) := fun q => Since.cell hc hbl q
            have hz1 : ((k : Int) == 0) = false := by simp; omega
            have hz2 : decide ((0 : Int) < (k : Int)) = true := decide_eq_true (by omega)
            have hz3 : decide (0 < k) = true := decide_eq_true (by omega)
            have hmw : IntKind.i64.wrap ((k : Int) - 1) = ((k - 1 : Nat) : Int) := by rw [show (k : Int) - 1 = ((k - 1 : Nat) : Int) by omega]; exact IntWalk.i64_in _ (by omega)
            have hmr : (0 : Int) ≤ ((k - 1 : Nat) : Int) := by omega
            have hml : ((k - 1 : Nat) : Int) < (M.length : Int) := by omega
            have Hmb := Lib.hid (show markB op r.s0 r.e0 M k = (decide (at0 M (k - 1) ≤ at0 M k) && (op || decide (at0 M k ≤ r.e0))) by unfold markB; rw [if_neg hz])
            clear hz hbo hbl hc
            generalize at0 M k = v at *
            generalize at0 M (k - 1) = u at *
            have hcase : (decide (v < u) = true ∧ markB op r.s0 r.e0 M k = false) ∨ (decide (v < u) = false ∧ op = true ∧ markB op r.s0 r.e0 M k = true) ∨ (decide (v < u) = false ∧ op = false ∧ decide (r.e0 < v) = true ∧ markB op r.s0 r.e0 M k = false) ∨ (decide (v < u) = false ∧ op = false ∧ decide (r.e0 < v) = false ∧ markB op r.s0 r.e0 M k = true) := by
              rw [Hmb.out]
              by_cases h1 : v < u
              · exact .inl ⟨decide_eq_true h1, by rw [decide_eq_false (by omega)]; rfl⟩
              · cases op
                · by_cases h2 : r.e0 < v
                  · exact .inr (.inr (.inl ⟨decide_eq_false h1, rfl, decide_eq_true h2, by rw [decide_eq_false (p := v ≤ r.e0) (by omega)]; simp⟩))
                  · exact .inr (.inr (.inr ⟨decide_eq_false h1, rfl, decide_eq_false h2, by simp; omega⟩))
                · exact .inr (.inl ⟨decide_eq_false h1, rfl, by simp; omega⟩)
            clear Hmb
            rcases hcase with ⟨t1, hm⟩ | ⟨t1, rfl, hm⟩ | ⟨t1, rfl, t2, hm⟩ | ⟨t1, rfl, t2, hm⟩
            · have Hm := Lib.hid hm; clear hm
              have Hr := Lib.hid (show orderedB r = false by
                cases hh : orderedB r
                · rfl
                · have := (HO.out.1 hh).2 k hlt
                  rw [Hm.out] at this; cases this)
              go_wp2_with fail
              refine wp_region_since (by kernel_rfl) (by kernel_rfl) ?_
              repeat (go_big_quiet_step (fail))
              refine wpQuiet_nil ?_
              rintro _ ⟨z2, rfl⟩
              clear hz1 hz2 hz3
              go_wp2_with fail
              go_ret
              exact ⟨ret_bool Hr.out.symm, by obtain ⟨q, e⟩ := y2.trans z2; rw [e]; exact Hup.out q⟩
            · have Hm := Lib.hid hm; clear hm
              go_wp2_with fail
              refine wp_region_since (by kernel_rfl) (by kernel_rfl) ?_
              repeat (go_big_quiet_step (fail))
              refine wpQuiet_nil ?_
              rintro _ ⟨z2, rfl⟩
              clear hz1 hz2 hz3
              go_wp2_with fail
              go_roundw
              case rel => exact ⟨k + 1, z2, by omega, by go_num, rfl, fun i hi => by
                by_cases hik : i < k
                · exact Hok.out i hik
                · obtain rfl : i = k := by omega
                  exact Hm.out⟩
              case measure => simp [intOf] <;> omega
            · have Hm := Lib.hid hm; clear hm
              have Hr := Lib.hid (show orderedB r = false by
                cases hh : orderedB r
                · rfl
                · have := (HO.out.1 hh).2 k hlt
                  rw [Hm.out] at this; cases this)
              go_wp2_with fail
              refine wp_region_since (by kernel_rfl) (by kernel_rfl) ?_
              repeat (go_big_quiet_step (fail))
              refine wpQuiet_nil ?_
              rintro _ ⟨z2, rfl⟩
              clear hz1 hz2 hz3
              go_wp2_with fail
              go_ret
              exact ⟨ret_bool Hr.out.symm, by obtain ⟨q, e⟩ := y2.trans z2; rw [e]; exact Hup.out q⟩
            · have Hm := Lib.hid hm; clear hm
              go_wp2_with fail
              refine wp_region_since (by kernel_rfl) (by kernel_rfl) ?_
              repeat (go_big_quiet_step (fail))
              refine wpQuiet_nil ?_
              rintro _ ⟨z2, rfl⟩
              clear hz1 hz2 hz3
              go_wp2_with fail
              go_roundw
              case rel => exact ⟨k + 1, z2, by omega, by go_num, rfl, fun i hi => by
                by_cases hik : i < k
                · exact Hok.out i hik
                · obtain rfl : i = k := by omega
                  exact Hm.out⟩
              case measure => simp [intOf] <;> omega
        · obtain rfl : k = M.length := by omega
          have Hr := Lib.hid (HO.out.2 ⟨HG2.out, Hok.out⟩)
          go_wp2_with fail
          go_ret
          exact ⟨ret_bool Hr.out.symm, by obtain ⟨q, e⟩ := y2.trans z; rw [e]; exact Hup.out q⟩
end Go.Proofs.Ytbkfcdheckkjaaa
/- The walks of the program's check of a ride, fourth part: the check. -/
namespace Go.Proofs.Ytbkfcdheckkjaaa
open Go.RowKit

set_option maxRecDepth 100000 in
set_option maxHeartbeats 8000000 in
theorem check_calls (w : World) (x : Since w) (r : Ride) (h : r.At w) :
    Calls Try.prog 35 #[.agg #[.int .i64 r.id, .int .i64 r.rd, .int .i64 r.s0, .int .i64 r.s1, .int .i64 r.e0, .int .i64 r.e1, .bool r.op, .slice r.la r.legs.length r.lc, .slice r.pa r.pauses.length r.pc, .int .i64 r.fw, .int .i64 r.fp, .int .i64 r.wh, .int .i64 r.pl]] x.w fun o w' => o = .returned (.int .i64 (rideE r)) ∧ ∃ y : Since w, w' = y.w := by
  have H := Lib.hid h
  clear h
  go_enter Try.func35, Try.ntmps35
  go_upto_region 1 with fail
  have hb0_0 : ∀ y : Since (x.w.alloc (.cells #[.int .i64 r.id, .int .i64 r.rd, .int .i64 r.s0, .int .i64 r.s1, .int .i64 r.e0, .int .i64 r.e1, .bool r.op, .slice r.la r.legs.length r.lc, .slice r.pa r.pauses.length r.pc, .int .i64 r.fw, .int .i64 r.fp, .int .i64 r.wh, .int .i64 r.pl] 44)), y.w.cell? ⟨x.w.heap.size, 0, none⟩ = some (.int .i64 r.id) := fun y => Since.cell (by simp [go_sem]) (by first | (simp; done) | (simp; omega)) y
  have hb0_1 : ∀ y : Since (x.w.alloc (.cells #[.int .i64 r.id, .int .i64 r.rd, .int .i64 r.s0, .int .i64 r.s1, .int .i64 r.e0, .int .i64 r.e1, .bool r.op, .slice r.la r.legs.length r.lc, .slice r.pa r.pauses.length r.pc, .int .i64 r.fw, .int .i64 r.fp, .int .i64 r.wh, .int .i64 r.pl] 44)), y.w.cell? ⟨x.w.heap.size, 1, none⟩ = some (.int .i64 r.rd) := fun y => Since.cell (by simp [go_sem]) (by first | (simp; done) | (simp; omega)) y
  have hb0_2 : ∀ y : Since (x.w.alloc (.cells #[.int .i64 r.id, .int .i64 r.rd, .int .i64 r.s0, .int .i64 r.s1, .int .i64 r.e0, .int .i64 r.e1, .bool r.op, .slice r.la r.legs.length r.lc, .slice r.pa r.pauses.length r.pc, .int .i64 r.fw, .int .i64 r.fp, .int .i64 r.wh, .int .i64 r.pl] 44)), y.w.cell? ⟨x.w.heap.size, 2, none⟩ = some (.int .i64 r.s0) := fun y => Since.cell (by simp [go_sem]) (by first | (simp; done) | (simp; omega)) y
  have hb0_3 : ∀ y : Since (x.w.alloc (.cells #[.int .i64 r.id, .int .i64 r.rd, .int .i64 r.s0, .int .i64 r.s1, .int .i64 r.e0, .int .i64 r.e1, .bool r.op, .slice r.la r.legs.length r.lc, .slice r.pa r.pauses.length r.pc, .int .i64 r.fw, .int .i64 r.fp, .int .i64 r.wh, .int .i64 r.pl] 44)), y.w.cell? ⟨x.w.heap.size, 3, none⟩ = some (.int .i64 r.s1) := fun y => Since.cell (by simp [go_sem]) (by first | (simp; done) | (simp; omega)) y
  have hb0_4 : ∀ y : Since (x.w.alloc (.cells #[.int .i64 r.id, .int .i64 r.rd, .int .i64 r.s0, .int .i64 r.s1, .int .i64 r.e0, .int .i64 r.e1, .bool r.op, .slice r.la r.legs.length r.lc, .slice r.pa r.pauses.length r.pc, .int .i64 r.fw, .int .i64 r.fp, .int .i64 r.wh, .int .i64 r.pl] 44)), y.w.cell? ⟨x.w.heap.size, 4, none⟩ = some (.int .i64 r.e0) := fun y => Since.cell (by simp [go_sem]) (by first | (simp; done) | (simp; omega)) y
  have hb0_5 : ∀ y : Since (x.w.alloc (.cells #[.int .i64 r.id, .int .i64 r.rd, .int .i64 r.s0, .int .i64 r.s1, .int .i64 r.e0, .int .i64 r.e1, .bool r.op, .slice r.la r.legs.length r.lc, .slice r.pa r.pauses.length r.pc, .int .i64 r.fw, .int .i64 r.fp, .int .i64 r.wh, .int .i64 r.pl] 44)), y.w.cell? ⟨x.w.heap.size, 5, none⟩ = some (.int .i64 r.e1) := fun y => Since.cell (by simp [go_sem]) (by first | (simp; done) | (simp; omega)) y
  have hb0_6 : ∀ y : Since (x.w.alloc (.cells #[.int .i64 r.id, .int .i64 r.rd, .int .i64 r.s0, .int .i64 r.s1, .int .i64 r.e0, .int .i64 r.e1, .bool r.op, .slice r.la r.legs.length r.lc, .slice r.pa r.pauses.length r.pc, .int .i64 r.fw, .int .i64 r.fp, .int .i64 r.wh, .int .i64 r.pl] 44)), y.w.cell? ⟨x.w.heap.size, 6, none⟩ = some (.bool r.op) := fun y => Since.cell (by simp [go_sem]) (by first | (simp; done) | (simp; omega)) y
  have hb0_7 : ∀ y : Since (x.w.alloc (.cells #[.int .i64 r.id, .int .i64 r.rd, .int .i64 r.s0, .int .i64 r.s1, .int .i64 r.e0, .int .i64 r.e1, .bool r.op, .slice r.la r.legs.length r.lc, .slice r.pa r.pauses.length r.pc, .int .i64 r.fw, .int .i64 r.fp, .int .i64 r.wh, .int .i64 r.pl] 44)), y.w.cell? ⟨x.w.heap.size, 7, none⟩ = some (.slice r.la r.legs.length r.lc) := fun y => Since.cell (by simp [go_sem]) (by first | (simp; done) | (simp; omega)) y
  have hb0_8 : ∀ y : Since (x.w.alloc (.cells #[.int .i64 r.id, .int .i64 r.rd, .int .i64 r.s0, .int .i64 r.s1, .int .i64 r.e0, .int .i64 r.e1, .bool r.op, .slice r.la r.legs.length r.lc, .slice r.pa r.pauses.length r.pc, .int .i64 r.fw, .int .i64 r.fp, .int .i64 r.wh, .int .i64 r.pl] 44)), y.w.cell? ⟨x.w.heap.size, 8, none⟩ = some (.slice r.pa r.pauses.length r.pc) := fun y => Since.cell (by simp [go_sem]) (by first | (simp; done) | (simp; omega)) y
  have hb0_9 : ∀ y : Since (x.w.alloc (.cells #[.int .i64 r.id, .int .i64 r.rd, .int .i64 r.s0, .int .i64 r.s1, .int .i64 r.e0, .int .i64 r.e1, .bool r.op, .slice r.la r.legs.length r.lc, .slice r.pa r.pauses.length r.pc, .int .i64 r.fw, .int .i64 r.fp, .int .i64 r.wh, .int .i64 r.pl] 44)), y.w.cell? ⟨x.w.heap.size, 9, none⟩ = some (.int .i64 r.fw) := fun y => Since.cell (by simp [go_sem]) (by first | (simp; done) | (simp; omega)) y
  have hb0_10 : ∀ y : Since (x.w.alloc (.cells #[.int .i64 r.id, .int .i64 r.rd, .int .i64 r.s0, .int .i64 r.s1, .int .i64 r.e0, .int .i64 r.e1, .bool r.op, .slice r.la r.legs.length r.lc, .slice r.pa r.pauses.length r.pc, .int .i64 r.fw, .int .i64 r.fp, .int .i64 r.wh, .int .i64 r.pl] 44)), y.w.cell? ⟨x.w.heap.size, 10, none⟩ = some (.int .i64 r.fp) := fun y => Since.cell (by simp [go_sem]) (by first | (simp; done) | (simp; omega)) y
  have hb0_11 : ∀ y : Since (x.w.alloc (.cells #[.int .i64 r.id, .int .i64 r.rd, .int .i64 r.s0, .int .i64 r.s1, .int .i64 r.e0, .int .i64 r.e1, .bool r.op, .slice r.la r.legs.length r.lc, .slice r.pa r.pauses.length r.pc, .int .i64 r.fw, .int .i64 r.fp, .int .i64 r.wh, .int .i64 r.pl] 44)), y.w.cell? ⟨x.w.heap.size, 11, none⟩ = some (.int .i64 r.wh) := fun y => Since.cell (by simp [go_sem]) (by first | (simp; done) | (simp; omega)) y
  have hb0_12 : ∀ y : Since (x.w.alloc (.cells #[.int .i64 r.id, .int .i64 r.rd, .int .i64 r.s0, .int .i64 r.s1, .int .i64 r.e0, .int .i64 r.e1, .bool r.op, .slice r.la r.legs.length r.lc, .slice r.pa r.pauses.length r.pc, .int .i64 r.fw, .int .i64 r.fp, .int .i64 r.wh, .int .i64 r.pl] 44)), y.w.cell? ⟨x.w.heap.size, 12, none⟩ = some (.int .i64 r.pl) := fun y => Since.cell (by simp [go_sem]) (by first | (simp; done) | (simp; omega)) y
  have hf0 : ∀ (y : Since (x.w.alloc (.cells #[.int .i64 r.id, .int .i64 r.rd, .int .i64 r.s0, .int .i64 r.s1, .int .i64 r.e0, .int .i64 r.e1, .bool r.op, .slice r.la r.legs.length r.lc, .slice r.pa r.pauses.length r.pc, .int .i64 r.fw, .int .i64 r.fp, .int .i64 r.wh, .int .i64 r.pl] 44))) (o : Nat), y.w.frozen? ⟨x.w.heap.size, o, none⟩ = false := fun y o => Since.free (by simp [go_sem]) (by first | (simp; done) | (simp; omega)) y
  have hWup : ∃ z : Since w, (x.w.alloc (.cells #[.int .i64 r.id, .int .i64 r.rd, .int .i64 r.s0, .int .i64 r.s1, .int .i64 r.e0, .int .i64 r.e1, .bool r.op, .slice r.la r.legs.length r.lc, .slice r.pa r.pauses.length r.pc, .int .i64 r.fw, .int .i64 r.fp, .int .i64 r.wh, .int .i64 r.pl] 44)) = z.w := x.alloc _
  obtain ⟨y0, hy0⟩ := Since.refl (x.w.alloc (.cells #[.int .i64 r.id, .int .i64 r.rd, .int .i64 r.s0, .int .i64 r.s1, .int .i64 r.e0, .int .i64 r.e1, .bool r.op, .slice r.la r.legs.length r.lc, .slice r.pa r.pauses.length r.pc, .int .i64 r.fw, .int .i64 r.fp, .int .i64 r.wh, .int .i64 r.pl] 44))
  have Hbx := Lib.hid (And.intro x.b.size (show x.w.heap.size + 1 = (x.w.alloc (.cells #[.int .i64 r.id, .int .i64 r.rd, .int .i64 r.s0, .int .i64 r.s1, .int .i64 r.e0, .int .i64 r.e1, .bool r.op, .slice r.la r.legs.length r.lc, .slice r.pa r.pauses.length r.pc, .int .i64 r.fw, .int .i64 r.fp, .int .i64 r.wh, .int .i64 r.pl] 44)).heap.size from by simp))
  generalize hW : (x.w.alloc (.cells #[.int .i64 r.id, .int .i64 r.rd, .int .i64 r.s0, .int .i64 r.s1, .int .i64 r.e0, .int .i64 r.e1, .bool r.op, .slice r.la r.legs.length r.lc, .slice r.pa r.pauses.length r.pc, .int .i64 r.fw, .int .i64 r.fp, .int .i64 r.wh, .int .i64 r.pl] 44)) = W at *
  clear hW
  generalize x.w.heap.size = bx at *
  have Hup := Lib.hid (Since.up hWup)
  rw [hy0]
  clear hy0
  replace H := Lib.hid (H.out.to hWup)
  clear hWup
  have Hra := Lib.hid (fun y : Since W => ranged_calls W y r H.out)
  have Hjo := Lib.hid (fun y : Since W => joined_calls W y r H.out)
  have Hor := Lib.hid (fun y : Since W => ordered_calls W y r H.out)
  have hgd := span_guard
  have heq := span_equal r.e0 r.e1 0 0
  have HE := Lib.hid (show rideE r = if rangedB r = false then 1 else if joinedB r = false then 3 else if orderedB r = false then 9 else if stateB r = true then 12 else 0 from rfl)
  have Hst := Lib.hid (show stateB r = ((r.op && !(decide (r.e0 = 0) && decide (r.e1 = 0))) || (r.op != decide (r.wh = 3))) from rfl)
  generalize stateB r = sb at *
  generalize rangedB r = rb at *
  generalize joinedB r = jb at *
  generalize orderedB r = ob at *
  cases rb with
  | false =>
    go_wp2_with (go_at_call 43; ((with_reducible refine (Hra.out _).mono ?_); rintro _ _ ⟨rfl, y1, rfl⟩))
    go_ret
    exact ⟨ret_int (by rw [HE.out]; rfl), Hup.out _⟩
  | true =>
    cases jb with
    | false =>
      go_wp2_with (first | (go_at_call 43; ((with_reducible refine (Hra.out _).mono ?_); rintro _ _ ⟨rfl, y1, rfl⟩)) | (go_at_call 44; ((with_reducible refine (Hjo.out _).mono ?_); rintro _ _ ⟨rfl, y2, rfl⟩)))
      go_ret
      exact ⟨ret_int (by rw [HE.out]; rfl), Hup.out _⟩
    | true =>
      cases ob with
      | false =>
        go_wp2_with (first | (go_at_call 43; ((with_reducible refine (Hra.out _).mono ?_); rintro _ _ ⟨rfl, y1, rfl⟩)) | (go_at_call 44; ((with_reducible refine (Hjo.out _).mono ?_); rintro _ _ ⟨rfl, y2, rfl⟩)) | (go_at_call 45; ((with_reducible refine (Hor.out _).mono ?_); rintro _ _ ⟨rfl, y3, rfl⟩)))
        go_ret
        exact ⟨ret_int (by rw [HE.out]; rfl), Hup.out _⟩
      | true =>
        go_upto_region 7 with (first | (go_at_call 43; ((with_reducible refine (Hra.out _).mono ?_); rintro _ _ ⟨rfl, y1, rfl⟩)) | (go_at_call 44; ((with_reducible refine (Hjo.out _).mono ?_); rintro _ _ ⟨rfl, y2, rfl⟩)) | (go_at_call 45; ((with_reducible refine (Hor.out _).mono ?_); rintro _ _ ⟨rfl, y3, rfl⟩)))
        clear Hra Hjo Hor
        cases hz : (decide (r.e0 = 0) && decide (r.e1 = 0)) with
        | false =>
          rw [hz] at heq Hst
          clear hz
          by_cases hw : r.wh = 3
          · have hwb : (r.wh == 3) = true := by simpa using hw
            rw [decide_eq_true hw] at Hst
            clear hw
            cases hop : r.op with
            | false =>
              rw [hop] at Hst
              go_wp2_with fail
              go_ret
              exact ⟨ret_int (by rw [HE.out, Hst.out]; rfl), Hup.out _⟩
            | true =>
              rw [hop] at Hst
              go_wp2_with fail
              go_ret
              exact ⟨ret_int (by rw [HE.out, Hst.out]; rfl), Hup.out _⟩
          · have hwb : (r.wh == 3) = false := by simpa using hw
            rw [decide_eq_false hw] at Hst
            clear hw
            cases hop : r.op with
            | false =>
              rw [hop] at Hst
              go_wp2_with fail
              go_ret
              exact ⟨ret_int (by rw [HE.out, Hst.out]; rfl), Hup.out _⟩
            | true =>
              rw [hop] at Hst
              go_wp2_with fail
              go_ret
              exact ⟨ret_int (by rw [HE.out, Hst.out]; rfl), Hup.out _⟩
        | true =>
          rw [hz] at heq Hst
          clear hz
          by_cases hw : r.wh = 3
          · have hwb : (r.wh == 3) = true := by simpa using hw
            rw [decide_eq_true hw] at Hst
            clear hw
            cases hop : r.op with
            | false =>
              rw [hop] at Hst
              go_wp2_with fail
              go_ret
              exact ⟨ret_int (by rw [HE.out, Hst.out]; rfl), Hup.out _⟩
            | true =>
              rw [hop] at Hst
              go_wp2_with fail
              go_ret
              exact ⟨ret_int (by rw [HE.out, Hst.out]; rfl), Hup.out _⟩
          · have hwb : (r.wh == 3) = false := by simpa using hw
            rw [decide_eq_false hw] at Hst
            clear hw
            cases hop : r.op with
            | false =>
              rw [hop] at Hst
              go_wp2_with fail
              go_ret
              exact ⟨ret_int (by rw [HE.out, Hst.out]; rfl), Hup.out _⟩
            | true =>
              rw [hop] at Hst
              go_wp2_with fail
              go_ret
              exact ⟨ret_int (by rw [HE.out, Hst.out]; rfl), Hup.out _⟩
end Go.Proofs.Ytbkfcdheckkjaaa
/- The walks of the reference's check of a ride, sixth part: the check; short lists of rides. -/
namespace Go.Proofs.Ytbkfcdheckkjaaa
open Go.RowKit

set_option maxRecDepth 100000 in
set_option maxHeartbeats 8000000 in
theorem rcheck_calls (w : World) (x : Since w) (r : Ride) (h : r.At w) :
    Calls Try.prog 42 #[.agg #[.int .i64 r.id, .int .i64 r.rd, .int .i64 r.s0, .int .i64 r.s1, .int .i64 r.e0, .int .i64 r.e1, .bool r.op, .slice r.la r.legs.length r.lc, .slice r.pa r.pauses.length r.pc, .int .i64 r.fw, .int .i64 r.fp, .int .i64 r.wh, .int .i64 r.pl]] x.w fun o w' => o = .returned (.int .i64 (rideE r)) ∧ ∃ y : Since w, w' = y.w := by
  have H := Lib.hid h
  clear h
  go_enter Try.func42, Try.ntmps42
  go_upto_region 1 with fail
  have hb0_0 : ∀ y : Since (x.w.alloc (.cells #[.int .i64 r.id, .int .i64 r.rd, .int .i64 r.s0, .int .i64 r.s1, .int .i64 r.e0, .int .i64 r.e1, .bool r.op, .slice r.la r.legs.length r.lc, .slice r.pa r.pauses.length r.pc, .int .i64 r.fw, .int .i64 r.fp, .int .i64 r.wh, .int .i64 r.pl] 44)), y.w.cell? ⟨x.w.heap.size, 0, none⟩ = some (.int .i64 r.id) := fun y => Since.cell (by simp [go_sem]) (by first | (simp; done) | (simp; omega)) y
  have hb0_1 : ∀ y : Since (x.w.alloc (.cells #[.int .i64 r.id, .int .i64 r.rd, .int .i64 r.s0, .int .i64 r.s1, .int .i64 r.e0, .int .i64 r.e1, .bool r.op, .slice r.la r.legs.length r.lc, .slice r.pa r.pauses.length r.pc, .int .i64 r.fw, .int .i64 r.fp, .int .i64 r.wh, .int .i64 r.pl] 44)), y.w.cell? ⟨x.w.heap.size, 1, none⟩ = some (.int .i64 r.rd) := fun y => Since.cell (by simp [go_sem]) (by first | (simp; done) | (simp; omega)) y
  have hb0_2 : ∀ y : Since (x.w.alloc (.cells #[.int .i64 r.id, .int .i64 r.rd, .int .i64 r.s0, .int .i64 r.s1, .int .i64 r.e0, .int .i64 r.e1, .bool r.op, .slice r.la r.legs.length r.lc, .slice r.pa r.pauses.length r.pc, .int .i64 r.fw, .int .i64 r.fp, .int .i64 r.wh, .int .i64 r.pl] 44)), y.w.cell? ⟨x.w.heap.size, 2, none⟩ = some (.int .i64 r.s0) := fun y => Since.cell (by simp [go_sem]) (by first | (simp; done) | (simp; omega)) y
  have hb0_3 : ∀ y : Since (x.w.alloc (.cells #[.int .i64 r.id, .int .i64 r.rd, .int .i64 r.s0, .int .i64 r.s1, .int .i64 r.e0, .int .i64 r.e1, .bool r.op, .slice r.la r.legs.length r.lc, .slice r.pa r.pauses.length r.pc, .int .i64 r.fw, .int .i64 r.fp, .int .i64 r.wh, .int .i64 r.pl] 44)), y.w.cell? ⟨x.w.heap.size, 3, none⟩ = some (.int .i64 r.s1) := fun y => Since.cell (by simp [go_sem]) (by first | (simp; done) | (simp; omega)) y
  have hb0_4 : ∀ y : Since (x.w.alloc (.cells #[.int .i64 r.id, .int .i64 r.rd, .int .i64 r.s0, .int .i64 r.s1, .int .i64 r.e0, .int .i64 r.e1, .bool r.op, .slice r.la r.legs.length r.lc, .slice r.pa r.pauses.length r.pc, .int .i64 r.fw, .int .i64 r.fp, .int .i64 r.wh, .int .i64 r.pl] 44)), y.w.cell? ⟨x.w.heap.size, 4, none⟩ = some (.int .i64 r.e0) := fun y => Since.cell (by simp [go_sem]) (by first | (simp; done) | (simp; omega)) y
  have hb0_5 : ∀ y : Since (x.w.alloc (.cells #[.int .i64 r.id, .int .i64 r.rd, .int .i64 r.s0, .int .i64 r.s1, .int .i64 r.e0, .int .i64 r.e1, .bool r.op, .slice r.la r.legs.length r.lc, .slice r.pa r.pauses.length r.pc, .int .i64 r.fw, .int .i64 r.fp, .int .i64 r.wh, .int .i64 r.pl] 44)), y.w.cell? ⟨x.w.heap.size, 5, none⟩ = some (.int .i64 r.e1) := fun y => Since.cell (by simp [go_sem]) (by first | (simp; done) | (simp; omega)) y
  have hb0_6 : ∀ y : Since (x.w.alloc (.cells #[.int .i64 r.id, .int .i64 r.rd, .int .i64 r.s0, .int .i64 r.s1, .int .i64 r.e0, .int .i64 r.e1, .bool r.op, .slice r.la r.legs.length r.lc, .slice r.pa r.pauses.length r.pc, .int .i64 r.fw, .int .i64 r.fp, .int .i64 r.wh, .int .i64 r.pl] 44)), y.w.cell? ⟨x.w.heap.size, 6, none⟩ = some (.bool r.op) := fun y => Since.cell (by simp [go_sem]) (by first | (simp; done) | (simp; omega)) y
  have hb0_7 : ∀ y : Since (x.w.alloc (.cells #[.int .i64 r.id, .int .i64 r.rd, .int .i64 r.s0, .int .i64 r.s1, .int .i64 r.e0, .int .i64 r.e1, .bool r.op, .slice r.la r.legs.length r.lc, .slice r.pa r.pauses.length r.pc, .int .i64 r.fw, .int .i64 r.fp, .int .i64 r.wh, .int .i64 r.pl] 44)), y.w.cell? ⟨x.w.heap.size, 7, none⟩ = some (.slice r.la r.legs.length r.lc) := fun y => Since.cell (by simp [go_sem]) (by first | (simp; done) | (simp; omega)) y
  have hb0_8 : ∀ y : Since (x.w.alloc (.cells #[.int .i64 r.id, .int .i64 r.rd, .int .i64 r.s0, .int .i64 r.s1, .int .i64 r.e0, .int .i64 r.e1, .bool r.op, .slice r.la r.legs.length r.lc, .slice r.pa r.pauses.length r.pc, .int .i64 r.fw, .int .i64 r.fp, .int .i64 r.wh, .int .i64 r.pl] 44)), y.w.cell? ⟨x.w.heap.size, 8, none⟩ = some (.slice r.pa r.pauses.length r.pc) := fun y => Since.cell (by simp [go_sem]) (by first | (simp; done) | (simp; omega)) y
  have hb0_9 : ∀ y : Since (x.w.alloc (.cells #[.int .i64 r.id, .int .i64 r.rd, .int .i64 r.s0, .int .i64 r.s1, .int .i64 r.e0, .int .i64 r.e1, .bool r.op, .slice r.la r.legs.length r.lc, .slice r.pa r.pauses.length r.pc, .int .i64 r.fw, .int .i64 r.fp, .int .i64 r.wh, .int .i64 r.pl] 44)), y.w.cell? ⟨x.w.heap.size, 9, none⟩ = some (.int .i64 r.fw) := fun y => Since.cell (by simp [go_sem]) (by first | (simp; done) | (simp; omega)) y
  have hb0_10 : ∀ y : Since (x.w.alloc (.cells #[.int .i64 r.id, .int .i64 r.rd, .int .i64 r.s0, .int .i64 r.s1, .int .i64 r.e0, .int .i64 r.e1, .bool r.op, .slice r.la r.legs.length r.lc, .slice r.pa r.pauses.length r.pc, .int .i64 r.fw, .int .i64 r.fp, .int .i64 r.wh, .int .i64 r.pl] 44)), y.w.cell? ⟨x.w.heap.size, 10, none⟩ = some (.int .i64 r.fp) := fun y => Since.cell (by simp [go_sem]) (by first | (simp; done) | (simp; omega)) y
  have hb0_11 : ∀ y : Since (x.w.alloc (.cells #[.int .i64 r.id, .int .i64 r.rd, .int .i64 r.s0, .int .i64 r.s1, .int .i64 r.e0, .int .i64 r.e1, .bool r.op, .slice r.la r.legs.length r.lc, .slice r.pa r.pauses.length r.pc, .int .i64 r.fw, .int .i64 r.fp, .int .i64 r.wh, .int .i64 r.pl] 44)), y.w.cell? ⟨x.w.heap.size, 11, none⟩ = some (.int .i64 r.wh) := fun y => Since.cell (by simp [go_sem]) (by first | (simp; done) | (simp; omega)) y
  have hb0_12 : ∀ y : Since (x.w.alloc (.cells #[.int .i64 r.id, .int .i64 r.rd, .int .i64 r.s0, .int .i64 r.s1, .int .i64 r.e0, .int .i64 r.e1, .bool r.op, .slice r.la r.legs.length r.lc, .slice r.pa r.pauses.length r.pc, .int .i64 r.fw, .int .i64 r.fp, .int .i64 r.wh, .int .i64 r.pl] 44)), y.w.cell? ⟨x.w.heap.size, 12, none⟩ = some (.int .i64 r.pl) := fun y => Since.cell (by simp [go_sem]) (by first | (simp; done) | (simp; omega)) y
  have hf0 : ∀ (y : Since (x.w.alloc (.cells #[.int .i64 r.id, .int .i64 r.rd, .int .i64 r.s0, .int .i64 r.s1, .int .i64 r.e0, .int .i64 r.e1, .bool r.op, .slice r.la r.legs.length r.lc, .slice r.pa r.pauses.length r.pc, .int .i64 r.fw, .int .i64 r.fp, .int .i64 r.wh, .int .i64 r.pl] 44))) (o : Nat), y.w.frozen? ⟨x.w.heap.size, o, none⟩ = false := fun y o => Since.free (by simp [go_sem]) (by first | (simp; done) | (simp; omega)) y
  have hWup : ∃ z : Since w, (x.w.alloc (.cells #[.int .i64 r.id, .int .i64 r.rd, .int .i64 r.s0, .int .i64 r.s1, .int .i64 r.e0, .int .i64 r.e1, .bool r.op, .slice r.la r.legs.length r.lc, .slice r.pa r.pauses.length r.pc, .int .i64 r.fw, .int .i64 r.fp, .int .i64 r.wh, .int .i64 r.pl] 44)) = z.w := x.alloc _
  obtain ⟨y0, hy0⟩ := Since.refl (x.w.alloc (.cells #[.int .i64 r.id, .int .i64 r.rd, .int .i64 r.s0, .int .i64 r.s1, .int .i64 r.e0, .int .i64 r.e1, .bool r.op, .slice r.la r.legs.length r.lc, .slice r.pa r.pauses.length r.pc, .int .i64 r.fw, .int .i64 r.fp, .int .i64 r.wh, .int .i64 r.pl] 44))
  have Hbx := Lib.hid (And.intro x.b.size (show x.w.heap.size + 1 = (x.w.alloc (.cells #[.int .i64 r.id, .int .i64 r.rd, .int .i64 r.s0, .int .i64 r.s1, .int .i64 r.e0, .int .i64 r.e1, .bool r.op, .slice r.la r.legs.length r.lc, .slice r.pa r.pauses.length r.pc, .int .i64 r.fw, .int .i64 r.fp, .int .i64 r.wh, .int .i64 r.pl] 44)).heap.size from by simp))
  generalize hW : (x.w.alloc (.cells #[.int .i64 r.id, .int .i64 r.rd, .int .i64 r.s0, .int .i64 r.s1, .int .i64 r.e0, .int .i64 r.e1, .bool r.op, .slice r.la r.legs.length r.lc, .slice r.pa r.pauses.length r.pc, .int .i64 r.fw, .int .i64 r.fp, .int .i64 r.wh, .int .i64 r.pl] 44)) = W at *
  clear hW
  generalize x.w.heap.size = bx at *
  have Hup := Lib.hid (Since.up hWup)
  rw [hy0]
  clear hy0
  replace H := Lib.hid (H.out.to hWup)
  clear hWup
  have Hra := Lib.hid (fun y : Since W => rranged_calls W y r H.out)
  have Hjo := Lib.hid (fun y : Since W => rjoined_calls W y r H.out)
  have Hor := Lib.hid (fun (hj : joinedB r = true) (y : Since W) => rordered_calls W y r H.out (by unfold joinedB at hj; simp only [Bool.and_eq_true, decide_eq_true_eq] at hj; omega))
  have hgd := span_guard
  have heq := span_equal r.e0 r.e1 0 0
  have HE := Lib.hid (show rideE r = if rangedB r = false then 1 else if joinedB r = false then 3 else if orderedB r = false then 9 else if stateB r = true then 12 else 0 from rfl)
  have Hst := Lib.hid (show stateB r = ((r.op && !(decide (r.e0 = 0) && decide (r.e1 = 0))) || (r.op != decide (r.wh = 3))) from rfl)
  generalize stateB r = sb at *
  generalize rangedB r = rb at *
  generalize joinedB r = jb at *
  generalize orderedB r = ob at *
  cases rb with
  | false =>
    go_wp2_with (go_at_call 49; ((with_reducible refine (Hra.out _).mono ?_); rintro _ _ ⟨rfl, y1, rfl⟩))
    go_ret
    exact ⟨ret_int (by rw [HE.out]; rfl), Hup.out _⟩
  | true =>
    cases jb with
    | false =>
      go_wp2_with (first | (go_at_call 49; ((with_reducible refine (Hra.out _).mono ?_); rintro _ _ ⟨rfl, y1, rfl⟩)) | (go_at_call 50; ((with_reducible refine (Hjo.out _).mono ?_); rintro _ _ ⟨rfl, y2, rfl⟩)))
      go_ret
      exact ⟨ret_int (by rw [HE.out]; rfl), Hup.out _⟩
    | true =>
      cases ob with
      | false =>
        go_wp2_with (first | (go_at_call 49; ((with_reducible refine (Hra.out _).mono ?_); rintro _ _ ⟨rfl, y1, rfl⟩)) | (go_at_call 50; ((with_reducible refine (Hjo.out _).mono ?_); rintro _ _ ⟨rfl, y2, rfl⟩)) | (go_at_call 51; ((with_reducible refine (Hor.out (by trivial) _).mono ?_); rintro _ _ ⟨rfl, y3, rfl⟩)))
        go_ret
        exact ⟨ret_int (by rw [HE.out]; rfl), Hup.out _⟩
      | true =>
        go_upto_region 7 with (first | (go_at_call 49; ((with_reducible refine (Hra.out _).mono ?_); rintro _ _ ⟨rfl, y1, rfl⟩)) | (go_at_call 50; ((with_reducible refine (Hjo.out _).mono ?_); rintro _ _ ⟨rfl, y2, rfl⟩)) | (go_at_call 51; ((with_reducible refine (Hor.out (by trivial) _).mono ?_); rintro _ _ ⟨rfl, y3, rfl⟩)))
        clear Hra Hjo Hor
        cases hz : (decide (r.e0 = 0) && decide (r.e1 = 0)) with
        | false =>
          rw [hz] at heq Hst
          clear hz
          by_cases hw : r.wh = 3
          · have hwb : (r.wh == 3) = true := by simpa using hw
            rw [decide_eq_true hw] at Hst
            clear hw
            cases hop : r.op with
            | false =>
              rw [hop] at Hst
              go_wp2_with fail
              go_ret
              exact ⟨ret_int (by rw [HE.out, Hst.out]; rfl), Hup.out _⟩
            | true =>
              rw [hop] at Hst
              go_wp2_with fail
              go_ret
              exact ⟨ret_int (by rw [HE.out, Hst.out]; rfl), Hup.out _⟩
          · have hwb : (r.wh == 3) = false := by simpa using hw
            rw [decide_eq_false hw] at Hst
            clear hw
            cases hop : r.op with
            | false =>
              rw [hop] at Hst
              go_wp2_with fail
              go_ret
              exact ⟨ret_int (by rw [HE.out, Hst.out]; rfl), Hup.out _⟩
            | true =>
              rw [hop] at Hst
              go_wp2_with fail
              go_ret
              exact ⟨ret_int (by rw [HE.out, Hst.out]; rfl), Hup.out _⟩
        | true =>
          rw [hz] at heq Hst
          clear hz
          by_cases hw : r.wh = 3
          · have hwb : (r.wh == 3) = true := by simpa using hw
            rw [decide_eq_true hw] at Hst
            clear hw
            cases hop : r.op with
            | false =>
              rw [hop] at Hst
              go_wp2_with fail
              go_ret
              exact ⟨ret_int (by rw [HE.out, Hst.out]; rfl), Hup.out _⟩
            | true =>
              rw [hop] at Hst
              go_wp2_with fail
              go_ret
              exact ⟨ret_int (by rw [HE.out, Hst.out]; rfl), Hup.out _⟩
          · have hwb : (r.wh == 3) = false := by simpa using hw
            rw [decide_eq_false hw] at Hst
            clear hw
            cases hop : r.op with
            | false =>
              rw [hop] at Hst
              go_wp2_with fail
              go_ret
              exact ⟨ret_int (by rw [HE.out, Hst.out]; rfl), Hup.out _⟩
            | true =>
              rw [hop] at Hst
              go_wp2_with fail
              go_ret
              exact ⟨ret_int (by rw [HE.out, Hst.out]; rfl), Hup.out _⟩
end Go.Proofs.Ytbkfcdheckkjaaa
/- The reference of rides: few rides, with few legs and pauses. -/
namespace Go.Proofs.Ytbkfcdheckkjaaa
open Go.RowKit

/-- at most so many rides, none of them with more than 40 legs or pauses -/
def fewB (l : List Ride) (n : Int) : Bool := l.all (fun r => decide (r.legs.length ≤ 40) && decide (r.pauses.length ≤ 40)) && decide ((l.length : Int) ≤ n)
set_option maxHeartbeats 4000000 in
theorem few_calls (w : World) (x : Since w) (a : Option Addr) (l : List Ride) (c : Nat) (n : Int) (h : RideRow w a l) (hl : l.length ≤ 9223372036854775807) :
    Calls Try.prog 12 #[.slice a l.length c, .int .i64 n] x.w fun o w' => o = .returned (.bool (fewB l n)) ∧ ∃ y : Since w, w' = y.w := by
  have HR := Lib.hid h
  have HF := Lib.hid (show fewB l n = (l.all (fun r => decide (r.legs.length ≤ 40) && decide (r.pauses.length ≤ 40)) && decide ((l.length : Int) ≤ n)) from rfl)
  clear h
  go_enter Try.func12, Try.ntmps12
  go_wp2_with fail
  go_loopw [5] (fun i wr => ∃ (k : Nat) (y : Since w), k ≤ l.length ∧ i = .int .i64 k ∧ wr = y.w ∧ ∀ j, j < k → ∀ e : Ride, l[j]? = some e → (decide (e.legs.length ≤ 40) && decide (e.pauses.length ≤ 40)) = true) (fun i _ => l.length - (intOf i).toNat)
  case atStart => exact ⟨0, _, by omega, rfl, rfl, fun j hj => by omega⟩
  case round =>
    obtain ⟨k, y, hk, rfl, rfl, hok⟩ := hrel
    have Hok := Lib.hid hok; clear hok
    by_cases hlt : k < l.length
    · obtain ⟨e, he⟩ : ∃ e, l[k]? = some e := ⟨_, List.getElem?_eq_getElem hlt⟩
      obtain ⟨b1, off1, rfl, h1'⟩ := Els.ride HR.out.c he
      have hlm := (HR.out.r e (List.mem_of_getElem? he)).lm
      have hpm := (HR.out.r e (List.mem_of_getElem? he)).pm
      have pa7 := h1'.c7
      have pa8 := h1'.c8
      have hk0 : (0 : Int) ≤ (k : Int) := by omega
      have hkl : (k : Int) < (l.length : Int) := by omega
      have He := Lib.hid he
      clear h1' he
      rcases (by omega : 40 < e.legs.length ∨ (e.legs.length ≤ 40 ∧ 40 < e.pauses.length) ∨ (e.legs.length ≤ 40 ∧ e.pauses.length ≤ 40)) with h1 | ⟨h1, h2⟩ | ⟨h1, h2⟩
      case inr.inr =>
        have Hv := Lib.hid (show (decide (e.legs.length ≤ 40) && decide (e.pauses.length ≤ 40)) = true by simp [h1, h2])
        go_wp2_with fail
        go_roundw
        case rel => exact ⟨k + 1, y, by omega, by go_num, rfl, upto_next (P := fun e : Ride => (decide (e.legs.length ≤ 40) && decide (e.pauses.length ≤ 40)) = true) Hok.out He.out Hv.out⟩
        case measure => simp [intOf] <;> omega
      all_goals
        have Hr := Lib.hid (show fewB l n = false by rw [HF.out, all_no He.out (by first | (simp; omega) | (simp [h1]; omega))]; rfl)
        go_wp2_with fail
        go_ret
        exact ⟨ret_bool Hr.out.symm, _, rfl⟩
    · obtain rfl : k = l.length := by omega
      have Hr := Lib.hid (show fewB l n = decide ((l.length : Int) ≤ n) by rw [HF.out, all_yes Hok.out]; rfl)
      go_wp2_with fail
      go_ret
      exact ⟨ret_bool Hr.out.symm, _, rfl⟩
end Go.Proofs.Ytbkfcdheckkjaaa
/- Worlds with new blocks and draws, no more; comparing numbers: what the library's sort asks of a comparison. -/
namespace Go.Proofs.Ytbkfcdheckkjaaa
open Go.RowKit Go.Sort

/-- new blocks and draws, no more -/
def Gr (w w' : World) : Prop := ∃ (q : Nat) (os : Array Obj), w' = grow (w.drewN q) os
theorem Gr.refl (w : World) : Gr w w := ⟨0, #[], by simp [grow, World.drewN]⟩
theorem Gr.trans {a b c : World} (h : Gr a b) (k : Gr b c) : Gr a c := by
  obtain ⟨q, os, rfl⟩ := h
  obtain ⟨q', os', rfl⟩ := k
  exact ⟨q + q', os ++ os', by simp [grow, World.drewN, Nat.add_assoc, Array.append_assoc]⟩
theorem Gr.alloc (w : World) (o : Obj) : Gr w (w.alloc o) := ⟨0, #[o], by rw [alloc_eq_grow]; rfl⟩
theorem Gr.drewN (w : World) (q : Nat) : Gr w (w.drewN q) := ⟨q, #[], by rw [grow_empty]⟩
theorem Gr.since {w w' : World} (h : Gr w w') : ∃ y : Since w, w' = y.w := by
  obtain ⟨q, os, rfl⟩ := h
  exact ⟨⟨grow (w.drewN q) os, ⟨rfl, rfl, rfl, by simp [grow, World.drewN], fun b hb => by simp [grow, World.drewN, Array.getElem?_append, hb]⟩⟩, rfl⟩

structure GrW (w0 : World) where
  w : World
  g : Gr w0 w
instance (w0 : World) : Nonempty (GrW w0) := ⟨⟨w0, Gr.refl _⟩⟩
theorem wp_region_gr {P : Program} {id : Nat} {Q : Exit → Act → World → Prop} {a : Act} {w0 : World} {x : GrW w0} {l : List Oper} (hm : P.follows .mixedOrders = true) (hB : Region.lexB .any l.toArray = true)
    (h : wpQuiet P l.toArray (fun w' => ∃ y : GrW w0, w' = y.w) (fun a' => ∀ w', (∃ y : GrW w0, w' = y.w) → Q .normal a' w') l a) : (Code.region id l.toArray true).wp P Q a x.w :=
  wp_region_quiet (C := fun w' => ∃ y : GrW w0, w' = y.w) hm hB ⟨⟨_, x.g.trans (Gr.drewN x.w 1)⟩, rfl⟩ (by simpa using h)
theorem GrW.refl (w0 : World) : ∃ y : GrW w0, w0 = y.w := ⟨⟨w0, Gr.refl _⟩, rfl⟩
theorem GrW.step {w0 : World} (x : GrW w0) {w : World} (h : Gr x.w w) : ∃ y : GrW w0, w = y.w := ⟨⟨w, x.g.trans h⟩, rfl⟩
theorem GrW.cell {w0 : World} {a : Addr} {v : Value} (h : w0.cell? a = some v) (y : GrW w0) : y.w.cell? a = some v := by
  obtain ⟨z, e⟩ := y.g.since
  rw [e]
  have hb := World.block_lt_of_cell? w0 _ h
  rw [z.b.cell (p := a) hb]; exact h
theorem Gr.drew' {a b : World} (h : Gr a b) : Gr a b.drew := h.trans (Gr.drewN b 1)
theorem Gr.alloc' {a b : World} (h : Gr a b) (o : Obj) : Gr a (b.alloc o) := h.trans (Gr.alloc b o)
theorem Gr.cell {W w : World} {a : Addr} {v : Value} (h : W.cell? a = some v) (hw : Gr W w) : w.cell? a = some v := GrW.cell h ⟨w, hw⟩
/-- a number before another one -/
def ccmp (x y : Int) : Int := if x < y then -1 else if y < x then 1 else 0
theorem nan_calls (x : Int) (w : World) : Calls Try.prog 48 #[.int .i64 x] w fun e w' => e = .returned (.bool false) ∧ w = w' := by
  have h : (x != x) = false := by simp
  go_enter Try.func48, Try.ntmps48
  go_wp2_with fail
  go_ret
  exact ⟨rfl, rfl⟩
theorem ccmp_calls (x y : Int) (w : World) : Calls Try.prog 39 #[.int .i64 x, .int .i64 y] w fun e w' => e = .returned (.int .i64 (ccmp x y)) ∧ w = w' := by
  rcases (by omega : x < y ∨ (¬ x < y ∧ y < x) ∨ (¬ x < y ∧ ¬ y < x)) with h | ⟨h, h'⟩ | ⟨h, h'⟩
  · have hc := Lib.hid (show ccmp x y = -1 from by unfold ccmp; rw [if_pos h])
    go_enter Try.func39, Try.ntmps39
    go_wp2_with (go_at_call 48; refine (nan_calls _ _).mono ?_; rintro _ _ ⟨rfl, rfl⟩)
    go_ret
    exact ⟨ret_int hc.out.symm, rfl⟩
  · have hc := Lib.hid (show ccmp x y = 1 from by unfold ccmp; rw [if_neg h, if_pos h'])
    have h2 : y ≤ x := by omega
    go_enter Try.func39, Try.ntmps39
    go_wp2_with (go_at_call 48; refine (nan_calls _ _).mono ?_; rintro _ _ ⟨rfl, rfl⟩)
    go_ret
    exact ⟨ret_int hc.out.symm, rfl⟩
  · have hc := Lib.hid (show ccmp x y = 0 from by unfold ccmp; rw [if_neg h, if_neg h'])
    have h2 : y ≤ x := by omega
    have h3 : x ≤ y := by omega
    go_enter Try.func39, Try.ntmps39
    go_wp2_with (go_at_call 48; refine (nan_calls _ _).mono ?_; rintro _ _ ⟨rfl, rfl⟩)
    go_ret
    exact ⟨ret_int hc.out.symm, rfl⟩

end Go.Proofs.Ytbkfcdheckkjaaa
/- The library's functions that the program of passes calls, laid over its translation. -/
namespace Go.Proofs.Ytbkfcdheckkjaaa
open Go.Shelf Go.RowKit Go.Lib Go.Sort

def Try.sortInt_ren : Go.Shelf.Ren := ⟨fun | 6 => 36 | 15 => 47 | 14 => 46 | 28 => 61 | 29 => 62 | 20 => 53 | 21 => 54 | 22 => 55 | 23 => 56 | 24 => 57 | 25 => 58 | 26 => 59 | 27 => 60 | 46 => 65 | 47 => 66 | 48 => 67 | 49 => 68 | 50 => 69 | 57 => 70 | n => n, fun | 22 => 29 | 24 => 3 | 25 => 73 | 3 => 3 | 39 => 81 | 0 => 0 | 53 => 95 | 55 => 97 | 4 => 4 | 46 => 88 | 45 => 87 | 50 => 92 | 5 => 5 | 9 => 9 | 66 => 99 | 70 => 103 | 76 => 105 | 77 => 37 | n => n, fun | n => n⟩
theorem Try.sortInt : Go.Proofs.SlLaysF.n6 Try.prog Try.sortInt_ren := {
  mixed := by kernel_rfl
  f6 := ⟨Try.f36.name, by decide, Try.func36.trans (congrArg some (by kernel_rfl))⟩
  f14 := ⟨Try.f46.name, by decide, Try.func46.trans (congrArg some (by kernel_rfl))⟩
  f15 := Try.func47.trans (congrArg some (by kernel_rfl))
  f20 := ⟨Try.f53.name, by decide, Try.func53.trans (congrArg some (by kernel_rfl))⟩
  f21 := ⟨Try.f54.name, by decide, Try.func54.trans (congrArg some (by kernel_rfl))⟩
  f22 := ⟨Try.f55.name, by decide, Try.func55.trans (congrArg some (by kernel_rfl))⟩
  f23 := ⟨Try.f56.name, by decide, Try.func56.trans (congrArg some (by kernel_rfl))⟩
  f24 := ⟨Try.f57.name, by decide, Try.func57.trans (congrArg some (by kernel_rfl))⟩
  f25 := ⟨Try.f58.name, by decide, Try.func58.trans (congrArg some (by kernel_rfl))⟩
  f26 := ⟨Try.f59.name, by decide, Try.func59.trans (congrArg some (by kernel_rfl))⟩
  f27 := ⟨Try.f60.name, by decide, Try.func60.trans (congrArg some (by kernel_rfl))⟩
  f28 := Try.func61.trans (congrArg some (by kernel_rfl))
  f29 := Try.func62.trans (congrArg some (by kernel_rfl))
  f46 := ⟨Try.f65.name, by decide, Try.func65.trans (congrArg some (by kernel_rfl))⟩
  f47 := Try.func66.trans (congrArg some (by kernel_rfl))
  f48 := Try.func67.trans (congrArg some (by kernel_rfl))
  f49 := ⟨Try.f68.name, by decide, Try.func68.trans (congrArg some (by kernel_rfl))⟩
  f50 := ⟨Try.f69.name, by decide, Try.func69.trans (congrArg some (by kernel_rfl))⟩
  f57 := ⟨Try.f70.name, by decide, Try.func70.trans (congrArg some (by kernel_rfl))⟩
  t0 := Try.underlying0
  a0 := Try.isAgg0
  z0 := Try.sizeOf0
  v0 := Try.zeroValue0
  t3 := Try.underlying3
  a3 := Try.isAgg3
  z3 := Try.sizeOf3
  v3 := Try.zeroValue3
  t4 := Try.underlying4
  a4 := Try.isAgg4
  z4 := Try.sizeOf4
  v4 := Try.zeroValue4
  t5 := Try.underlying5
  a5 := Try.isAgg5
  z5 := Try.sizeOf5
  v5 := Try.zeroValue5
  t9 := Try.underlying9
  a9 := Try.isAgg9
  z9 := Try.sizeOf9
  v9 := Try.zeroValue9
  t22 := Try.underlying29
  a22 := Try.isAgg29
  z22 := Try.sizeOf29
  v22 := Try.zeroValue29
  a24 := Try.isAgg3
  z24 := Try.sizeOf3
  t25 := Try.underlying73
  a25 := Try.isAgg73
  z25 := Try.sizeOf73
  v25 := Try.zeroValue73
  t39 := Try.underlying81
  a39 := Try.isAgg81
  z39 := Try.sizeOf81
  v39 := Try.zeroValue81
  t45 := Try.underlying87
  a45 := Try.isAgg87
  z45 := Try.sizeOf87
  v45 := Try.zeroValue87
  t46 := Try.underlying88
  a46 := Try.isAgg88
  z46 := Try.sizeOf88
  v46 := Try.zeroValue88
  t50 := Try.underlying92
  a50 := Try.isAgg92
  z50 := Try.sizeOf92
  v50 := Try.zeroValue92
  t53 := Try.underlying95
  a53 := Try.isAgg95
  z53 := Try.sizeOf95
  v53 := Try.zeroValue95
  t55 := Try.underlying97
  a55 := Try.isAgg97
  z55 := Try.sizeOf97
  v55 := Try.zeroValue97
  t66 := Try.underlying99
  a66 := Try.isAgg99
  z66 := Try.sizeOf99
  v66 := Try.zeroValue99
  t70 := Try.underlying103
  a70 := Try.isAgg103
  z70 := Try.sizeOf103
  v70 := Try.zeroValue103
  t76 := Try.underlying105
  a76 := Try.isAgg105
  z76 := Try.sizeOf105
  v76 := Try.zeroValue105
  t77 := Try.underlying37
  a77 := Try.isAgg37
  z77 := Try.sizeOf37
  v77 := Try.zeroValue37 }
def Try.idxPass_ren : Go.Shelf.Ren := ⟨fun | 6 => 40 | n => n, fun | 22 => 22 | 23 => 49 | 25 => 59 | 3 => 3 | 0 => 0 | 4 => 4 | n => n, fun | n => n⟩
theorem Try.idxPass : Go.Proofs.SlLaysH0.n6 Try.prog Try.idxPass_ren := {
  mixed := by kernel_rfl
  f6 := ⟨Try.f40.name, by decide, Try.func40.trans (congrArg some (by kernel_rfl))⟩
  t0 := Try.underlying0
  a0 := Try.isAgg0
  z0 := Try.sizeOf0
  v0 := Try.zeroValue0
  t3 := Try.underlying3
  a3 := Try.isAgg3
  z3 := Try.sizeOf3
  v3 := Try.zeroValue3
  t4 := Try.underlying4
  a4 := Try.isAgg4
  z4 := Try.sizeOf4
  v4 := Try.zeroValue4
  t22 := Try.underlying22
  a22 := Try.isAgg22
  z22 := Try.sizeOf22
  v22 := Try.zeroValue22
  t25 := Try.underlying59
  a25 := Try.isAgg59
  z25 := Try.sizeOf59
  v25 := Try.zeroValue59 }
end Go.Proofs.Ytbkfcdheckkjaaa
/- Passes and the rides that they pay: the plain mathematics: no program in sight. -/
namespace Go.Proofs.Ytbkfcdheckkjaaa
open Go.RowKit

/-- a pass: number, rider, first day, day behind the last one, rides of a day, seconds -/
structure Pass where
  id : Int
  rd : Int
  f : Int
  t : Int
  n : Int
  s : Int
def Pass.cs (x : Pass) : List Value := [.int .i64 x.id, .int .i64 x.rd, .int .i64 x.f, .int .i64 x.t, .int .i64 x.n, .int .i64 x.s]
theorem Pass.len (x : Pass) : x.cs.length = 6 := rfl
instance : Inhabited Pass := ⟨⟨0, 0, 0, 0, 0, 0⟩⟩
structure PassCells (w : World) (b o : Nat) (e : Pass) : Prop where
  c0 : ∀ y : Since w, y.w.cell? ⟨b, o, none⟩ = some (.int .i64 e.id)
  c1 : ∀ y : Since w, y.w.cell? ⟨b, o + 1, none⟩ = some (.int .i64 e.rd)
  c2 : ∀ y : Since w, y.w.cell? ⟨b, o + 2, none⟩ = some (.int .i64 e.f)
  c3 : ∀ y : Since w, y.w.cell? ⟨b, o + 3, none⟩ = some (.int .i64 e.t)
  c4 : ∀ y : Since w, y.w.cell? ⟨b, o + 4, none⟩ = some (.int .i64 e.n)
  c5 : ∀ y : Since w, y.w.cell? ⟨b, o + 5, none⟩ = some (.int .i64 e.s)
theorem Els.pass {w : World} {a : Option Addr} {l : List Pass} (h : Els Pass.cs 6 w a l) {k : Nat} {x : Pass} (hk : l[k]? = some x) : ∃ b off, a = some ⟨b, off, none⟩ ∧ PassCells w b (off + k * 6) x := by
  obtain ⟨b, off, ha, hb, hc⟩ := h k x hk
  refine ⟨b, off, ha, ?_⟩
  have hh : ∀ j v, x.cs[j]? = some v → ∀ y : Since w, y.w.cell? ⟨b, off + k * 6 + j, none⟩ = some v := fun j v hv => Since.cell (hc j v hv) hb
  exact ⟨hh 0 _ rfl, hh 1 _ rfl, hh 2 _ rfl, hh 3 _ rfl, hh 4 _ rfl, hh 5 _ rfl⟩
abbrev PassRow (w : World) (a : Option Addr) (l : List Pass) : Prop := Els Pass.cs 6 w a l

def goodP (p : Pass) : Bool := decide (1 ≤ p.id) && decide (p.id ≤ 1000000) && decide (0 ≤ p.rd) && decide (p.rd ≤ 127) && decide (1 ≤ p.n) && decide (p.n ≤ 256) && decide (0 ≤ p.s) && decide (p.s ≤ 86400) && decide (0 ≤ p.f) && decide (p.f < p.t) && decide (p.t ≤ 49710)
theorem goodP_iff (p : Pass) : goodP p = true ↔ 1 ≤ p.id ∧ p.id ≤ 1000000 ∧ 0 ≤ p.rd ∧ p.rd ≤ 127 ∧ 1 ≤ p.n ∧ p.n ≤ 256 ∧ 0 ≤ p.s ∧ p.s ≤ 86400 ∧ 0 ≤ p.f ∧ p.f < p.t ∧ p.t ≤ 49710 := by simp [goodP, and_assoc]
/-- some number is there twice -/
def dupB (l : List Int) : Bool := !decide l.Nodup
theorem dupB_true {l : List Int} (h : ¬ l.Nodup) : dupB l = true := by unfold dupB; rw [decide_eq_false h]; rfl
theorem dupB_false {l : List Int} (h : l.Nodup) : dupB l = false := by unfold dupB; rw [decide_eq_true h]; rfl
theorem dupB_cases (l : List Int) : (dupB l = true ∧ ¬ l.Nodup) ∨ (dupB l = false ∧ l.Nodup) := by
  by_cases h : l.Nodup
  · exact .inr ⟨dupB_false h, h⟩
  · exact .inl ⟨dupB_true h, h⟩
theorem nodup_take_next {l : List Int} {k : Nat} {x : Int} (hx : l[k]? = some x) : (l.take (k + 1)).Nodup ↔ (l.take k).Nodup ∧ x ∉ l.take k := by
  rw [List.take_succ_eq_append_getElem (List.getElem?_eq_some_iff.1 hx).1, (List.getElem?_eq_some_iff.1 hx).2, List.nodup_append]
  constructor
  · rintro ⟨h1, _, h3⟩; exact ⟨h1, fun h => h3 x h x (by simp) rfl⟩
  · rintro ⟨h1, h2⟩; exact ⟨h1, by simp, fun a ha b hb hab => h2 (by simp at hb; subst hb; subst hab; exact ha)⟩
theorem nodup_of_take {l : List Int} {k : Nat} (h : l.Nodup) : (l.take k).Nodup := h.sublist (List.take_sublist _ _)
/-- the error of passes -/
def passE (l : List Pass) : Int := if 64 < l.length then 8 else if l.all goodP = false then 1 else if dupB (l.map (·.id)) = true then 6 else 0
/-- the first error of rides -/
def firstErr (l : List Ride) : Int := match l.find? (fun r => rideE r != 0) with | some r => rideE r | none => 0
theorem firstErr_at {l : List Ride} {k : Nat} {r : Ride} (hr : l[k]? = some r) (he : rideE r ≠ 0) (hn : ∀ j, j < k → ∀ x, l[j]? = some x → rideE x = 0) : firstErr l = rideE r := by
  unfold firstErr
  have : l.find? (fun r => rideE r != 0) = some r := by
    rw [List.find?_eq_some_iff_getElem]
    refine ⟨by simpa using he, k, (List.getElem?_eq_some_iff.1 hr).1, (List.getElem?_eq_some_iff.1 hr).2, fun j hj => ?_⟩
    have := hn j hj _ (List.getElem?_eq_getElem (by have := (List.getElem?_eq_some_iff.1 hr).1; omega))
    simp [this]
  rw [this]
theorem firstErr_none {l : List Ride} (hn : ∀ j, j < l.length → ∀ x, l[j]? = some x → rideE x = 0) : firstErr l = 0 := by
  unfold firstErr
  have : l.find? (fun r => rideE r != 0) = none := by
    rw [List.find?_eq_none]
    intro x hx
    obtain ⟨j, hj⟩ := List.mem_iff_getElem?.1 hx
    simp [hn j (List.getElem?_eq_some_iff.1 hj).1 x hj]
  rw [this]
/-- the error of a list of rides -/
def ridesE (l : List Ride) : Int := if 256 < l.length then 8 else if firstErr l ≠ 0 then firstErr l else if dupB (l.map (·.id)) = true then 6 else 0
def usesE (lp : List Pass) (lr : List Ride) : Int := if passE lp ≠ 0 then passE lp else ridesE lr

def day (r : Ride) : Int := r.s0 / 86400
/-- a comes before b -/
def bef (a b : Ride) : Bool := decide (a.s0 < b.s0) || (decide (a.s0 = b.s0) && (decide (a.e0 < b.e0) || (decide (a.e0 = b.e0) && decide (a.id < b.id))))
theorem bef_iff (a b : Ride) : bef a b = true ↔ a.s0 < b.s0 ∨ (a.s0 = b.s0 ∧ (a.e0 < b.e0 ∨ (a.e0 = b.e0 ∧ a.id < b.id))) := by simp [bef]
theorem bef_irrefl (a : Ride) : bef a a = false := by
  cases h : bef a a
  · rfl
  · rw [bef_iff] at h; omega
theorem bef_trans {a b c : Ride} (h1 : bef a b = true) (h2 : bef b c = true) : bef a c = true := by rw [bef_iff] at *; omega
theorem bef_asymm {a b : Ride} (h : bef a b = true) : bef b a = false := by
  cases h2 : bef b a
  · rfl
  · have := bef_trans h h2; rw [bef_irrefl] at this; cases this
theorem bef_total {a b : Ride} (h1 : bef a b = false) (h2 : bef b a = false) : a.id = b.id := by
  have n1 : ¬ bef a b = true := by rw [h1]; simp
  have n2 : ¬ bef b a = true := by rw [h2]; simp
  rw [bef_iff] at n1 n2; omega
theorem bef_ntrans {a b c : Ride} (h1 : bef a b = false) (h2 : bef b c = false) : bef a c = false := by
  have n1 : ¬ bef a b = true := by rw [h1]; simp
  have n2 : ¬ bef b c = true := by rw [h2]; simp
  cases h : bef a c
  · rfl
  · rw [bef_iff] at n1 n2 h; omega
/-- pass p belongs to the rider of r and is valid on its day -/
def vP (p : Pass) (r : Ride) : Bool := decide (p.rd = r.rd) && (decide (p.f ≤ day r) && decide (day r < p.t))
def rAt (R : List Ride) (i : Nat) : Ride := R.getD i default
def pAt (l : List Pass) (i : Nat) : Pass := l.getD i default
theorem rAt_eq {R : List Ride} {i : Nat} {x : Ride} (h : R[i]? = some x) : rAt R i = x := by unfold rAt; rw [List.getD_eq_getElem?_getD, h]; rfl
theorem pAt_eq {R : List Pass} {i : Nat} {x : Pass} (h : R[i]? = some x) : pAt R i = x := by unfold pAt; rw [List.getD_eq_getElem?_getD, h]; rfl
/-- how many rides of the day of x that come before it are paid by pass k -/
def cnt (R : List Ride) (u : Nat → Int) (x : Ride) (k : Int) : Nat := ((List.range R.length).filter fun j => bef (rAt R j) x && decide (u j = k) && decide (day (rAt R j) = day x)).length
/-- the first pass that pays r, if pass k has paid c k rides -/
def firstP (lp : List Pass) (r : Ride) (c : Int → Nat) : Int := match (List.range lp.length).find? (fun k => vP (pAt lp k) r && decide ((c (k : Int) : Int) < (pAt lp k).n)) with | some k => (k : Int) | none => -1
/-- u says for each ride which pass pays it -/
def IsUse (lp : List Pass) (R : List Ride) (u : Nat → Int) : Prop := ∀ i, i < R.length → u i = firstP lp (rAt R i) (cnt R u (rAt R i))
theorem firstP_congr {lp : List Pass} {r : Ride} {c d : Int → Nat} (h : ∀ k, k < lp.length → c (k : Int) = d (k : Int)) : firstP lp r c = firstP lp r d := by
  unfold firstP
  have : (List.range lp.length).find? (fun k => vP (pAt lp k) r && decide ((c (k : Int) : Int) < (pAt lp k).n)) = (List.range lp.length).find? (fun k => vP (pAt lp k) r && decide ((d (k : Int) : Int) < (pAt lp k).n)) := by
    have hg : ∀ l : List Nat, (∀ k ∈ l, k < lp.length) → l.find? (fun k => vP (pAt lp k) r && decide ((c (k : Int) : Int) < (pAt lp k).n)) = l.find? (fun k => vP (pAt lp k) r && decide ((d (k : Int) : Int) < (pAt lp k).n)) := by
      intro l
      induction l with
      | nil => intro _; rfl
      | cons a l ih =>
        intro hl
        simp only [List.find?_cons]
        rw [h a (hl a (by simp)), ih (fun k hk => hl k (by simp [hk]))]
    exact hg _ (fun k hk => List.mem_range.1 hk)
  rw [this]
theorem firstP_yes {lp : List Pass} {r : Ride} {c : Int → Nat} {k : Nat} (hk : k < lp.length) (h : (vP (pAt lp k) r && decide ((c (k : Int) : Int) < (pAt lp k).n)) = true) (hn : ∀ j, j < k → (vP (pAt lp j) r && decide ((c (j : Int) : Int) < (pAt lp j).n)) = false) : firstP lp r c = k := by
  unfold firstP
  have : (List.range lp.length).find? (fun k => vP (pAt lp k) r && decide ((c (k : Int) : Int) < (pAt lp k).n)) = some k := by
    rw [List.find?_eq_some_iff_getElem]
    refine ⟨h, k, by simpa using hk, by simp, fun j hj => ?_⟩
    simp only [List.getElem_range]
    rw [hn j hj]; rfl
  rw [this]
theorem firstP_no {lp : List Pass} {r : Ride} {c : Int → Nat} (hn : ∀ j, j < lp.length → (vP (pAt lp j) r && decide ((c (j : Int) : Int) < (pAt lp j).n)) = false) : firstP lp r c = -1 := by
  unfold firstP
  have : (List.range lp.length).find? (fun k => vP (pAt lp k) r && decide ((c (k : Int) : Int) < (pAt lp k).n)) = none := by
    rw [List.find?_eq_none]
    intro j hj
    rw [hn j (List.mem_range.1 hj)]; simp
  rw [this]
/-- what it means -/
theorem firstP_cases (lp : List Pass) (r : Ride) (c : Int → Nat) : (∃ k : Nat, k < lp.length ∧ firstP lp r c = k ∧ (vP (pAt lp k) r && decide ((c (k : Int) : Int) < (pAt lp k).n)) = true ∧ ∀ j, j < k → (vP (pAt lp j) r && decide ((c (j : Int) : Int) < (pAt lp j).n)) = false) ∨
    (firstP lp r c = -1 ∧ ∀ j, j < lp.length → (vP (pAt lp j) r && decide ((c (j : Int) : Int) < (pAt lp j).n)) = false) := by
  cases h : (List.range lp.length).find? (fun k => vP (pAt lp k) r && decide ((c (k : Int) : Int) < (pAt lp k).n)) with
  | none =>
    refine .inr ⟨by unfold firstP; rw [h], fun j hj => ?_⟩
    rw [List.find?_eq_none] at h
    simpa using h j (List.mem_range.2 hj)
  | some k =>
    refine .inl ⟨k, ?_⟩
    have h' := h
    rw [List.find?_eq_some_iff_getElem] at h'
    obtain ⟨hp, i, hi, hik, hn⟩ := h'
    simp at hik; subst hik
    refine ⟨by simpa using hi, by unfold firstP; rw [h], hp, fun j hj => ?_⟩
    have := hn j hj
    simpa only [List.getElem_range, Bool.not_eq_true'] using this
theorem filter_lt {α : Type} {p q : α → Bool} : ∀ {l : List α} {a : α}, a ∈ l → (∀ x, p x = true → q x = true) → q a = true → p a = false → (l.filter p).length < (l.filter q).length
  | [], _, h, _, _, _ => by cases h
  | x :: l, a, h, hpq, hq, hp => by
    have hle : (l.filter p).length ≤ (l.filter q).length := by
      clear h
      induction l with
      | nil => simp
      | cons y l ih =>
        simp only [List.filter_cons]
        cases hy : p y
        · cases hy2 : q y <;> simp <;> omega
        · rw [hpq y hy]; simp; exact ih
    rcases List.mem_cons.1 h with rfl | h
    · simp only [List.filter_cons, hp, hq]; simp; omega
    · have ih := filter_lt h hpq hq hp
      simp only [List.filter_cons]
      cases hx : p x
      · cases hx2 : q x <;> simp <;> omega
      · rw [hpq x hx]; simp; exact ih
/-- how many rides come before x -/
def rank (R : List Ride) (x : Ride) : Nat := ((List.range R.length).filter fun j => bef (rAt R j) x).length
theorem rank_lt {R : List Ride} {j : Nat} {x : Ride} (hj : j < R.length) (h : bef (rAt R j) x = true) : rank R (rAt R j) < rank R x :=
  filter_lt (List.mem_range.2 hj) (fun _ hi => bef_trans hi h) h (bef_irrefl _)
theorem cnt_congr {R : List Ride} {u v : Nat → Int} {x : Ride} (h : ∀ j, j < R.length → bef (rAt R j) x = true → u j = v j) (k : Int) : cnt R u x k = cnt R v x k := by
  unfold cnt
  congr 1
  refine List.filter_congr fun j hj => ?_
  cases hb : bef (rAt R j) x
  · rfl
  · rw [h j (List.mem_range.1 hj) hb]
theorem use_unique {lp : List Pass} {R : List Ride} {u v : Nat → Int} (hu : IsUse lp R u) (hv : IsUse lp R v) : ∀ i, i < R.length → u i = v i := by
  have : ∀ n i, i < R.length → rank R (rAt R i) = n → u i = v i := by
    intro n
    induction n using Nat.strongRecOn with
    | _ n ih =>
      intro i hi hn
      rw [hu i hi, hv i hi]
      refine firstP_congr fun k _ => cnt_congr (fun j hj hb => ?_) _
      exact ih _ (by rw [← hn]; exact rank_lt hj hb) j hj rfl
  exact fun i hi => this _ i hi rfl
end Go.Proofs.Ytbkfcdheckkjaaa
/- The frame of the laws of passes: opening passes. -/
namespace Go.Proofs.Ytbkfcdheckkjaaa
open Go.ChangeShapes Go.WideShapes Go.ChangeAt Go.RowKit

theorem cWin : Try.prog.cellsOf 47 = 2 := by kernel_rfl
theorem cPass : Try.prog.cellsOf 49 = 6 := by kernel_rfl
noncomputable def winF : Array Field := Try.prog.fieldsOf 47
theorem uWin : Try.prog.underlying 47 = some (.struct winF) := by kernel_rfl
theorem winL : (winF.toList.map fun f => (f.offset, f.type)) = [(0, 3), (1, 3)] := by kernel_rfl
noncomputable def passF : Array Field := Try.prog.fieldsOf 49
theorem uPass : Try.prog.underlying 49 = some (.struct passF) := by kernel_rfl
theorem passFL : (passF.toList.map fun f => (f.offset, f.type)) = [(0, 3), (1, 3), (2, 47), (4, 3), (5, 3)] := by kernel_rfl
section
variable {H : Type} {enc : TypeId × Value → H} {w : World} {base fuel : Nat} {spare : Nat → Bool} {held : Bool} {cs : List Value} {y : DataW H × List MemPlace}
theorem win1 {c d : Value} (h : DataW.trod enc Try.prog w base spare held fuel 47 [c, d] = some y) : ∃ m n : Int, c = .int .i64 m ∧ d = .int .i64 n ∧ I64 m ∧ I64 n := by
  obtain ⟨_, hf⟩ := trod_fields uWin winL h
  obtain ⟨_, _, h0⟩ := hf 0 _ rfl
  obtain ⟨_, _, h1⟩ := hf 1 _ rfl
  simp only [cInt] at h0 h1
  obtain ⟨m, rfl, hm⟩ := int1 h0
  obtain ⟨n, rfl, hn⟩ := int1 h1
  exact ⟨m, n, rfl, rfl, hm, hn⟩
set_option maxRecDepth 20000 in
theorem pass1 (h : DataW.trod enc Try.prog w base spare held fuel 49 cs = some y) : ∃ x : Pass, cs = x.cs ∧ True := by
  obtain ⟨hl, hf⟩ := trod_fields uPass passFL h
  rw [cPass] at hl
  match cs, hl with
  | [c0, c1, c2, c3, c4, c5], _ =>
    obtain ⟨_, _, h0⟩ := hf 0 _ rfl
    obtain ⟨_, _, h1⟩ := hf 1 _ rfl
    obtain ⟨_, _, h2⟩ := hf 2 _ rfl
    obtain ⟨_, _, h3⟩ := hf 3 _ rfl
    obtain ⟨_, _, h4⟩ := hf 4 _ rfl
    simp only [cInt, cWin] at h0 h1 h2 h3 h4
    obtain ⟨id, rfl, i0⟩ := int1 h0
    obtain ⟨rd, rfl, i1⟩ := int1 h1
    obtain ⟨f, t, rfl, rfl, i2, i3⟩ := win1 h2
    obtain ⟨n, rfl, i4⟩ := int1 h3
    obtain ⟨s, rfl, i5⟩ := int1 h4
    exact ⟨⟨id, rd, f, t, n, s⟩, rfl, trivial⟩
end
section
variable {H : Type} {enc : TypeId × Value → H} {w : World} {b0 : Nat} {r : Reach} {held : Bool} {v : Value} {d : DataW H} {p : List MemPlace}
set_option maxRecDepth 20000 in
theorem open_passes (hv : Value.okWide Try.prog w r b0 22 v) (h : DataW.Trod enc Try.prog w 0 (fun _ => true) held 22 v d p) :
    ∃ (a : Option Addr) (l : List Pass) (cap : Nat), v = .slice a l.length cap ∧ l.length ≤ cap ∧ cap ≤ 9223372036854775807 ∧ (a = none → cap = 0) ∧ PassRow w a l := by
  obtain ⟨a0, n0, c0, rfl⟩ := okWide_slice Try.underlying22 hv
  obtain ⟨fuel, hf⟩ := h
  obtain ⟨a, l, cap, hs, h1, h2, h3, h4, _⟩ := open_sliceG (encA := Pass.cs) (Q := fun _ => True) Try.underlying22 cPass (by decide) Pass.len (fun _ _ _ h => pass1 h) (c := .slice a0 n0 c0) hf
  exact ⟨a, l, cap, hs, h1, h2, h3, h4⟩
end
end Go.Proofs.Ytbkfcdheckkjaaa
/- The walks of passes, first part: ranges, days, the check of passes. -/
namespace Go.Proofs.Ytbkfcdheckkjaaa
open Go.RowKit Go.ChangeMaps

def inB (n lo hi : Int) : Bool := decide (lo ≤ n) && decide (n ≤ hi)
theorem in_calls (w : World) (x : Since w) (n lo hi : Int) :
    Calls Try.prog 25 #[.int .i64 n, .int .i64 lo, .int .i64 hi] x.w fun o w' => o = .returned (.bool (inB n lo hi)) ∧ ∃ y : Since w, w' = y.w := by
  rcases (by omega : n < lo ∨ (lo ≤ n ∧ hi < n) ∨ (lo ≤ n ∧ n ≤ hi)) with h | ⟨h, h'⟩ | ⟨h, h'⟩
  all_goals
    have Hv := Lib.hid (show inB n lo hi = (decide (lo ≤ n) && decide (n ≤ hi)) from rfl)
    go_enter Try.func25, Try.ntmps25
    go_wp2_with fail
    go_ret
    exact ⟨ret_bool (by rw [Hv.out]; simp; omega), _, rfl⟩
def vpd (p : Pass) (d : Int) : Bool := decide (p.f ≤ d) && decide (d < p.t)
theorem valid_calls (w : World) (x : Since w) (p : Pass) (d : Int) :
    Calls Try.prog 33 #[.agg #[.int .i64 p.id, .int .i64 p.rd, .int .i64 p.f, .int .i64 p.t, .int .i64 p.n, .int .i64 p.s], .int .i64 d] x.w fun o w' => o = .returned (.bool (vpd p d)) ∧ ∃ y : Since w, w' = y.w := by
  rcases (by omega : d < p.f ∨ (p.f ≤ d ∧ p.t ≤ d) ∨ (p.f ≤ d ∧ d < p.t)) with h | ⟨h, h'⟩ | ⟨h, h'⟩
  all_goals
    have Hv := Lib.hid (show vpd p d = (decide (p.f ≤ d) && decide (d < p.t)) from rfl)
    go_enter Try.func33, Try.ntmps33
    go_wp2_with fail
    go_ret
    exact ⟨ret_bool (by rw [Hv.out]; simp; omega), x.alloc _⟩
theorem day_calls (w : World) (x : Since w) (r : Ride) (h0 : 0 ≤ r.s0) (h1 : r.s0 ≤ 4294943999) :
    Calls Try.prog 34 #[.agg #[.int .i64 r.id, .int .i64 r.rd, .int .i64 r.s0, .int .i64 r.s1, .int .i64 r.e0, .int .i64 r.e1, .bool r.op, .slice r.la r.legs.length r.lc, .slice r.pa r.pauses.length r.pc, .int .i64 r.fw, .int .i64 r.fp, .int .i64 r.wh, .int .i64 r.pl]] x.w fun o w' => o = .returned (.int .i64 (day r)) ∧ ∃ y : Since w, w' = y.w := by
  have Hd := Lib.hid (show day r = r.s0 / 86400 from rfl)
  go_enter Try.func34, Try.ntmps34
  go_wp2_with fail
  go_ret
  exact ⟨ret_int Hd.out.symm, x.alloc _⟩
end Go.Proofs.Ytbkfcdheckkjaaa
/- The walks of passes, second part: the check of passes. -/
namespace Go.Proofs.Ytbkfcdheckkjaaa
open Go.RowKit Go.ChangeMaps

theorem good_split (e : Pass) : goodP e = (inB e.id 1 1000000 && (inB e.rd 0 127 && (inB e.n 1 256 && (inB e.s 0 86400 && (decide (0 ≤ e.f) && (decide (e.f < e.t) && decide (e.t ≤ 49710))))))) := by
  unfold goodP inB
  simp only [Bool.and_assoc]
def eint (x : Int) : Value := .int .i64 x
theorem keyInt : KeyOps Try.prog 3 eint true where
  chk em w x := by unfold eint; kernel_rfl
  eq w x y := by
    unfold eint
    show (Op.equalIn (9999 + 1) _ _ _).run _ _ = _
    rw [run_equalIn_int w 9999 _ .i64 .i64 x y Try.underlying3]
    congr 1
  und := ⟨_, Try.underlying3, fun x y => by
    unfold eint
    simp only [Instr.sameNow, if_true]
    congr 1⟩
  bits x := by
    unfold eint
    rw [show (10000 : Nat) = 9999 + 1 from rfl]
    simp [Instr.sameBits]
theorem zeroBool (w : World) : (zeroValue 4).run Try.prog w = .ok (.bool false) w := by kernel_rfl
/-- numbers that came, in a map to true -/
def idE (l : List Int) : List (Int × Value) := l.map fun i => (i, .bool true)
theorem idE_lk : ∀ (x : Int) (l : List Int) (i : Nat), (x ∈ l → ∃ j, lkF x (idE l) i = some (j, .bool true)) ∧ (x ∉ l → lkF x (idE l) i = none)
  | x, [], i => ⟨fun h => (by cases h), fun _ => rfl⟩
  | x, y :: l, i => by
    obtain ⟨h1, h2⟩ := idE_lk x l (i + 1)
    by_cases h : x = y
    · subst h
      exact ⟨fun _ => ⟨i, by show lkF x ((x, Value.bool true) :: idE l) i = _; unfold lkF; rw [if_pos rfl]⟩, fun hn => (hn (by simp)).elim⟩
    · have e : lkF x (idE (y :: l)) i = lkF x (idE l) (i + 1) := by show lkF x ((y, Value.bool true) :: idE l) i = _; rw [lkF, if_neg h]
      rw [e]
      exact ⟨fun hm => h1 (by simpa [h] using hm), fun hn => h2 (fun hm => hn (by simp [hm]))⟩
theorem idE_in {x : Int} {l : List Int} (h : x ∈ l) : lkV x (idE l) (.bool false) = .bool true := by
  obtain ⟨j, hj⟩ := (idE_lk x l 0).1 h
  unfold lkV; rw [hj]
theorem idE_out {x : Int} {l : List Int} (h : x ∉ l) : lkV x (idE l) (.bool false) = .bool false := by
  unfold lkV; rw [(idE_lk x l 0).2 h]
theorem idE_next {l : List Int} {k : Nat} {x : Int} (h : l[k]? = some x) : idE (l.take (k + 1)) = idE (l.take k) ++ [(x, .bool true)] := by
  unfold idE
  rw [List.take_succ_eq_append_getElem (List.getElem?_eq_some_iff.1 h).1, (List.getElem?_eq_some_iff.1 h).2, List.map_append]; rfl
theorem MapAt.to' {κ : Type} {ek : κ → Value} {w W : World} {b : Nat} {l : List (κ × Value)} (h : MapAt ek w b l) (hW : ∃ z : Since w, W = z.w) : MapAt ek W b l := by
  obtain ⟨z, rfl⟩ := hW; exact Since.heap h z
theorem MapAt.lt' {κ : Type} {ek : κ → Value} {w : World} {b : Nat} {l : List (κ × Value)} (h : MapAt ek w b l) : b < w.heap.size := (Array.getElem?_eq_some_iff.1 h).1
theorem map_at {α β : Type} {f : α → β} {l : List α} {k : Nat} {e : α} (h : l[k]? = some e) : (l.map f)[k]? = some (f e) := by rw [List.getElem?_map, h]; rfl
set_option maxRecDepth 100000 in
set_option maxHeartbeats 8000000 in
theorem pcheck_calls (w : World) (x : Since w) (a : Option Addr) (l : List Pass) (c : Nat) (h : PassRow w a l) (hl : l.length ≤ 9223372036854775807) :
    Calls Try.prog 10 #[.slice a l.length c] x.w fun o w' => o = .returned (.int .i64 (passE l)) ∧ ∃ y : Since w, w' = y.w := by
  have HL := Lib.hid h
  clear h
  by_cases hbig : 64 < l.length
  · have Hr := Lib.hid (show passE l = 8 by unfold passE; rw [if_pos hbig])
    go_enter Try.func10, Try.ntmps10
    go_wp2_with fail
    go_ret
    exact ⟨ret_int Hr.out.symm, _, rfl⟩
  have hl64 : l.length ≤ 64 := by omega
  have Hbad := Lib.hid (fun (e : Pass) {k : Nat} (he : l[k]? = some e) (hg : goodP e = false) => show passE l = 1 by unfold passE; rw [if_neg hbig, if_pos (all_no he hg)])
  have Hgood := Lib.hid (fun (hg : l.all goodP = true) => show passE l = if dupB (l.map fun p : Pass => p.id) = true then 6 else 0 by unfold passE; rw [if_neg hbig, if_neg (by rw [hg]; simp)])
  clear hbig hl
  go_enter Try.func10, Try.ntmps10
  go_wp2_with fail
  go_loopw [13] (fun i wr => ∃ (k : Nat) (y : Since w), k ≤ l.length ∧ i = .int .i64 k ∧ wr = y.w ∧ ∀ j, j < k → ∀ e, l[j]? = some e → goodP e = true) (fun i _ => l.length - (intOf i).toNat)
  case atStart => exact ⟨0, _, by omega, rfl, rfl, fun j hj => by omega⟩
  case round =>
    obtain ⟨k, y, hk, rfl, rfl, hok⟩ := hrel
    have Hok := Lib.hid hok; clear hok
    by_cases hlt : k < l.length
    · obtain ⟨e, he⟩ : ∃ e, l[k]? = some e := ⟨_, List.getElem?_eq_getElem hlt⟩
      obtain ⟨b1, off1, rfl, h1'⟩ := Els.pass HL.out he
      have pa0 := h1'.c0
      have pa1 := h1'.c1
      have pa2 := h1'.c2
      have pa3 := h1'.c3
      have pa4 := h1'.c4
      have pa5 := h1'.c5
      have hk0 : (0 : Int) ≤ (k : Int) := by omega
      have hkl : (k : Int) < (l.length : Int) := by omega
      have He' := Lib.hid he; clear h1' he
      have HG := Lib.hid (good_split e)
      go_upto_region 6 with fail
      have hx0 : (y.w.alloc (.cells #[.int .i64 e.id, .int .i64 e.rd, .int .i64 e.f, .int .i64 e.t, .int .i64 e.n, .int .i64 e.s] 49)).cell? ⟨y.w.heap.size, 0, none⟩ = some (.int .i64 e.id) := by simp [go_sem]
      have hx1 : (y.w.alloc (.cells #[.int .i64 e.id, .int .i64 e.rd, .int .i64 e.f, .int .i64 e.t, .int .i64 e.n, .int .i64 e.s] 49)).cell? ⟨y.w.heap.size, 1, none⟩ = some (.int .i64 e.rd) := by simp [go_sem]
      have hx2 : (y.w.alloc (.cells #[.int .i64 e.id, .int .i64 e.rd, .int .i64 e.f, .int .i64 e.t, .int .i64 e.n, .int .i64 e.s] 49)).cell? ⟨y.w.heap.size, 2, none⟩ = some (.int .i64 e.f) := by simp [go_sem]
      have hx3 : (y.w.alloc (.cells #[.int .i64 e.id, .int .i64 e.rd, .int .i64 e.f, .int .i64 e.t, .int .i64 e.n, .int .i64 e.s] 49)).cell? ⟨y.w.heap.size, 3, none⟩ = some (.int .i64 e.t) := by simp [go_sem]
      have hx4 : (y.w.alloc (.cells #[.int .i64 e.id, .int .i64 e.rd, .int .i64 e.f, .int .i64 e.t, .int .i64 e.n, .int .i64 e.s] 49)).cell? ⟨y.w.heap.size, 4, none⟩ = some (.int .i64 e.n) := by simp [go_sem]
      have hx5 : (y.w.alloc (.cells #[.int .i64 e.id, .int .i64 e.rd, .int .i64 e.f, .int .i64 e.t, .int .i64 e.n, .int .i64 e.s] 49)).cell? ⟨y.w.heap.size, 5, none⟩ = some (.int .i64 e.s) := by simp [go_sem]
      have hxf : ∀ o, (y.w.alloc (.cells #[.int .i64 e.id, .int .i64 e.rd, .int .i64 e.f, .int .i64 e.t, .int .i64 e.n, .int .i64 e.s] 49)).frozen? ⟨y.w.heap.size, o, none⟩ = false := fun o => by simp [go_sem]
      have hlt0 : y.w.heap.size < (y.w.alloc (.cells #[.int .i64 e.id, .int .i64 e.rd, .int .i64 e.f, .int .i64 e.t, .int .i64 e.n, .int .i64 e.s] 49)).heap.size := by simp
      have hst0 : ∃ zz : Since y.w, (y.w.alloc (.cells #[.int .i64 e.id, .int .i64 e.rd, .int .i64 e.f, .int .i64 e.t, .int .i64 e.n, .int .i64 e.s] 49)) = zz.w := IsSince.alloc (IsSince.self _) _
      have hsz0 := y.b.size
      obtain ⟨y2, e2⟩ := IsSince.alloc (IsSince.of y) (.cells #[.int .i64 e.id, .int .i64 e.rd, .int .i64 e.f, .int .i64 e.t, .int .i64 e.n, .int .i64 e.s] 49)
      rw [e2] at hx0 hx1 hx2 hx3 hx4 hx5 hxf hlt0 hst0 ⊢
      skip
      clear e2 hst0
      generalize y.w.heap.size = g at *
      have Hhx0 : ∀ q : Since y2.w, q.w.cell? ⟨g, 0, none⟩ = some (.int .i64 e.id) := fun q => Since.cell hx0 (by omega) q
      have Hhx1 : ∀ q : Since y2.w, q.w.cell? ⟨g, 1, none⟩ = some (.int .i64 e.rd) := fun q => Since.cell hx1 (by omega) q
      have Hhx2 : ∀ q : Since y2.w, q.w.cell? ⟨g, 2, none⟩ = some (.int .i64 e.f) := fun q => Since.cell hx2 (by omega) q
      have Hhx3 : ∀ q : Since y2.w, q.w.cell? ⟨g, 3, none⟩ = some (.int .i64 e.t) := fun q => Since.cell hx3 (by omega) q
      have Hhx4 : ∀ q : Since y2.w, q.w.cell? ⟨g, 4, none⟩ = some (.int .i64 e.n) := fun q => Since.cell hx4 (by omega) q
      have Hhx5 : ∀ q : Since y2.w, q.w.cell? ⟨g, 5, none⟩ = some (.int .i64 e.s) := fun q => Since.cell hx5 (by omega) q
      have Hhxf : ∀ (q : Since y2.w) (o : Nat), q.w.frozen? ⟨g, o, none⟩ = false := fun q o => Since.free (hxf o) (by omega) q
      have Hhxg := Lib.hid (And.intro hsz0 hlt0)
      clear hlt0 hsz0
      obtain ⟨q0, hq0⟩ := Since.refl y2.w
      rw [hq0]
      clear hq0
      cases h0 : inB e.id 1 1000000 with
      | false =>
        have Hr := Lib.hid (Hbad.out e He'.out (by rw [HG.out, h0]; simp))
        have H0 := Lib.hid h0; clear h0
        go_wp2_with (go_at_call 25; ((with_reducible refine (in_calls y2.w _ e.id 1 1000000).mono ?_); rintro _ _ ⟨rfl, z1, rfl⟩; rw [H0.out]))
        go_ret
        exact ⟨ret_int Hr.out.symm, by obtain ⟨q, e⟩ := y2.trans z1; rw [e]; exact ⟨q, rfl⟩⟩
      | true =>
        rw [h0, Bool.true_and] at HG
        have H0 := Lib.hid h0; clear h0
        cases h1 : inB e.rd 0 127 with
        | false =>
          have Hr := Lib.hid (Hbad.out e He'.out (by rw [HG.out, h1]; simp))
          have H1 := Lib.hid h1; clear h1
          go_wp2_with (first | (go_at_call 25; ((with_reducible refine (in_calls y2.w _ e.id 1 1000000).mono ?_); rintro _ _ ⟨rfl, z1, rfl⟩; rw [H0.out])) | (go_at_call 25; ((with_reducible refine (in_calls y2.w _ e.rd 0 127).mono ?_); rintro _ _ ⟨rfl, z1, rfl⟩; rw [H1.out])))
          go_ret
          exact ⟨ret_int Hr.out.symm, by obtain ⟨q, e⟩ := y2.trans z1; rw [e]; exact ⟨q, rfl⟩⟩
        | true =>
          rw [h1, Bool.true_and] at HG
          have H1 := Lib.hid h1; clear h1
          cases h2 : inB e.n 1 256 with
          | false =>
            have Hr := Lib.hid (Hbad.out e He'.out (by rw [HG.out, h2]; simp))
            have H2 := Lib.hid h2; clear h2
            go_wp2_with (first | (go_at_call 25; ((with_reducible refine (in_calls y2.w _ e.id 1 1000000).mono ?_); rintro _ _ ⟨rfl, z1, rfl⟩; rw [H0.out])) | (go_at_call 25; ((with_reducible refine (in_calls y2.w _ e.rd 0 127).mono ?_); rintro _ _ ⟨rfl, z1, rfl⟩; rw [H1.out])) | (go_at_call 25; ((with_reducible refine (in_calls y2.w _ e.n 1 256).mono ?_); rintro _ _ ⟨rfl, z1, rfl⟩; rw [H2.out])))
            go_ret
            exact ⟨ret_int Hr.out.symm, by obtain ⟨q, e⟩ := y2.trans z1; rw [e]; exact ⟨q, rfl⟩⟩
          | true =>
            rw [h2, Bool.true_and] at HG
            have H2 := Lib.hid h2; clear h2
            cases h3 : inB e.s 0 86400 with
            | false =>
              have Hr := Lib.hid (Hbad.out e He'.out (by rw [HG.out, h3]; simp))
              have H3 := Lib.hid h3; clear h3
              go_wp2_with (first | (go_at_call 25; ((with_reducible refine (in_calls y2.w _ e.id 1 1000000).mono ?_); rintro _ _ ⟨rfl, z1, rfl⟩; rw [H0.out])) | (go_at_call 25; ((with_reducible refine (in_calls y2.w _ e.rd 0 127).mono ?_); rintro _ _ ⟨rfl, z1, rfl⟩; rw [H1.out])) | (go_at_call 25; ((with_reducible refine (in_calls y2.w _ e.n 1 256).mono ?_); rintro _ _ ⟨rfl, z1, rfl⟩; rw [H2.out])) | (go_at_call 25; ((with_reducible refine (in_calls y2.w _ e.s 0 86400).mono ?_); rintro _ _ ⟨rfl, z1, rfl⟩; rw [H3.out])))
              go_ret
              exact ⟨ret_int Hr.out.symm, by obtain ⟨q, e⟩ := y2.trans z1; rw [e]; exact ⟨q, rfl⟩⟩
            | true =>
              rw [h3, Bool.true_and] at HG
              have H3 := Lib.hid h3; clear h3
              go_upto_region 8 with (first | (go_at_call 25; ((with_reducible refine (in_calls y2.w _ e.id 1 1000000).mono ?_); rintro _ _ ⟨rfl, z1, rfl⟩; rw [H0.out])) | (go_at_call 25; ((with_reducible refine (in_calls y2.w _ e.rd 0 127).mono ?_); rintro _ _ ⟨rfl, z1, rfl⟩; rw [H1.out])) | (go_at_call 25; ((with_reducible refine (in_calls y2.w _ e.n 1 256).mono ?_); rintro _ _ ⟨rfl, z1, rfl⟩; rw [H2.out])) | (go_at_call 25; ((with_reducible refine (in_calls y2.w _ e.s 0 86400).mono ?_); rintro _ _ ⟨rfl, z1, rfl⟩; rw [H3.out])))
              clear H0 H1 H2 H3
              rcases (by omega : e.f < 0 ∨ (0 ≤ e.f ∧ e.t ≤ e.f) ∨ (0 ≤ e.f ∧ e.f < e.t ∧ 49710 < e.t) ∨ (0 ≤ e.f ∧ e.f < e.t ∧ e.t ≤ 49710)) with d1 | ⟨d1, d2⟩ | ⟨d1, d2, d3⟩ | ⟨d1, d2, d3⟩
              case inr.inr.inr =>
                have Hg := Lib.hid (show goodP e = true by rw [HG.out]; simp; omega)
                go_wp2_with fail
                obtain ⟨q, eq⟩ := y2.trans z1
                rw [eq]
                go_roundw
                case rel => exact ⟨k + 1, q, by omega, by go_num, rfl, upto_next Hok.out He'.out Hg.out⟩
                case measure => simp [intOf] <;> omega
              all_goals
                have Hr := Lib.hid (Hbad.out e He'.out (by rw [HG.out]; simp; omega))
                go_wp2_with fail
                go_ret
                exact ⟨ret_int Hr.out.symm, by obtain ⟨q, e⟩ := y2.trans z1; rw [e]; exact ⟨q, rfl⟩⟩
    · obtain rfl : k = l.length := by omega
      have HP := Lib.hid (Hgood.out (all_yes Hok.out))
      clear Hok Hgood Hbad
      have hmm := @run_makeMap Try.prog
      go_wp2_with fail
      have hm0 : MapAt eint (y.w.alloc (.map #[] 0)) y.w.heap.size (idE ((l.map fun p : Pass => p.id).take 0)) := by
        show (y.w.heap.push _)[y.w.heap.size]? = _
        simp [idE, entF]
      obtain ⟨y1, hy1⟩ := y.alloc (.map #[] 0)
      rw [hy1] at hm0 ⊢
      have Hm0 := Lib.hid hm0
      have Hgb := Lib.hid y.b.size
      clear hy1 hm0 hmm
      generalize y.w.heap.size = bm at *
      go_loopw [62] (fun i wr => ∃ (k : Nat) (y : Since w), k ≤ l.length ∧ i = .int .i64 k ∧ wr = y.w ∧ MapAt eint y.w bm (idE ((l.map fun p : Pass => p.id).take k)) ∧ ((l.map fun p : Pass => p.id).take k).Nodup) (fun i _ => l.length - (intOf i).toNat)
      case atStart => exact ⟨0, y1, by omega, rfl, rfl, Hm0.out, by simp⟩
      case round =>
        clear Hm0
        obtain ⟨k, y, hk, rfl, rfl, hm, hnd⟩ := hrel
        have Hm := Lib.hid hm; have Hnd := Lib.hid hnd
        clear hm hnd
        by_cases hlt : k < l.length
        · obtain ⟨e, he⟩ : ∃ e, l[k]? = some e := ⟨_, List.getElem?_eq_getElem hlt⟩
          obtain ⟨b1, off1, rfl, h1'⟩ := Els.pass HL.out he
          have pa0 := h1'.c0
          have pa1 := h1'.c1
          have pa2 := h1'.c2
          have pa3 := h1'.c3
          have pa4 := h1'.c4
          have pa5 := h1'.c5
          have hk0 : (0 : Int) ≤ (k : Int) := by omega
          have hkl : (k : Int) < (l.length : Int) := by omega
          have He' := Lib.hid (map_at (f := fun p : Pass => p.id) he)
          have Hnx := Lib.hid (nodup_take_next He'.out)
          clear h1' he
          go_upto_region 15 with fail
          have hx0 : (y.w.alloc (.cells #[.int .i64 e.id, .int .i64 e.rd, .int .i64 e.f, .int .i64 e.t, .int .i64 e.n, .int .i64 e.s] 49)).cell? ⟨y.w.heap.size, 0, none⟩ = some (.int .i64 e.id) := by simp [go_sem]
          have hx1 : (y.w.alloc (.cells #[.int .i64 e.id, .int .i64 e.rd, .int .i64 e.f, .int .i64 e.t, .int .i64 e.n, .int .i64 e.s] 49)).cell? ⟨y.w.heap.size, 1, none⟩ = some (.int .i64 e.rd) := by simp [go_sem]
          have hx2 : (y.w.alloc (.cells #[.int .i64 e.id, .int .i64 e.rd, .int .i64 e.f, .int .i64 e.t, .int .i64 e.n, .int .i64 e.s] 49)).cell? ⟨y.w.heap.size, 2, none⟩ = some (.int .i64 e.f) := by simp [go_sem]
          have hx3 : (y.w.alloc (.cells #[.int .i64 e.id, .int .i64 e.rd, .int .i64 e.f, .int .i64 e.t, .int .i64 e.n, .int .i64 e.s] 49)).cell? ⟨y.w.heap.size, 3, none⟩ = some (.int .i64 e.t) := by simp [go_sem]
          have hx4 : (y.w.alloc (.cells #[.int .i64 e.id, .int .i64 e.rd, .int .i64 e.f, .int .i64 e.t, .int .i64 e.n, .int .i64 e.s] 49)).cell? ⟨y.w.heap.size, 4, none⟩ = some (.int .i64 e.n) := by simp [go_sem]
          have hx5 : (y.w.alloc (.cells #[.int .i64 e.id, .int .i64 e.rd, .int .i64 e.f, .int .i64 e.t, .int .i64 e.n, .int .i64 e.s] 49)).cell? ⟨y.w.heap.size, 5, none⟩ = some (.int .i64 e.s) := by simp [go_sem]
          have hxf : ∀ o, (y.w.alloc (.cells #[.int .i64 e.id, .int .i64 e.rd, .int .i64 e.f, .int .i64 e.t, .int .i64 e.n, .int .i64 e.s] 49)).frozen? ⟨y.w.heap.size, o, none⟩ = false := fun o => by simp [go_sem]
          have hlt0 : y.w.heap.size < (y.w.alloc (.cells #[.int .i64 e.id, .int .i64 e.rd, .int .i64 e.f, .int .i64 e.t, .int .i64 e.n, .int .i64 e.s] 49)).heap.size := by simp
          have hst0 : ∃ zz : Since y.w, (y.w.alloc (.cells #[.int .i64 e.id, .int .i64 e.rd, .int .i64 e.f, .int .i64 e.t, .int .i64 e.n, .int .i64 e.s] 49)) = zz.w := IsSince.alloc (IsSince.self _) _
          have hsz0 := y.b.size
          obtain ⟨y2, e2⟩ := IsSince.alloc (IsSince.of y) (.cells #[.int .i64 e.id, .int .i64 e.rd, .int .i64 e.f, .int .i64 e.t, .int .i64 e.n, .int .i64 e.s] 49)
          rw [e2] at hx0 hx1 hx2 hx3 hx4 hx5 hxf hlt0 hst0 ⊢
          (replace Hm := Lib.hid (Hm.out.to' hst0))
          clear e2 hst0
          generalize y.w.heap.size = g at *
          have Hhx0 : ∀ q : Since y2.w, q.w.cell? ⟨g, 0, none⟩ = some (.int .i64 e.id) := fun q => Since.cell hx0 (by omega) q
          have Hhx1 : ∀ q : Since y2.w, q.w.cell? ⟨g, 1, none⟩ = some (.int .i64 e.rd) := fun q => Since.cell hx1 (by omega) q
          have Hhx2 : ∀ q : Since y2.w, q.w.cell? ⟨g, 2, none⟩ = some (.int .i64 e.f) := fun q => Since.cell hx2 (by omega) q
          have Hhx3 : ∀ q : Since y2.w, q.w.cell? ⟨g, 3, none⟩ = some (.int .i64 e.t) := fun q => Since.cell hx3 (by omega) q
          have Hhx4 : ∀ q : Since y2.w, q.w.cell? ⟨g, 4, none⟩ = some (.int .i64 e.n) := fun q => Since.cell hx4 (by omega) q
          have Hhx5 : ∀ q : Since y2.w, q.w.cell? ⟨g, 5, none⟩ = some (.int .i64 e.s) := fun q => Since.cell hx5 (by omega) q
          have Hhxf : ∀ (q : Since y2.w) (o : Nat), q.w.frozen? ⟨g, o, none⟩ = false := fun q o => Since.free (hxf o) (by omega) q
          have Hhxg := Lib.hid (And.intro hsz0 hlt0)
          clear hlt0 hsz0
          have hlk := run_look keyInt Hm.out Try.underlying58 (zeroBool _) e.id false
          unfold eint at hlk
          simp only [Bool.false_eq_true, if_false] at hlk
          by_cases hin : e.id ∈ (l.map fun p : Pass => p.id).take k
          · rw [idE_in hin] at hlk
            have Hr := Lib.hid (show passE l = 6 by
              rw [HP.out, if_pos (dupB_true fun h => ((Hnx.out.1 (nodup_of_take h)).2 hin))])
            clear hin
            go_wp2_with fail
            go_ret
            exact ⟨ret_int Hr.out.symm, _, rfl⟩
          · rw [idE_out hin] at hlk
            obtain ⟨w2, hst, hw2⟩ := run_store_new keyInt Hm.out Try.underlying58 e.id (.bool true) ((idE_lk e.id _ 0).2 hin)
            unfold eint at hst
            have Hw2 := Lib.hid hw2
            have Hnd2 := Lib.hid (Hnx.out.2 ⟨Hnd.out, hin⟩)
            clear hw2 hin
            go_wp2_with fail
            obtain ⟨y3, hy3⟩ := y2.block (r := bm) (by have := Hgb.out; omega) (.map (entF eint (idE ((l.map fun p : Pass => p.id).take k) ++ [(e.id, Value.bool true)]) 0).toArray (idE ((l.map fun p : Pass => p.id).take k) ++ [(e.id, Value.bool true)]).length)
            have hm3 : MapAt eint y3.w bm (idE ((l.map fun p : Pass => p.id).take (k + 1))) := by
              rw [← hy3, idE_next He'.out]
              exact setBlock_at Hm.out.lt'
            have Hm3 := Lib.hid hm3
            have Hy3 := Lib.hid (Hw2.out.trans hy3)
            clear hm3 hy3
            rw [Hy3.out]
            go_roundw
            case rel => exact ⟨k + 1, y3, by omega, by go_num, rfl, Hm3.out, Hnd2.out⟩
            case measure => simp [intOf] <;> omega
        · obtain rfl : k = l.length := by omega
          have Hr := Lib.hid (show passE l = 0 by
            have h1 := Hnd.out
            rw [List.take_of_length_le (by simp)] at h1
            rw [HP.out, if_neg (by rw [dupB_false h1]; simp)])
          go_wp2_with fail
          go_ret
          exact ⟨ret_int Hr.out.symm, _, rfl⟩
end Go.Proofs.Ytbkfcdheckkjaaa
/- The reference's check of passes. -/
namespace Go.Proofs.Ytbkfcdheckkjaaa
open Go.RowKit

theorem int_lt_or (a b : Int) : a < b ∨ b ≤ a := by omega
set_option maxRecDepth 100000 in
set_option maxHeartbeats 4000000 in
theorem rgood_calls (w : World) (x : Since w) (p : Pass) :
    Calls Try.prog 26 #[.agg #[.int .i64 p.id, .int .i64 p.rd, .int .i64 p.f, .int .i64 p.t, .int .i64 p.n, .int .i64 p.s]] x.w fun o w' => o = .returned (.bool (goodP p)) ∧ ∃ y : Since w, w' = y.w := by
  have HG := Lib.hid (goodP_iff p)
  go_enter Try.func26, Try.ntmps26
  go_upto_region 1 with fail
  have hb0_0 : ∀ y : Since (x.w.alloc (.cells #[.int .i64 p.id, .int .i64 p.rd, .int .i64 p.f, .int .i64 p.t, .int .i64 p.n, .int .i64 p.s] 49)), y.w.cell? ⟨x.w.heap.size, 0, none⟩ = some (.int .i64 p.id) := fun y => Since.cell (by simp [go_sem]) (by first | (simp; done) | (simp; omega)) y
  have hb0_1 : ∀ y : Since (x.w.alloc (.cells #[.int .i64 p.id, .int .i64 p.rd, .int .i64 p.f, .int .i64 p.t, .int .i64 p.n, .int .i64 p.s] 49)), y.w.cell? ⟨x.w.heap.size, 1, none⟩ = some (.int .i64 p.rd) := fun y => Since.cell (by simp [go_sem]) (by first | (simp; done) | (simp; omega)) y
  have hb0_2 : ∀ y : Since (x.w.alloc (.cells #[.int .i64 p.id, .int .i64 p.rd, .int .i64 p.f, .int .i64 p.t, .int .i64 p.n, .int .i64 p.s] 49)), y.w.cell? ⟨x.w.heap.size, 2, none⟩ = some (.int .i64 p.f) := fun y => Since.cell (by simp [go_sem]) (by first | (simp; done) | (simp; omega)) y
  have hb0_3 : ∀ y : Since (x.w.alloc (.cells #[.int .i64 p.id, .int .i64 p.rd, .int .i64 p.f, .int .i64 p.t, .int .i64 p.n, .int .i64 p.s] 49)), y.w.cell? ⟨x.w.heap.size, 3, none⟩ = some (.int .i64 p.t) := fun y => Since.cell (by simp [go_sem]) (by first | (simp; done) | (simp; omega)) y
  have hb0_4 : ∀ y : Since (x.w.alloc (.cells #[.int .i64 p.id, .int .i64 p.rd, .int .i64 p.f, .int .i64 p.t, .int .i64 p.n, .int .i64 p.s] 49)), y.w.cell? ⟨x.w.heap.size, 4, none⟩ = some (.int .i64 p.n) := fun y => Since.cell (by simp [go_sem]) (by first | (simp; done) | (simp; omega)) y
  have hb0_5 : ∀ y : Since (x.w.alloc (.cells #[.int .i64 p.id, .int .i64 p.rd, .int .i64 p.f, .int .i64 p.t, .int .i64 p.n, .int .i64 p.s] 49)), y.w.cell? ⟨x.w.heap.size, 5, none⟩ = some (.int .i64 p.s) := fun y => Since.cell (by simp [go_sem]) (by first | (simp; done) | (simp; omega)) y
  have hf0 : ∀ (y : Since (x.w.alloc (.cells #[.int .i64 p.id, .int .i64 p.rd, .int .i64 p.f, .int .i64 p.t, .int .i64 p.n, .int .i64 p.s] 49))) (o : Nat), y.w.frozen? ⟨x.w.heap.size, o, none⟩ = false := fun y o => Since.free (by simp [go_sem]) (by first | (simp; done) | (simp; omega)) y
  have hWup : ∃ z : Since w, (x.w.alloc (.cells #[.int .i64 p.id, .int .i64 p.rd, .int .i64 p.f, .int .i64 p.t, .int .i64 p.n, .int .i64 p.s] 49)) = z.w := x.alloc _
  obtain ⟨y0, hy0⟩ := Since.refl (x.w.alloc (.cells #[.int .i64 p.id, .int .i64 p.rd, .int .i64 p.f, .int .i64 p.t, .int .i64 p.n, .int .i64 p.s] 49))
  have Hbx := Lib.hid (And.intro x.b.size (show x.w.heap.size + 1 = (x.w.alloc (.cells #[.int .i64 p.id, .int .i64 p.rd, .int .i64 p.f, .int .i64 p.t, .int .i64 p.n, .int .i64 p.s] 49)).heap.size from by simp))
  generalize hW : (x.w.alloc (.cells #[.int .i64 p.id, .int .i64 p.rd, .int .i64 p.f, .int .i64 p.t, .int .i64 p.n, .int .i64 p.s] 49)) = W at *
  clear hW
  generalize x.w.heap.size = bx at *
  have Hup := Lib.hid (Since.up hWup)
  rw [hy0]
  clear hy0
  clear hWup
  rcases int_lt_or p.id (1) with h0 | h0
  case inl =>
    have Hr := Lib.hid (show goodP p = false by
      cases hg : goodP p
      · rfl
      · have := HG.out.1 hg; omega)
    clear HG
    go_wp2_with fail
    go_ret
    exact ⟨ret_bool (by first | exact Hr.out.symm | (rw [Hr.out]; simp; omega)), Hup.out _⟩
  rcases int_lt_or (1000000) p.id with h1 | h1
  case inl =>
    have Hr := Lib.hid (show goodP p = false by
      cases hg : goodP p
      · rfl
      · have := HG.out.1 hg; omega)
    clear HG
    go_wp2_with fail
    go_ret
    exact ⟨ret_bool (by first | exact Hr.out.symm | (rw [Hr.out]; simp; omega)), Hup.out _⟩
  rcases int_lt_or p.rd (0) with h2 | h2
  case inl =>
    have Hr := Lib.hid (show goodP p = false by
      cases hg : goodP p
      · rfl
      · have := HG.out.1 hg; omega)
    clear HG
    go_wp2_with fail
    go_ret
    exact ⟨ret_bool (by first | exact Hr.out.symm | (rw [Hr.out]; simp; omega)), Hup.out _⟩
  rcases (int_lt_or p.rd 128).symm with h3 | h3
  case inl =>
    have Hr := Lib.hid (show goodP p = false by
      cases hg : goodP p
      · rfl
      · have := HG.out.1 hg; omega)
    clear HG
    go_wp2_with fail
    go_ret
    exact ⟨ret_bool (by first | exact Hr.out.symm | (rw [Hr.out]; simp; omega)), Hup.out _⟩
  rcases int_lt_or p.n (1) with h4 | h4
  case inl =>
    have Hr := Lib.hid (show goodP p = false by
      cases hg : goodP p
      · rfl
      · have := HG.out.1 hg; omega)
    clear HG
    go_wp2_with fail
    go_ret
    exact ⟨ret_bool (by first | exact Hr.out.symm | (rw [Hr.out]; simp; omega)), Hup.out _⟩
  rcases int_lt_or (256) p.n with h5 | h5
  case inl =>
    have Hr := Lib.hid (show goodP p = false by
      cases hg : goodP p
      · rfl
      · have := HG.out.1 hg; omega)
    clear HG
    go_wp2_with fail
    go_ret
    exact ⟨ret_bool (by first | exact Hr.out.symm | (rw [Hr.out]; simp; omega)), Hup.out _⟩
  rcases int_lt_or p.s (0) with h6 | h6
  case inl =>
    have Hr := Lib.hid (show goodP p = false by
      cases hg : goodP p
      · rfl
      · have := HG.out.1 hg; omega)
    clear HG
    go_wp2_with fail
    go_ret
    exact ⟨ret_bool (by first | exact Hr.out.symm | (rw [Hr.out]; simp; omega)), Hup.out _⟩
  rcases int_lt_or (86400) p.s with h7 | h7
  case inl =>
    have Hr := Lib.hid (show goodP p = false by
      cases hg : goodP p
      · rfl
      · have := HG.out.1 hg; omega)
    clear HG
    go_wp2_with fail
    go_ret
    exact ⟨ret_bool (by first | exact Hr.out.symm | (rw [Hr.out]; simp; omega)), Hup.out _⟩
  rcases int_lt_or p.f (0) with h8 | h8
  case inl =>
    have Hr := Lib.hid (show goodP p = false by
      cases hg : goodP p
      · rfl
      · have := HG.out.1 hg; omega)
    clear HG
    go_wp2_with fail
    go_ret
    exact ⟨ret_bool (by first | exact Hr.out.symm | (rw [Hr.out]; simp; omega)), Hup.out _⟩
  rcases (int_lt_or p.f p.t).symm with h9 | h9
  case inl =>
    have Hr := Lib.hid (show goodP p = false by
      cases hg : goodP p
      · rfl
      · have := HG.out.1 hg; omega)
    clear HG
    go_wp2_with fail
    go_ret
    exact ⟨ret_bool (by first | exact Hr.out.symm | (rw [Hr.out]; simp; omega)), Hup.out _⟩
  rcases int_lt_or (49710) p.t with h10 | h10
  case inl =>
    have Hr := Lib.hid (show goodP p = false by
      cases hg : goodP p
      · rfl
      · have := HG.out.1 hg; omega)
    clear HG
    go_wp2_with fail
    go_ret
    exact ⟨ret_bool (by first | exact Hr.out.symm | (rw [Hr.out]; simp; omega)), Hup.out _⟩
  have Hr := Lib.hid (show goodP p = true from HG.out.2 (by omega))
  clear HG
  go_wp2_with fail
  go_ret
  exact ⟨ret_bool (by first | exact Hr.out.symm | (rw [Hr.out]; simp; omega)), Hup.out _⟩
set_option maxRecDepth 100000 in
set_option maxHeartbeats 4000000 in
theorem rpcheck_calls (w : World) (x : Since w) (a : Option Addr) (l : List Pass) (c : Nat) (h : PassRow w a l) (hl : l.length ≤ 9223372036854775807) :
    Calls Try.prog 11 #[.slice a l.length c] x.w fun o w' => o = .returned (.int .i64 (passE l)) ∧ ∃ y : Since w, w' = y.w := by
  have HL := Lib.hid h
  clear h
  by_cases hbig : 64 < l.length
  · have Hr := Lib.hid (show passE l = 8 by unfold passE; rw [if_pos hbig])
    go_enter Try.func11, Try.ntmps11
    go_wp2_with fail
    go_ret
    exact ⟨ret_int Hr.out.symm, _, rfl⟩
  have hl64 : l.length ≤ 64 := by omega
  have HP := Lib.hid (fun hok : (∀ j, j < l.length → ∀ e, l[j]? = some e → goodP e = true) => show passE l = if dupB (l.map fun r : Pass => r.id) = true then 6 else 0 by
    unfold passE; rw [if_neg hbig, if_neg (by rw [all_yes hok]; simp)])
  have HB := Lib.hid (fun (k : Nat) (e : Pass) (he : l[k]? = some e) (hg : goodP e = false) => show passE l = 1 by
    unfold passE; rw [if_neg hbig, if_pos (all_no he hg)])
  clear hbig hl
  go_enter Try.func11, Try.ntmps11
  go_wp2_with fail
  go_loopw [3] (fun i wr => ∃ (k : Nat) (y : Since w), k ≤ l.length ∧ i = .int .i64 k ∧ wr = y.w ∧ ∀ j, j < k → ∀ e, l[j]? = some e → goodP e = true) (fun i _ => l.length - (intOf i).toNat)
  case atStart => exact ⟨0, _, by omega, rfl, rfl, fun j hj => by omega⟩
  case round =>
    obtain ⟨k, y, hk, rfl, rfl, hok⟩ := hrel
    have Hok := Lib.hid hok; clear hok
    by_cases hlt : k < l.length
    · obtain ⟨e, he⟩ : ∃ e, l[k]? = some e := ⟨_, List.getElem?_eq_getElem hlt⟩
      obtain ⟨b1, off1, rfl, h1'⟩ := Els.pass HL.out he
      have ra0 := h1'.c0
      have ra1 := h1'.c1
      have ra2 := h1'.c2
      have ra3 := h1'.c3
      have ra4 := h1'.c4
      have ra5 := h1'.c5
      have hk0 : (0 : Int) ≤ (k : Int) := by omega
      have hkl : (k : Int) < (l.length : Int) := by omega
      have He := Lib.hid he
      clear h1' he
      cases hg : goodP e with
      | true =>
        have Hg := Lib.hid hg; clear hg
        go_wp2_with fail
        refine (rgood_calls w y e).mono ?_
        rintro _ _ ⟨rfl, z, rfl⟩
        rw [Hg.out]
        go_wp2_with fail
        go_roundw
        case rel => exact ⟨k + 1, z, by omega, by go_num, rfl, upto_next (P := fun e : Pass => goodP e = true) Hok.out He.out Hg.out⟩
        case measure => simp [intOf] <;> omega
      | false =>
        have Hr := Lib.hid (HB.out k e He.out hg)
        have Hg := Lib.hid hg; clear hg
        go_wp2_with fail
        refine (rgood_calls w y e).mono ?_
        rintro _ _ ⟨rfl, z, rfl⟩
        rw [Hg.out]
        go_wp2_with fail
        go_ret
        exact ⟨ret_int Hr.out.symm, _, rfl⟩
    · obtain rfl : k = l.length := by omega
      have HQ := Lib.hid (HP.out Hok.out)
      clear Hok HP
      go_wp2_with fail
      go_loopw [4] (fun i wr => ∃ (k : Nat) (y : Since w), k ≤ l.length ∧ i = .int .i64 k ∧ wr = y.w ∧ ((l.map fun r : Pass => r.id).take k).Nodup) (fun i _ => l.length - (intOf i).toNat)
      case atStart => exact ⟨0, y, by omega, rfl, rfl, by simp⟩
      case round =>
        obtain ⟨k, y, hk, rfl, rfl, hnd⟩ := hrel
        have Hnd := Lib.hid hnd; clear hnd
        by_cases hlt : k < l.length
        · obtain ⟨e, he⟩ : ∃ e, l[k]? = some e := ⟨_, List.getElem?_eq_getElem hlt⟩
          obtain ⟨b1, off1, rfl, h1'⟩ := Els.pass HL.out he
          have ra0 := h1'.c0
          have hk0 : (0 : Int) ≤ (k : Int) := by omega
          have hkl : (k : Int) < (l.length : Int) := by omega
          have He := Lib.hid (map_at (f := fun r : Pass => r.id) he)
          have Hnx := Lib.hid (nodup_take_next He.out)
          clear h1' he
          go_wp2_with fail
          go_loopw [5] (fun i wr => ∃ (m : Nat) (y : Since w), m ≤ k ∧ i = .int .i64 m ∧ wr = y.w ∧ ∀ j, j < m → ∀ v, (l.map fun r : Pass => r.id)[j]? = some v → v ≠ e.id) (fun i _ => k - (intOf i).toNat)
          case atStart => exact ⟨0, y, by omega, rfl, rfl, fun j hj => by omega⟩
          case round =>
            obtain ⟨m, y, hm, rfl, rfl, hno⟩ := hrel
            have Hno := Lib.hid hno; clear hno
            by_cases hlm : m < k
            · obtain ⟨e2, he2⟩ : ∃ e, l[m]? = some e := ⟨_, List.getElem?_eq_getElem (by omega)⟩
              obtain ⟨b2, off2, hbo, h2'⟩ := Els.pass HL.out he2
              simp only [Option.some.injEq, Addr.mk.injEq, and_true] at hbo
              obtain ⟨rfl, rfl⟩ := hbo
              have rb0 := h2'.c0
              have hm0 : (0 : Int) ≤ (m : Int) := by omega
              have hml : (m : Int) < (l.length : Int) := by omega
              have hmk : (m : Int) < (k : Int) := by omega
              have He2 := Lib.hid (map_at (f := fun r : Pass => r.id) he2)
              clear h2' he2
              by_cases hee : e.id = e2.id
              · have hb : (e.id == e2.id) = true := by simpa using hee
                have Hr := Lib.hid (show passE l = 6 by
                  rw [HQ.out, if_pos (dupB_true fun h => (Hnx.out.1 (nodup_of_take h)).2 (by rw [hee]; exact List.mem_of_getElem? (by rw [List.getElem?_take, if_pos hlm]; exact He2.out)))])
                clear hee
                go_wp2_with fail
                refine wp_region_since (by kernel_rfl) (by kernel_rfl) ?_
                repeat (go_big_quiet_step (fail))
                refine wpQuiet_nil ?_
                rintro _ ⟨z, rfl⟩
                go_wp2_with fail
                go_ret
                exact ⟨ret_int Hr.out.symm, _, rfl⟩
              · have hb : (e.id == e2.id) = false := by simpa using hee
                have Hno2 := Lib.hid (show ∀ j, j < m + 1 → ∀ v, (l.map fun r : Pass => r.id)[j]? = some v → v ≠ e.id from upto_next (P := fun v => v ≠ e.id) Hno.out He2.out (fun h => hee h.symm))
                clear hee
                go_wp2_with fail
                refine wp_region_since (by kernel_rfl) (by kernel_rfl) ?_
                repeat (go_big_quiet_step (fail))
                refine wpQuiet_nil ?_
                rintro _ ⟨z, rfl⟩
                go_wp2_with fail
                go_roundw
                case rel => exact ⟨m + 1, z, by omega, by go_num, rfl, Hno2.out⟩
                case measure => simp [intOf] <;> omega
            · obtain rfl : m = k := by omega
              have Hnd2 := Lib.hid (Hnx.out.2 ⟨Hnd.out, fun hm => by
                obtain ⟨j, hj⟩ := List.mem_iff_getElem?.1 hm
                rw [List.getElem?_take] at hj
                split at hj
                · rename_i hjm; exact Hno.out j hjm _ hj rfl
                · cases hj⟩)
              go_wp2_with fail
              go_roundw
              case rel => exact ⟨m + 1, y, by omega, by go_num, rfl, Hnd2.out⟩
              case measure => simp [intOf] <;> omega
        · obtain rfl : k = l.length := by omega
          have Hr := Lib.hid (show passE l = 0 by
            have h1 := Hnd.out
            rw [List.take_of_length_le (by simp)] at h1
            rw [HQ.out, if_neg (by rw [dupB_false h1]; simp)])
          go_wp2_with fail
          go_ret
          exact ⟨ret_int Hr.out.symm, _, rfl⟩
end Go.Proofs.Ytbkfcdheckkjaaa
/- The walks of passes, third part: the error of a list of rides. -/
namespace Go.Proofs.Ytbkfcdheckkjaaa
open Go.RowKit Go.ChangeMaps

theorem ridesE_err {l : List Ride} {k : Nat} {r : Ride} (hb : l.length ≤ 256) (hr : l[k]? = some r) (he : rideE r ≠ 0) (hn : ∀ j, j < k → ∀ x, l[j]? = some x → rideE x = 0) : ridesE l = rideE r := by
  unfold ridesE; rw [if_neg (by omega), firstErr_at hr he hn, if_pos he]
theorem ridesE_ok {l : List Ride} (hb : l.length ≤ 256) (hn : ∀ j, j < l.length → ∀ x, l[j]? = some x → rideE x = 0) : ridesE l = if dupB (l.map fun r : Ride => r.id) = true then 6 else 0 := by
  unfold ridesE; rw [if_neg (by omega), firstErr_none hn, if_neg (by simp)]
set_option maxRecDepth 100000 in
set_option maxHeartbeats 8000000 in
theorem checked_calls (w : World) (x : Since w) (pa : Option Addr) (lp : List Pass) (pc : Nat) (a : Option Addr) (l : List Ride) (c : Nat) (hp : PassRow w pa lp) (hpl : lp.length ≤ 9223372036854775807) (h : RideRow w a l) (hl : l.length ≤ 9223372036854775807) :
    Calls Try.prog 27 #[.slice pa lp.length pc, .slice a l.length c] x.w fun o w' => o = .returned (.int .i64 (usesE lp l)) ∧ ∃ y : Since w, w' = y.w := by
  have HL := Lib.hid h
  have Hpc := Lib.hid (fun y : Since w => pcheck_calls w y pa lp pc hp hpl)
  have HU := Lib.hid (show usesE lp l = if passE lp ≠ 0 then passE lp else ridesE l from rfl)
  clear h hp hpl
  generalize passE lp = pe at *
  by_cases hpe : pe = 0
  case neg =>
    have hpb : (pe != 0) = true := by simpa using hpe
    have Hr := Lib.hid (show usesE lp l = pe by rw [HU.out, if_pos hpe])
    clear hpe
    go_enter Try.func27, Try.ntmps27
    go_wp2_with (go_at_call 10; ((with_reducible refine (Hpc.out _).mono ?_); rintro _ _ ⟨rfl, y1, rfl⟩))
    go_ret
    exact ⟨ret_int Hr.out.symm, _, rfl⟩
  subst hpe
  replace HU := Lib.hid (show usesE lp l = ridesE l by rw [HU.out, if_neg (by simp)])
  by_cases hbig : 256 < l.length
  · have Hr := Lib.hid (show usesE lp l = 8 by rw [HU.out]; unfold ridesE; rw [if_pos hbig])
    go_enter Try.func27, Try.ntmps27
    go_wp2_with (go_at_call 10; ((with_reducible refine (Hpc.out _).mono ?_); rintro _ _ ⟨rfl, y1, rfl⟩))
    go_ret
    exact ⟨ret_int Hr.out.symm, _, rfl⟩
  have hl256 : l.length ≤ 256 := by omega
  clear hbig hl
  go_enter Try.func27, Try.ntmps27
  go_wp2_with (go_at_call 10; ((with_reducible refine (Hpc.out _).mono ?_); rintro _ _ ⟨rfl, y1, rfl⟩))
  clear Hpc
  go_loopw [22] (fun i wr => ∃ (k : Nat) (y : Since w), k ≤ l.length ∧ i = .int .i64 k ∧ wr = y.w ∧ ∀ j, j < k → ∀ e, l[j]? = some e → rideE e = 0) (fun i _ => l.length - (intOf i).toNat)
  case atStart => exact ⟨0, _, by omega, rfl, rfl, fun j hj => by omega⟩
  case round =>
    obtain ⟨k, y, hk, rfl, rfl, hok⟩ := hrel
    have Hok := Lib.hid hok; clear hok
    by_cases hlt : k < l.length
    · obtain ⟨e, he⟩ : ∃ e, l[k]? = some e := ⟨_, List.getElem?_eq_getElem hlt⟩
      obtain ⟨b1, off1, rfl, h1'⟩ := Els.ride HL.out.c he
      have ra0 := h1'.c0
      have ra1 := h1'.c1
      have ra2 := h1'.c2
      have ra3 := h1'.c3
      have ra4 := h1'.c4
      have ra5 := h1'.c5
      have ra6 := h1'.c6
      have ra7 := h1'.c7
      have ra8 := h1'.c8
      have ra9 := h1'.c9
      have ra10 := h1'.c10
      have ra11 := h1'.c11
      have ra12 := h1'.c12
      have hk0 : (0 : Int) ≤ (k : Int) := by omega
      have hkl : (k : Int) < (l.length : Int) := by omega
      have He' := Lib.hid he
      have Hat := Lib.hid (HL.out.r e (List.mem_of_getElem? he))
      clear h1' he
      go_upto_region 9 with fail
      have hx0 : (y.w.alloc (.cells #[.int .i64 e.id, .int .i64 e.rd, .int .i64 e.s0, .int .i64 e.s1, .int .i64 e.e0, .int .i64 e.e1, .bool e.op, .slice e.la e.legs.length e.lc, .slice e.pa e.pauses.length e.pc, .int .i64 e.fw, .int .i64 e.fp, .int .i64 e.wh, .int .i64 e.pl] 44)).cell? ⟨y.w.heap.size, 0, none⟩ = some (.int .i64 e.id) := by simp [go_sem]
      have hx1 : (y.w.alloc (.cells #[.int .i64 e.id, .int .i64 e.rd, .int .i64 e.s0, .int .i64 e.s1, .int .i64 e.e0, .int .i64 e.e1, .bool e.op, .slice e.la e.legs.length e.lc, .slice e.pa e.pauses.length e.pc, .int .i64 e.fw, .int .i64 e.fp, .int .i64 e.wh, .int .i64 e.pl] 44)).cell? ⟨y.w.heap.size, 1, none⟩ = some (.int .i64 e.rd) := by simp [go_sem]
      have hx2 : (y.w.alloc (.cells #[.int .i64 e.id, .int .i64 e.rd, .int .i64 e.s0, .int .i64 e.s1, .int .i64 e.e0, .int .i64 e.e1, .bool e.op, .slice e.la e.legs.length e.lc, .slice e.pa e.pauses.length e.pc, .int .i64 e.fw, .int .i64 e.fp, .int .i64 e.wh, .int .i64 e.pl] 44)).cell? ⟨y.w.heap.size, 2, none⟩ = some (.int .i64 e.s0) := by simp [go_sem]
      have hx3 : (y.w.alloc (.cells #[.int .i64 e.id, .int .i64 e.rd, .int .i64 e.s0, .int .i64 e.s1, .int .i64 e.e0, .int .i64 e.e1, .bool e.op, .slice e.la e.legs.length e.lc, .slice e.pa e.pauses.length e.pc, .int .i64 e.fw, .int .i64 e.fp, .int .i64 e.wh, .int .i64 e.pl] 44)).cell? ⟨y.w.heap.size, 3, none⟩ = some (.int .i64 e.s1) := by simp [go_sem]
      have hx4 : (y.w.alloc (.cells #[.int .i64 e.id, .int .i64 e.rd, .int .i64 e.s0, .int .i64 e.s1, .int .i64 e.e0, .int .i64 e.e1, .bool e.op, .slice e.la e.legs.length e.lc, .slice e.pa e.pauses.length e.pc, .int .i64 e.fw, .int .i64 e.fp, .int .i64 e.wh, .int .i64 e.pl] 44)).cell? ⟨y.w.heap.size, 4, none⟩ = some (.int .i64 e.e0) := by simp [go_sem]
      have hx5 : (y.w.alloc (.cells #[.int .i64 e.id, .int .i64 e.rd, .int .i64 e.s0, .int .i64 e.s1, .int .i64 e.e0, .int .i64 e.e1, .bool e.op, .slice e.la e.legs.length e.lc, .slice e.pa e.pauses.length e.pc, .int .i64 e.fw, .int .i64 e.fp, .int .i64 e.wh, .int .i64 e.pl] 44)).cell? ⟨y.w.heap.size, 5, none⟩ = some (.int .i64 e.e1) := by simp [go_sem]
      have hx6 : (y.w.alloc (.cells #[.int .i64 e.id, .int .i64 e.rd, .int .i64 e.s0, .int .i64 e.s1, .int .i64 e.e0, .int .i64 e.e1, .bool e.op, .slice e.la e.legs.length e.lc, .slice e.pa e.pauses.length e.pc, .int .i64 e.fw, .int .i64 e.fp, .int .i64 e.wh, .int .i64 e.pl] 44)).cell? ⟨y.w.heap.size, 6, none⟩ = some (.bool e.op) := by simp [go_sem]
      have hx7 : (y.w.alloc (.cells #[.int .i64 e.id, .int .i64 e.rd, .int .i64 e.s0, .int .i64 e.s1, .int .i64 e.e0, .int .i64 e.e1, .bool e.op, .slice e.la e.legs.length e.lc, .slice e.pa e.pauses.length e.pc, .int .i64 e.fw, .int .i64 e.fp, .int .i64 e.wh, .int .i64 e.pl] 44)).cell? ⟨y.w.heap.size, 7, none⟩ = some (.slice e.la e.legs.length e.lc) := by simp [go_sem]
      have hx8 : (y.w.alloc (.cells #[.int .i64 e.id, .int .i64 e.rd, .int .i64 e.s0, .int .i64 e.s1, .int .i64 e.e0, .int .i64 e.e1, .bool e.op, .slice e.la e.legs.length e.lc, .slice e.pa e.pauses.length e.pc, .int .i64 e.fw, .int .i64 e.fp, .int .i64 e.wh, .int .i64 e.pl] 44)).cell? ⟨y.w.heap.size, 8, none⟩ = some (.slice e.pa e.pauses.length e.pc) := by simp [go_sem]
      have hx9 : (y.w.alloc (.cells #[.int .i64 e.id, .int .i64 e.rd, .int .i64 e.s0, .int .i64 e.s1, .int .i64 e.e0, .int .i64 e.e1, .bool e.op, .slice e.la e.legs.length e.lc, .slice e.pa e.pauses.length e.pc, .int .i64 e.fw, .int .i64 e.fp, .int .i64 e.wh, .int .i64 e.pl] 44)).cell? ⟨y.w.heap.size, 9, none⟩ = some (.int .i64 e.fw) := by simp [go_sem]
      have hx10 : (y.w.alloc (.cells #[.int .i64 e.id, .int .i64 e.rd, .int .i64 e.s0, .int .i64 e.s1, .int .i64 e.e0, .int .i64 e.e1, .bool e.op, .slice e.la e.legs.length e.lc, .slice e.pa e.pauses.length e.pc, .int .i64 e.fw, .int .i64 e.fp, .int .i64 e.wh, .int .i64 e.pl] 44)).cell? ⟨y.w.heap.size, 10, none⟩ = some (.int .i64 e.fp) := by simp [go_sem]
      have hx11 : (y.w.alloc (.cells #[.int .i64 e.id, .int .i64 e.rd, .int .i64 e.s0, .int .i64 e.s1, .int .i64 e.e0, .int .i64 e.e1, .bool e.op, .slice e.la e.legs.length e.lc, .slice e.pa e.pauses.length e.pc, .int .i64 e.fw, .int .i64 e.fp, .int .i64 e.wh, .int .i64 e.pl] 44)).cell? ⟨y.w.heap.size, 11, none⟩ = some (.int .i64 e.wh) := by simp [go_sem]
      have hx12 : (y.w.alloc (.cells #[.int .i64 e.id, .int .i64 e.rd, .int .i64 e.s0, .int .i64 e.s1, .int .i64 e.e0, .int .i64 e.e1, .bool e.op, .slice e.la e.legs.length e.lc, .slice e.pa e.pauses.length e.pc, .int .i64 e.fw, .int .i64 e.fp, .int .i64 e.wh, .int .i64 e.pl] 44)).cell? ⟨y.w.heap.size, 12, none⟩ = some (.int .i64 e.pl) := by simp [go_sem]
      have hxf : ∀ o, (y.w.alloc (.cells #[.int .i64 e.id, .int .i64 e.rd, .int .i64 e.s0, .int .i64 e.s1, .int .i64 e.e0, .int .i64 e.e1, .bool e.op, .slice e.la e.legs.length e.lc, .slice e.pa e.pauses.length e.pc, .int .i64 e.fw, .int .i64 e.fp, .int .i64 e.wh, .int .i64 e.pl] 44)).frozen? ⟨y.w.heap.size, o, none⟩ = false := fun o => by simp [go_sem]
      have hlt0 : y.w.heap.size < (y.w.alloc (.cells #[.int .i64 e.id, .int .i64 e.rd, .int .i64 e.s0, .int .i64 e.s1, .int .i64 e.e0, .int .i64 e.e1, .bool e.op, .slice e.la e.legs.length e.lc, .slice e.pa e.pauses.length e.pc, .int .i64 e.fw, .int .i64 e.fp, .int .i64 e.wh, .int .i64 e.pl] 44)).heap.size := by simp
      have hst0 : ∃ zz : Since y.w, (y.w.alloc (.cells #[.int .i64 e.id, .int .i64 e.rd, .int .i64 e.s0, .int .i64 e.s1, .int .i64 e.e0, .int .i64 e.e1, .bool e.op, .slice e.la e.legs.length e.lc, .slice e.pa e.pauses.length e.pc, .int .i64 e.fw, .int .i64 e.fp, .int .i64 e.wh, .int .i64 e.pl] 44)) = zz.w := IsSince.alloc (IsSince.self _) _
      have hsz0 := y.b.size
      obtain ⟨y2, e2⟩ := IsSince.alloc (IsSince.of y) (.cells #[.int .i64 e.id, .int .i64 e.rd, .int .i64 e.s0, .int .i64 e.s1, .int .i64 e.e0, .int .i64 e.e1, .bool e.op, .slice e.la e.legs.length e.lc, .slice e.pa e.pauses.length e.pc, .int .i64 e.fw, .int .i64 e.fp, .int .i64 e.wh, .int .i64 e.pl] 44)
      rw [e2] at hx0 hx1 hx2 hx3 hx4 hx5 hx6 hx7 hx8 hx9 hx10 hx11 hx12 hxf hlt0 hst0 ⊢
      (replace Hat := Lib.hid ((Hat.out.since y).to hst0))
      clear e2 hst0
      generalize y.w.heap.size = g at *
      have Hhx0 : ∀ q : Since y2.w, q.w.cell? ⟨g, 0, none⟩ = some (.int .i64 e.id) := fun q => Since.cell hx0 (by omega) q
      have Hhx1 : ∀ q : Since y2.w, q.w.cell? ⟨g, 1, none⟩ = some (.int .i64 e.rd) := fun q => Since.cell hx1 (by omega) q
      have Hhx2 : ∀ q : Since y2.w, q.w.cell? ⟨g, 2, none⟩ = some (.int .i64 e.s0) := fun q => Since.cell hx2 (by omega) q
      have Hhx3 : ∀ q : Since y2.w, q.w.cell? ⟨g, 3, none⟩ = some (.int .i64 e.s1) := fun q => Since.cell hx3 (by omega) q
      have Hhx4 : ∀ q : Since y2.w, q.w.cell? ⟨g, 4, none⟩ = some (.int .i64 e.e0) := fun q => Since.cell hx4 (by omega) q
      have Hhx5 : ∀ q : Since y2.w, q.w.cell? ⟨g, 5, none⟩ = some (.int .i64 e.e1) := fun q => Since.cell hx5 (by omega) q
      have Hhx6 : ∀ q : Since y2.w, q.w.cell? ⟨g, 6, none⟩ = some (.bool e.op) := fun q => Since.cell hx6 (by omega) q
      have Hhx7 : ∀ q : Since y2.w, q.w.cell? ⟨g, 7, none⟩ = some (.slice e.la e.legs.length e.lc) := fun q => Since.cell hx7 (by omega) q
      have Hhx8 : ∀ q : Since y2.w, q.w.cell? ⟨g, 8, none⟩ = some (.slice e.pa e.pauses.length e.pc) := fun q => Since.cell hx8 (by omega) q
      have Hhx9 : ∀ q : Since y2.w, q.w.cell? ⟨g, 9, none⟩ = some (.int .i64 e.fw) := fun q => Since.cell hx9 (by omega) q
      have Hhx10 : ∀ q : Since y2.w, q.w.cell? ⟨g, 10, none⟩ = some (.int .i64 e.fp) := fun q => Since.cell hx10 (by omega) q
      have Hhx11 : ∀ q : Since y2.w, q.w.cell? ⟨g, 11, none⟩ = some (.int .i64 e.wh) := fun q => Since.cell hx11 (by omega) q
      have Hhx12 : ∀ q : Since y2.w, q.w.cell? ⟨g, 12, none⟩ = some (.int .i64 e.pl) := fun q => Since.cell hx12 (by omega) q
      have Hhxf : ∀ (q : Since y2.w) (o : Nat), q.w.frozen? ⟨g, o, none⟩ = false := fun q o => Since.free (hxf o) (by omega) q
      have Hhxg := Lib.hid (And.intro hsz0 hlt0)
      clear hlt0 hsz0
      obtain ⟨q0, hq0⟩ := Since.refl y2.w
      rw [hq0]
      clear hq0
      have Hck := Lib.hid (fun z : Since y2.w => check_calls y2.w z e Hat.out)
      by_cases her : rideE e = 0
      · rw [her] at Hck
        have Hv := Lib.hid her
        clear her
        go_wp2_with (go_at_call 35; ((with_reducible refine (Hck.out _).mono ?_); rintro _ _ ⟨rfl, z1, rfl⟩))
        obtain ⟨q, eq⟩ := y2.trans z1
        rw [eq]
        go_roundw
        case rel => exact ⟨k + 1, q, by omega, by go_num, rfl, upto_next (P := fun e : Ride => rideE e = 0) Hok.out He'.out Hv.out⟩
        case measure => simp [intOf] <;> omega
      · have Hr := Lib.hid (show usesE lp l = rideE e by rw [HU.out, ridesE_err hl256 He'.out her Hok.out])
        have heb : (rideE e != 0) = true := by simpa using her
        clear her
        generalize rideE e = re at *
        go_wp2_with (go_at_call 35; ((with_reducible refine (Hck.out _).mono ?_); rintro _ _ ⟨rfl, z1, rfl⟩))
        go_ret
        exact ⟨ret_int Hr.out.symm, by obtain ⟨q, e⟩ := y2.trans z1; rw [e]; exact ⟨q, rfl⟩⟩
    · obtain rfl : k = l.length := by omega
      have HP := Lib.hid (HU.out.trans (ridesE_ok hl256 Hok.out))
      clear Hok HU
      have hmm := @run_makeMap Try.prog
      go_wp2_with fail
      have hm0 : MapAt eint (y.w.alloc (.map #[] 0)) y.w.heap.size (idE ((l.map fun r : Ride => r.id).take 0)) := by
        show (y.w.heap.push _)[y.w.heap.size]? = _
        simp [idE, entF]
      obtain ⟨y1, hy1⟩ := y.alloc (.map #[] 0)
      rw [hy1] at hm0 ⊢
      have Hm0 := Lib.hid hm0
      have Hgb := Lib.hid y.b.size
      clear hy1 hm0 hmm
      generalize y.w.heap.size = bm at *
      go_loopw [35] (fun i wr => ∃ (k : Nat) (y : Since w), k ≤ l.length ∧ i = .int .i64 k ∧ wr = y.w ∧ MapAt eint y.w bm (idE ((l.map fun r : Ride => r.id).take k)) ∧ ((l.map fun r : Ride => r.id).take k).Nodup) (fun i _ => l.length - (intOf i).toNat)
      case atStart => exact ⟨0, y1, by omega, rfl, rfl, Hm0.out, by simp⟩
      case round =>
        clear Hm0
        obtain ⟨k, y, hk, rfl, rfl, hm, hnd⟩ := hrel
        have Hm := Lib.hid hm; have Hnd := Lib.hid hnd
        clear hm hnd
        by_cases hlt : k < l.length
        · obtain ⟨e, he⟩ : ∃ e, l[k]? = some e := ⟨_, List.getElem?_eq_getElem hlt⟩
          obtain ⟨b1, off1, rfl, h1'⟩ := Els.ride HL.out.c he
          have ra0 := h1'.c0
          have ra1 := h1'.c1
          have ra2 := h1'.c2
          have ra3 := h1'.c3
          have ra4 := h1'.c4
          have ra5 := h1'.c5
          have ra6 := h1'.c6
          have ra7 := h1'.c7
          have ra8 := h1'.c8
          have ra9 := h1'.c9
          have ra10 := h1'.c10
          have ra11 := h1'.c11
          have ra12 := h1'.c12
          have hk0 : (0 : Int) ≤ (k : Int) := by omega
          have hkl : (k : Int) < (l.length : Int) := by omega
          have He' := Lib.hid (map_at (f := fun r : Ride => r.id) he)
          have Hnx := Lib.hid (nodup_take_next He'.out)
          clear h1' he
          go_upto_region 17 with fail
          have hx0 : (y.w.alloc (.cells #[.int .i64 e.id, .int .i64 e.rd, .int .i64 e.s0, .int .i64 e.s1, .int .i64 e.e0, .int .i64 e.e1, .bool e.op, .slice e.la e.legs.length e.lc, .slice e.pa e.pauses.length e.pc, .int .i64 e.fw, .int .i64 e.fp, .int .i64 e.wh, .int .i64 e.pl] 44)).cell? ⟨y.w.heap.size, 0, none⟩ = some (.int .i64 e.id) := by simp [go_sem]
          have hx1 : (y.w.alloc (.cells #[.int .i64 e.id, .int .i64 e.rd, .int .i64 e.s0, .int .i64 e.s1, .int .i64 e.e0, .int .i64 e.e1, .bool e.op, .slice e.la e.legs.length e.lc, .slice e.pa e.pauses.length e.pc, .int .i64 e.fw, .int .i64 e.fp, .int .i64 e.wh, .int .i64 e.pl] 44)).cell? ⟨y.w.heap.size, 1, none⟩ = some (.int .i64 e.rd) := by simp [go_sem]
          have hx2 : (y.w.alloc (.cells #[.int .i64 e.id, .int .i64 e.rd, .int .i64 e.s0, .int .i64 e.s1, .int .i64 e.e0, .int .i64 e.e1, .bool e.op, .slice e.la e.legs.length e.lc, .slice e.pa e.pauses.length e.pc, .int .i64 e.fw, .int .i64 e.fp, .int .i64 e.wh, .int .i64 e.pl] 44)).cell? ⟨y.w.heap.size, 2, none⟩ = some (.int .i64 e.s0) := by simp [go_sem]
          have hx3 : (y.w.alloc (.cells #[.int .i64 e.id, .int .i64 e.rd, .int .i64 e.s0, .int .i64 e.s1, .int .i64 e.e0, .int .i64 e.e1, .bool e.op, .slice e.la e.legs.length e.lc, .slice e.pa e.pauses.length e.pc, .int .i64 e.fw, .int .i64 e.fp, .int .i64 e.wh, .int .i64 e.pl] 44)).cell? ⟨y.w.heap.size, 3, none⟩ = some (.int .i64 e.s1) := by simp [go_sem]
          have hx4 : (y.w.alloc (.cells #[.int .i64 e.id, .int .i64 e.rd, .int .i64 e.s0, .int .i64 e.s1, .int .i64 e.e0, .int .i64 e.e1, .bool e.op, .slice e.la e.legs.length e.lc, .slice e.pa e.pauses.length e.pc, .int .i64 e.fw, .int .i64 e.fp, .int .i64 e.wh, .int .i64 e.pl] 44)).cell? ⟨y.w.heap.size, 4, none⟩ = some (.int .i64 e.e0) := by simp [go_sem]
          have hx5 : (y.w.alloc (.cells #[.int .i64 e.id, .int .i64 e.rd, .int .i64 e.s0, .int .i64 e.s1, .int .i64 e.e0, .int .i64 e.e1, .bool e.op, .slice e.la e.legs.length e.lc, .slice e.pa e.pauses.length e.pc, .int .i64 e.fw, .int .i64 e.fp, .int .i64 e.wh, .int .i64 e.pl] 44)).cell? ⟨y.w.heap.size, 5, none⟩ = some (.int .i64 e.e1) := by simp [go_sem]
          have hx6 : (y.w.alloc (.cells #[.int .i64 e.id, .int .i64 e.rd, .int .i64 e.s0, .int .i64 e.s1, .int .i64 e.e0, .int .i64 e.e1, .bool e.op, .slice e.la e.legs.length e.lc, .slice e.pa e.pauses.length e.pc, .int .i64 e.fw, .int .i64 e.fp, .int .i64 e.wh, .int .i64 e.pl] 44)).cell? ⟨y.w.heap.size, 6, none⟩ = some (.bool e.op) := by simp [go_sem]
          have hx7 : (y.w.alloc (.cells #[.int .i64 e.id, .int .i64 e.rd, .int .i64 e.s0, .int .i64 e.s1, .int .i64 e.e0, .int .i64 e.e1, .bool e.op, .slice e.la e.legs.length e.lc, .slice e.pa e.pauses.length e.pc, .int .i64 e.fw, .int .i64 e.fp, .int .i64 e.wh, .int .i64 e.pl] 44)).cell? ⟨y.w.heap.size, 7, none⟩ = some (.slice e.la e.legs.length e.lc) := by simp [go_sem]
          have hx8 : (y.w.alloc (.cells #[.int .i64 e.id, .int .i64 e.rd, .int .i64 e.s0, .int .i64 e.s1, .int .i64 e.e0, .int .i64 e.e1, .bool e.op, .slice e.la e.legs.length e.lc, .slice e.pa e.pauses.length e.pc, .int .i64 e.fw, .int .i64 e.fp, .int .i64 e.wh, .int .i64 e.pl] 44)).cell? ⟨y.w.heap.size, 8, none⟩ = some (.slice e.pa e.pauses.length e.pc) := by simp [go_sem]
          have hx9 : (y.w.alloc (.cells #[.int .i64 e.id, .int .i64 e.rd, .int .i64 e.s0, .int .i64 e.s1, .int .i64 e.e0, .int .i64 e.e1, .bool e.op, .slice e.la e.legs.length e.lc, .slice e.pa e.pauses.length e.pc, .int .i64 e.fw, .int .i64 e.fp, .int .i64 e.wh, .int .i64 e.pl] 44)).cell? ⟨y.w.heap.size, 9, none⟩ = some (.int .i64 e.fw) := by simp [go_sem]
          have hx10 : (y.w.alloc (.cells #[.int .i64 e.id, .int .i64 e.rd, .int .i64 e.s0, .int .i64 e.s1, .int .i64 e.e0, .int .i64 e.e1, .bool e.op, .slice e.la e.legs.length e.lc, .slice e.pa e.pauses.length e.pc, .int .i64 e.fw, .int .i64 e.fp, .int .i64 e.wh, .int .i64 e.pl] 44)).cell? ⟨y.w.heap.size, 10, none⟩ = some (.int .i64 e.fp) := by simp [go_sem]
          have hx11 : (y.w.alloc (.cells #[.int .i64 e.id, .int .i64 e.rd, .int .i64 e.s0, .int .i64 e.s1, .int .i64 e.e0, .int .i64 e.e1, .bool e.op, .slice e.la e.legs.length e.lc, .slice e.pa e.pauses.length e.pc, .int .i64 e.fw, .int .i64 e.fp, .int .i64 e.wh, .int .i64 e.pl] 44)).cell? ⟨y.w.heap.size, 11, none⟩ = some (.int .i64 e.wh) := by simp [go_sem]
          have hx12 : (y.w.alloc (.cells #[.int .i64 e.id, .int .i64 e.rd, .int .i64 e.s0, .int .i64 e.s1, .int .i64 e.e0, .int .i64 e.e1, .bool e.op, .slice e.la e.legs.length e.lc, .slice e.pa e.pauses.length e.pc, .int .i64 e.fw, .int .i64 e.fp, .int .i64 e.wh, .int .i64 e.pl] 44)).cell? ⟨y.w.heap.size, 12, none⟩ = some (.int .i64 e.pl) := by simp [go_sem]
          have hxf : ∀ o, (y.w.alloc (.cells #[.int .i64 e.id, .int .i64 e.rd, .int .i64 e.s0, .int .i64 e.s1, .int .i64 e.e0, .int .i64 e.e1, .bool e.op, .slice e.la e.legs.length e.lc, .slice e.pa e.pauses.length e.pc, .int .i64 e.fw, .int .i64 e.fp, .int .i64 e.wh, .int .i64 e.pl] 44)).frozen? ⟨y.w.heap.size, o, none⟩ = false := fun o => by simp [go_sem]
          have hlt0 : y.w.heap.size < (y.w.alloc (.cells #[.int .i64 e.id, .int .i64 e.rd, .int .i64 e.s0, .int .i64 e.s1, .int .i64 e.e0, .int .i64 e.e1, .bool e.op, .slice e.la e.legs.length e.lc, .slice e.pa e.pauses.length e.pc, .int .i64 e.fw, .int .i64 e.fp, .int .i64 e.wh, .int .i64 e.pl] 44)).heap.size := by simp
          have hst0 : ∃ zz : Since y.w, (y.w.alloc (.cells #[.int .i64 e.id, .int .i64 e.rd, .int .i64 e.s0, .int .i64 e.s1, .int .i64 e.e0, .int .i64 e.e1, .bool e.op, .slice e.la e.legs.length e.lc, .slice e.pa e.pauses.length e.pc, .int .i64 e.fw, .int .i64 e.fp, .int .i64 e.wh, .int .i64 e.pl] 44)) = zz.w := IsSince.alloc (IsSince.self _) _
          have hsz0 := y.b.size
          obtain ⟨y2, e2⟩ := IsSince.alloc (IsSince.of y) (.cells #[.int .i64 e.id, .int .i64 e.rd, .int .i64 e.s0, .int .i64 e.s1, .int .i64 e.e0, .int .i64 e.e1, .bool e.op, .slice e.la e.legs.length e.lc, .slice e.pa e.pauses.length e.pc, .int .i64 e.fw, .int .i64 e.fp, .int .i64 e.wh, .int .i64 e.pl] 44)
          rw [e2] at hx0 hx1 hx2 hx3 hx4 hx5 hx6 hx7 hx8 hx9 hx10 hx11 hx12 hxf hlt0 hst0 ⊢
          (replace Hm := Lib.hid (Hm.out.to' hst0))
          clear e2 hst0
          generalize y.w.heap.size = g at *
          have Hhx0 : ∀ q : Since y2.w, q.w.cell? ⟨g, 0, none⟩ = some (.int .i64 e.id) := fun q => Since.cell hx0 (by omega) q
          have Hhx1 : ∀ q : Since y2.w, q.w.cell? ⟨g, 1, none⟩ = some (.int .i64 e.rd) := fun q => Since.cell hx1 (by omega) q
          have Hhx2 : ∀ q : Since y2.w, q.w.cell? ⟨g, 2, none⟩ = some (.int .i64 e.s0) := fun q => Since.cell hx2 (by omega) q
          have Hhx3 : ∀ q : Since y2.w, q.w.cell? ⟨g, 3, none⟩ = some (.int .i64 e.s1) := fun q => Since.cell hx3 (by omega) q
          have Hhx4 : ∀ q : Since y2.w, q.w.cell? ⟨g, 4, none⟩ = some (.int .i64 e.e0) := fun q => Since.cell hx4 (by omega) q
          have Hhx5 : ∀ q : Since y2.w, q.w.cell? ⟨g, 5, none⟩ = some (.int .i64 e.e1) := fun q => Since.cell hx5 (by omega) q
          have Hhx6 : ∀ q : Since y2.w, q.w.cell? ⟨g, 6, none⟩ = some (.bool e.op) := fun q => Since.cell hx6 (by omega) q
          have Hhx7 : ∀ q : Since y2.w, q.w.cell? ⟨g, 7, none⟩ = some (.slice e.la e.legs.length e.lc) := fun q => Since.cell hx7 (by omega) q
          have Hhx8 : ∀ q : Since y2.w, q.w.cell? ⟨g, 8, none⟩ = some (.slice e.pa e.pauses.length e.pc) := fun q => Since.cell hx8 (by omega) q
          have Hhx9 : ∀ q : Since y2.w, q.w.cell? ⟨g, 9, none⟩ = some (.int .i64 e.fw) := fun q => Since.cell hx9 (by omega) q
          have Hhx10 : ∀ q : Since y2.w, q.w.cell? ⟨g, 10, none⟩ = some (.int .i64 e.fp) := fun q => Since.cell hx10 (by omega) q
          have Hhx11 : ∀ q : Since y2.w, q.w.cell? ⟨g, 11, none⟩ = some (.int .i64 e.wh) := fun q => Since.cell hx11 (by omega) q
          have Hhx12 : ∀ q : Since y2.w, q.w.cell? ⟨g, 12, none⟩ = some (.int .i64 e.pl) := fun q => Since.cell hx12 (by omega) q
          have Hhxf : ∀ (q : Since y2.w) (o : Nat), q.w.frozen? ⟨g, o, none⟩ = false := fun q o => Since.free (hxf o) (by omega) q
          have Hhxg := Lib.hid (And.intro hsz0 hlt0)
          clear hlt0 hsz0
          have hlk := run_look keyInt Hm.out Try.underlying58 (zeroBool _) e.id false
          unfold eint at hlk
          simp only [Bool.false_eq_true, if_false] at hlk
          by_cases hin : e.id ∈ (l.map fun r : Ride => r.id).take k
          · rw [idE_in hin] at hlk
            have Hr := Lib.hid (show usesE lp l = 6 by
              rw [HP.out, if_pos (dupB_true fun h => ((Hnx.out.1 (nodup_of_take h)).2 hin))])
            clear hin
            go_wp2_with fail
            go_ret
            exact ⟨ret_int Hr.out.symm, _, rfl⟩
          · rw [idE_out hin] at hlk
            obtain ⟨w2, hst, hw2⟩ := run_store_new keyInt Hm.out Try.underlying58 e.id (.bool true) ((idE_lk e.id _ 0).2 hin)
            unfold eint at hst
            have Hw2 := Lib.hid hw2
            have Hnd2 := Lib.hid (Hnx.out.2 ⟨Hnd.out, hin⟩)
            clear hw2 hin
            go_wp2_with fail
            obtain ⟨y3, hy3⟩ := y2.block (r := bm) (by have := Hgb.out; omega) (.map (entF eint (idE ((l.map fun r : Ride => r.id).take k) ++ [(e.id, Value.bool true)]) 0).toArray (idE ((l.map fun r : Ride => r.id).take k) ++ [(e.id, Value.bool true)]).length)
            have hm3 : MapAt eint y3.w bm (idE ((l.map fun r : Ride => r.id).take (k + 1))) := by
              rw [← hy3, idE_next He'.out]
              exact setBlock_at Hm.out.lt'
            have Hm3 := Lib.hid hm3
            have Hy3 := Lib.hid (Hw2.out.trans hy3)
            clear hm3 hy3
            rw [Hy3.out]
            go_roundw
            case rel => exact ⟨k + 1, y3, by omega, by go_num, rfl, Hm3.out, Hnd2.out⟩
            case measure => simp [intOf] <;> omega
        · obtain rfl : k = l.length := by omega
          have Hr := Lib.hid (show usesE lp l = 0 by
            have h1 := Hnd.out
            rw [List.take_of_length_le (by simp)] at h1
            rw [HP.out, if_neg (by rw [dupB_false h1]; simp)])
          go_wp2_with fail
          go_ret
          exact ⟨ret_int Hr.out.symm, _, rfl⟩
end Go.Proofs.Ytbkfcdheckkjaaa
/- The reference's check of a list of rides. -/
namespace Go.Proofs.Ytbkfcdheckkjaaa
open Go.RowKit

set_option maxRecDepth 100000 in
set_option maxHeartbeats 4000000 in
theorem rrides_calls (w : World) (x : Since w) (a : Option Addr) (l : List Ride) (c : Nat) (h : RideRow w a l) (hl : l.length ≤ 9223372036854775807) :
    Calls Try.prog 29 #[.slice a l.length c] x.w fun o w' => o = .returned (.int .i64 (ridesE l)) ∧ ∃ y : Since w, w' = y.w := by
  have HL := Lib.hid h
  clear h
  by_cases hbig : 256 < l.length
  · have Hr := Lib.hid (show ridesE l = 8 by unfold ridesE; rw [if_pos hbig])
    go_enter Try.func29, Try.ntmps29
    go_wp2_with fail
    go_ret
    exact ⟨ret_int Hr.out.symm, _, rfl⟩
  have hl256 : l.length ≤ 256 := by omega
  have HP := Lib.hid (fun hok : (∀ j, j < l.length → ∀ e, l[j]? = some e → rideE e = 0) => ridesE_ok hl256 hok)
  clear hbig hl
  go_enter Try.func29, Try.ntmps29
  go_wp2_with fail
  go_loopw [3] (fun i wr => ∃ (k : Nat) (y : Since w), k ≤ l.length ∧ i = .int .i64 k ∧ wr = y.w ∧ ∀ j, j < k → ∀ e, l[j]? = some e → rideE e = 0) (fun i _ => l.length - (intOf i).toNat)
  case atStart => exact ⟨0, _, by omega, rfl, rfl, fun j hj => by omega⟩
  case round =>
    obtain ⟨k, y, hk, rfl, rfl, hok⟩ := hrel
    have Hok := Lib.hid hok; clear hok
    by_cases hlt : k < l.length
    · obtain ⟨e, he⟩ : ∃ e, l[k]? = some e := ⟨_, List.getElem?_eq_getElem hlt⟩
      obtain ⟨b1, off1, rfl, h1'⟩ := Els.ride HL.out.c he
      have ra0 := h1'.c0
      have ra1 := h1'.c1
      have ra2 := h1'.c2
      have ra3 := h1'.c3
      have ra4 := h1'.c4
      have ra5 := h1'.c5
      have ra6 := h1'.c6
      have ra7 := h1'.c7
      have ra8 := h1'.c8
      have ra9 := h1'.c9
      have ra10 := h1'.c10
      have ra11 := h1'.c11
      have ra12 := h1'.c12
      have hk0 : (0 : Int) ≤ (k : Int) := by omega
      have hkl : (k : Int) < (l.length : Int) := by omega
      have He := Lib.hid he
      have Hat := Lib.hid (HL.out.r e (List.mem_of_getElem? he))
      clear h1' he
      by_cases hg : rideE e = 0
      · have Hg := Lib.hid hg; clear hg
        go_wp2_with fail
        refine (rcheck_calls w y e Hat.out).mono ?_
        rintro _ _ ⟨rfl, z, rfl⟩
        rw [Hg.out]
        go_wp2_with fail
        go_roundw
        case rel => exact ⟨k + 1, z, by omega, by go_num, rfl, upto_next (P := fun e : Ride => rideE e = 0) Hok.out He.out Hg.out⟩
        case measure => simp [intOf] <;> omega
      · have Hr := Lib.hid (ridesE_err hl256 He.out hg Hok.out)
        have heb : (rideE e != 0) = true := by simpa using hg
        clear hg
        go_wp2_with fail
        refine (rcheck_calls w y e Hat.out).mono ?_
        rintro _ _ ⟨rfl, z, rfl⟩
        generalize rideE e = re at *
        go_wp2_with fail
        go_ret
        exact ⟨ret_int Hr.out.symm, _, rfl⟩
    · obtain rfl : k = l.length := by omega
      have HQ := Lib.hid (HP.out Hok.out)
      clear Hok HP
      go_wp2_with fail
      go_loopw [5] (fun i wr => ∃ (k : Nat) (y : Since w), k ≤ l.length ∧ i = .int .i64 k ∧ wr = y.w ∧ ((l.map fun r : Ride => r.id).take k).Nodup) (fun i _ => l.length - (intOf i).toNat)
      case atStart => exact ⟨0, y, by omega, rfl, rfl, by simp⟩
      case round =>
        obtain ⟨k, y, hk, rfl, rfl, hnd⟩ := hrel
        have Hnd := Lib.hid hnd; clear hnd
        by_cases hlt : k < l.length
        · obtain ⟨e, he⟩ : ∃ e, l[k]? = some e := ⟨_, List.getElem?_eq_getElem hlt⟩
          obtain ⟨b1, off1, rfl, h1'⟩ := Els.ride HL.out.c he
          have ra0 := h1'.c0
          have hk0 : (0 : Int) ≤ (k : Int) := by omega
          have hkl : (k : Int) < (l.length : Int) := by omega
          have He := Lib.hid (map_at (f := fun r : Ride => r.id) he)
          have Hnx := Lib.hid (nodup_take_next He.out)
          clear h1' he
          go_wp2_with fail
          go_loopw [6] (fun i wr => ∃ (m : Nat) (y : Since w), m ≤ k ∧ i = .int .i64 m ∧ wr = y.w ∧ ∀ j, j < m → ∀ v, (l.map fun r : Ride => r.id)[j]? = some v → v ≠ e.id) (fun i _ => k - (intOf i).toNat)
          case atStart => exact ⟨0, y, by omega, rfl, rfl, fun j hj => by omega⟩
          case round =>
            obtain ⟨m, y, hm, rfl, rfl, hno⟩ := hrel
            have Hno := Lib.hid hno; clear hno
            by_cases hlm : m < k
            · obtain ⟨e2, he2⟩ : ∃ e, l[m]? = some e := ⟨_, List.getElem?_eq_getElem (by omega)⟩
              obtain ⟨b2, off2, hbo, h2'⟩ := Els.ride HL.out.c he2
              simp only [Option.some.injEq, Addr.mk.injEq, and_true] at hbo
              obtain ⟨rfl, rfl⟩ := hbo
              have rb0 := h2'.c0
              have hm0 : (0 : Int) ≤ (m : Int) := by omega
              have hml : (m : Int) < (l.length : Int) := by omega
              have hmk : (m : Int) < (k : Int) := by omega
              have He2 := Lib.hid (map_at (f := fun r : Ride => r.id) he2)
              clear h2' he2
              by_cases hee : e.id = e2.id
              · have hb : (e.id == e2.id) = true := by simpa using hee
                have Hr := Lib.hid (show ridesE l = 6 by
                  rw [HQ.out, if_pos (dupB_true fun h => (Hnx.out.1 (nodup_of_take h)).2 (by rw [hee]; exact List.mem_of_getElem? (by rw [List.getElem?_take, if_pos hlm]; exact He2.out)))])
                clear hee
                go_wp2_with fail
                refine wp_region_since (by kernel_rfl) (by kernel_rfl) ?_
                repeat (go_big_quiet_step (fail))
                refine wpQuiet_nil ?_
                rintro _ ⟨z, rfl⟩
                go_wp2_with fail
                go_ret
                exact ⟨ret_int Hr.out.symm, _, rfl⟩
              · have hb : (e.id == e2.id) = false := by simpa using hee
                have Hno2 := Lib.hid (show ∀ j, j < m + 1 → ∀ v, (l.map fun r : Ride => r.id)[j]? = some v → v ≠ e.id from upto_next (P := fun v => v ≠ e.id) Hno.out He2.out (fun h => hee h.symm))
                clear hee
                go_wp2_with fail
                refine wp_region_since (by kernel_rfl) (by kernel_rfl) ?_
                repeat (go_big_quiet_step (fail))
                refine wpQuiet_nil ?_
                rintro _ ⟨z, rfl⟩
                go_wp2_with fail
                go_roundw
                case rel => exact ⟨m + 1, z, by omega, by go_num, rfl, Hno2.out⟩
                case measure => simp [intOf] <;> omega
            · obtain rfl : m = k := by omega
              have Hnd2 := Lib.hid (Hnx.out.2 ⟨Hnd.out, fun hm => by
                obtain ⟨j, hj⟩ := List.mem_iff_getElem?.1 hm
                rw [List.getElem?_take] at hj
                split at hj
                · rename_i hjm; exact Hno.out j hjm _ hj rfl
                · cases hj⟩)
              go_wp2_with fail
              go_roundw
              case rel => exact ⟨m + 1, y, by omega, by go_num, rfl, Hnd2.out⟩
              case measure => simp [intOf] <;> omega
        · obtain rfl : k = l.length := by omega
          have Hr := Lib.hid (show ridesE l = 0 by
            have h1 := Hnd.out
            rw [List.take_of_length_le (by simp)] at h1
            rw [HQ.out, if_neg (by rw [dupB_false h1]; simp)])
          go_wp2_with fail
          go_ret
          exact ⟨ret_int Hr.out.symm, _, rfl⟩
end Go.Proofs.Ytbkfcdheckkjaaa
/- The reference of passes: order, validity, counting, the next ride, equal lists. -/
namespace Go.Proofs.Ytbkfcdheckkjaaa
open Go.RowKit

set_option maxRecDepth 100000 in
set_option maxHeartbeats 4000000 in
theorem rbefore_calls (w : World) (x : Since w) (a b : Ride) :
    Calls Try.prog 20 #[.agg #[.int .i64 a.id, .int .i64 a.rd, .int .i64 a.s0, .int .i64 a.s1, .int .i64 a.e0, .int .i64 a.e1, .bool a.op, .slice a.la a.legs.length a.lc, .slice a.pa a.pauses.length a.pc, .int .i64 a.fw, .int .i64 a.fp, .int .i64 a.wh, .int .i64 a.pl], .agg #[.int .i64 b.id, .int .i64 b.rd, .int .i64 b.s0, .int .i64 b.s1, .int .i64 b.e0, .int .i64 b.e1, .bool b.op, .slice b.la b.legs.length b.lc, .slice b.pa b.pauses.length b.pc, .int .i64 b.fw, .int .i64 b.fp, .int .i64 b.wh, .int .i64 b.pl]] x.w fun o w' => o = .returned (.bool (bef a b)) ∧ ∃ y : Since w, w' = y.w := by
  have HG := Lib.hid (bef_iff a b)
  go_enter Try.func20, Try.ntmps20
  go_upto_region 1 with fail
  have hb0_0 : ∀ y : Since ((x.w.alloc (.cells #[.int .i64 a.id, .int .i64 a.rd, .int .i64 a.s0, .int .i64 a.s1, .int .i64 a.e0, .int .i64 a.e1, .bool a.op, .slice a.la a.legs.length a.lc, .slice a.pa a.pauses.length a.pc, .int .i64 a.fw, .int .i64 a.fp, .int .i64 a.wh, .int .i64 a.pl] 44)).alloc (.cells #[.int .i64 b.id, .int .i64 b.rd, .int .i64 b.s0, .int .i64 b.s1, .int .i64 b.e0, .int .i64 b.e1, .bool b.op, .slice b.la b.legs.length b.lc, .slice b.pa b.pauses.length b.pc, .int .i64 b.fw, .int .i64 b.fp, .int .i64 b.wh, .int .i64 b.pl] 44)), y.w.cell? ⟨x.w.heap.size, 0, none⟩ = some (.int .i64 a.id) := fun y => Since.cell (by simp [go_sem]) (by first | (simp; done) | (simp; omega)) y
  have hb0_1 : ∀ y : Since ((x.w.alloc (.cells #[.int .i64 a.id, .int .i64 a.rd, .int .i64 a.s0, .int .i64 a.s1, .int .i64 a.e0, .int .i64 a.e1, .bool a.op, .slice a.la a.legs.length a.lc, .slice a.pa a.pauses.length a.pc, .int .i64 a.fw, .int .i64 a.fp, .int .i64 a.wh, .int .i64 a.pl] 44)).alloc (.cells #[.int .i64 b.id, .int .i64 b.rd, .int .i64 b.s0, .int .i64 b.s1, .int .i64 b.e0, .int .i64 b.e1, .bool b.op, .slice b.la b.legs.length b.lc, .slice b.pa b.pauses.length b.pc, .int .i64 b.fw, .int .i64 b.fp, .int .i64 b.wh, .int .i64 b.pl] 44)), y.w.cell? ⟨x.w.heap.size, 1, none⟩ = some (.int .i64 a.rd) := fun y => Since.cell (by simp [go_sem]) (by first | (simp; done) | (simp; omega)) y
  have hb0_2 : ∀ y : Since ((x.w.alloc (.cells #[.int .i64 a.id, .int .i64 a.rd, .int .i64 a.s0, .int .i64 a.s1, .int .i64 a.e0, .int .i64 a.e1, .bool a.op, .slice a.la a.legs.length a.lc, .slice a.pa a.pauses.length a.pc, .int .i64 a.fw, .int .i64 a.fp, .int .i64 a.wh, .int .i64 a.pl] 44)).alloc (.cells #[.int .i64 b.id, .int .i64 b.rd, .int .i64 b.s0, .int .i64 b.s1, .int .i64 b.e0, .int .i64 b.e1, .bool b.op, .slice b.la b.legs.length b.lc, .slice b.pa b.pauses.length b.pc, .int .i64 b.fw, .int .i64 b.fp, .int .i64 b.wh, .int .i64 b.pl] 44)), y.w.cell? ⟨x.w.heap.size, 2, none⟩ = some (.int .i64 a.s0) := fun y => Since.cell (by simp [go_sem]) (by first | (simp; done) | (simp; omega)) y
  have hb0_3 : ∀ y : Since ((x.w.alloc (.cells #[.int .i64 a.id, .int .i64 a.rd, .int .i64 a.s0, .int .i64 a.s1, .int .i64 a.e0, .int .i64 a.e1, .bool a.op, .slice a.la a.legs.length a.lc, .slice a.pa a.pauses.length a.pc, .int .i64 a.fw, .int .i64 a.fp, .int .i64 a.wh, .int .i64 a.pl] 44)).alloc (.cells #[.int .i64 b.id, .int .i64 b.rd, .int .i64 b.s0, .int .i64 b.s1, .int .i64 b.e0, .int .i64 b.e1, .bool b.op, .slice b.la b.legs.length b.lc, .slice b.pa b.pauses.length b.pc, .int .i64 b.fw, .int .i64 b.fp, .int .i64 b.wh, .int .i64 b.pl] 44)), y.w.cell? ⟨x.w.heap.size, 3, none⟩ = some (.int .i64 a.s1) := fun y => Since.cell (by simp [go_sem]) (by first | (simp; done) | (simp; omega)) y
  have hb0_4 : ∀ y : Since ((x.w.alloc (.cells #[.int .i64 a.id, .int .i64 a.rd, .int .i64 a.s0, .int .i64 a.s1, .int .i64 a.e0, .int .i64 a.e1, .bool a.op, .slice a.la a.legs.length a.lc, .slice a.pa a.pauses.length a.pc, .int .i64 a.fw, .int .i64 a.fp, .int .i64 a.wh, .int .i64 a.pl] 44)).alloc (.cells #[.int .i64 b.id, .int .i64 b.rd, .int .i64 b.s0, .int .i64 b.s1, .int .i64 b.e0, .int .i64 b.e1, .bool b.op, .slice b.la b.legs.length b.lc, .slice b.pa b.pauses.length b.pc, .int .i64 b.fw, .int .i64 b.fp, .int .i64 b.wh, .int .i64 b.pl] 44)), y.w.cell? ⟨x.w.heap.size, 4, none⟩ = some (.int .i64 a.e0) := fun y => Since.cell (by simp [go_sem]) (by first | (simp; done) | (simp; omega)) y
  have hb0_5 : ∀ y : Since ((x.w.alloc (.cells #[.int .i64 a.id, .int .i64 a.rd, .int .i64 a.s0, .int .i64 a.s1, .int .i64 a.e0, .int .i64 a.e1, .bool a.op, .slice a.la a.legs.length a.lc, .slice a.pa a.pauses.length a.pc, .int .i64 a.fw, .int .i64 a.fp, .int .i64 a.wh, .int .i64 a.pl] 44)).alloc (.cells #[.int .i64 b.id, .int .i64 b.rd, .int .i64 b.s0, .int .i64 b.s1, .int .i64 b.e0, .int .i64 b.e1, .bool b.op, .slice b.la b.legs.length b.lc, .slice b.pa b.pauses.length b.pc, .int .i64 b.fw, .int .i64 b.fp, .int .i64 b.wh, .int .i64 b.pl] 44)), y.w.cell? ⟨x.w.heap.size, 5, none⟩ = some (.int .i64 a.e1) := fun y => Since.cell (by simp [go_sem]) (by first | (simp; done) | (simp; omega)) y
  have hb0_6 : ∀ y : Since ((x.w.alloc (.cells #[.int .i64 a.id, .int .i64 a.rd, .int .i64 a.s0, .int .i64 a.s1, .int .i64 a.e0, .int .i64 a.e1, .bool a.op, .slice a.la a.legs.length a.lc, .slice a.pa a.pauses.length a.pc, .int .i64 a.fw, .int .i64 a.fp, .int .i64 a.wh, .int .i64 a.pl] 44)).alloc (.cells #[.int .i64 b.id, .int .i64 b.rd, .int .i64 b.s0, .int .i64 b.s1, .int .i64 b.e0, .int .i64 b.e1, .bool b.op, .slice b.la b.legs.length b.lc, .slice b.pa b.pauses.length b.pc, .int .i64 b.fw, .int .i64 b.fp, .int .i64 b.wh, .int .i64 b.pl] 44)), y.w.cell? ⟨x.w.heap.size, 6, none⟩ = some (.bool a.op) := fun y => Since.cell (by simp [go_sem]) (by first | (simp; done) | (simp; omega)) y
  have hb0_7 : ∀ y : Since ((x.w.alloc (.cells #[.int .i64 a.id, .int .i64 a.rd, .int .i64 a.s0, .int .i64 a.s1, .int .i64 a.e0, .int .i64 a.e1, .bool a.op, .slice a.la a.legs.length a.lc, .slice a.pa a.pauses.length a.pc, .int .i64 a.fw, .int .i64 a.fp, .int .i64 a.wh, .int .i64 a.pl] 44)).alloc (.cells #[.int .i64 b.id, .int .i64 b.rd, .int .i64 b.s0, .int .i64 b.s1, .int .i64 b.e0, .int .i64 b.e1, .bool b.op, .slice b.la b.legs.length b.lc, .slice b.pa b.pauses.length b.pc, .int .i64 b.fw, .int .i64 b.fp, .int .i64 b.wh, .int .i64 b.pl] 44)), y.w.cell? ⟨x.w.heap.size, 7, none⟩ = some (.slice a.la a.legs.length a.lc) := fun y => Since.cell (by simp [go_sem]) (by first | (simp; done) | (simp; omega)) y
  have hb0_8 : ∀ y : Since ((x.w.alloc (.cells #[.int .i64 a.id, .int .i64 a.rd, .int .i64 a.s0, .int .i64 a.s1, .int .i64 a.e0, .int .i64 a.e1, .bool a.op, .slice a.la a.legs.length a.lc, .slice a.pa a.pauses.length a.pc, .int .i64 a.fw, .int .i64 a.fp, .int .i64 a.wh, .int .i64 a.pl] 44)).alloc (.cells #[.int .i64 b.id, .int .i64 b.rd, .int .i64 b.s0, .int .i64 b.s1, .int .i64 b.e0, .int .i64 b.e1, .bool b.op, .slice b.la b.legs.length b.lc, .slice b.pa b.pauses.length b.pc, .int .i64 b.fw, .int .i64 b.fp, .int .i64 b.wh, .int .i64 b.pl] 44)), y.w.cell? ⟨x.w.heap.size, 8, none⟩ = some (.slice a.pa a.pauses.length a.pc) := fun y => Since.cell (by simp [go_sem]) (by first | (simp; done) | (simp; omega)) y
  have hb0_9 : ∀ y : Since ((x.w.alloc (.cells #[.int .i64 a.id, .int .i64 a.rd, .int .i64 a.s0, .int .i64 a.s1, .int .i64 a.e0, .int .i64 a.e1, .bool a.op, .slice a.la a.legs.length a.lc, .slice a.pa a.pauses.length a.pc, .int .i64 a.fw, .int .i64 a.fp, .int .i64 a.wh, .int .i64 a.pl] 44)).alloc (.cells #[.int .i64 b.id, .int .i64 b.rd, .int .i64 b.s0, .int .i64 b.s1, .int .i64 b.e0, .int .i64 b.e1, .bool b.op, .slice b.la b.legs.length b.lc, .slice b.pa b.pauses.length b.pc, .int .i64 b.fw, .int .i64 b.fp, .int .i64 b.wh, .int .i64 b.pl] 44)), y.w.cell? ⟨x.w.heap.size, 9, none⟩ = some (.int .i64 a.fw) := fun y => Since.cell (by simp [go_sem]) (by first | (simp; done) | (simp; omega)) y
  have hb0_10 : ∀ y : Since ((x.w.alloc (.cells #[.int .i64 a.id, .int .i64 a.rd, .int .i64 a.s0, .int .i64 a.s1, .int .i64 a.e0, .int .i64 a.e1, .bool a.op, .slice a.la a.legs.length a.lc, .slice a.pa a.pauses.length a.pc, .int .i64 a.fw, .int .i64 a.fp, .int .i64 a.wh, .int .i64 a.pl] 44)).alloc (.cells #[.int .i64 b.id, .int .i64 b.rd, .int .i64 b.s0, .int .i64 b.s1, .int .i64 b.e0, .int .i64 b.e1, .bool b.op, .slice b.la b.legs.length b.lc, .slice b.pa b.pauses.length b.pc, .int .i64 b.fw, .int .i64 b.fp, .int .i64 b.wh, .int .i64 b.pl] 44)), y.w.cell? ⟨x.w.heap.size, 10, none⟩ = some (.int .i64 a.fp) := fun y => Since.cell (by simp [go_sem]) (by first | (simp; done) | (simp; omega)) y
  have hb0_11 : ∀ y : Since ((x.w.alloc (.cells #[.int .i64 a.id, .int .i64 a.rd, .int .i64 a.s0, .int .i64 a.s1, .int .i64 a.e0, .int .i64 a.e1, .bool a.op, .slice a.la a.legs.length a.lc, .slice a.pa a.pauses.length a.pc, .int .i64 a.fw, .int .i64 a.fp, .int .i64 a.wh, .int .i64 a.pl] 44)).alloc (.cells #[.int .i64 b.id, .int .i64 b.rd, .int .i64 b.s0, .int .i64 b.s1, .int .i64 b.e0, .int .i64 b.e1, .bool b.op, .slice b.la b.legs.length b.lc, .slice b.pa b.pauses.length b.pc, .int .i64 b.fw, .int .i64 b.fp, .int .i64 b.wh, .int .i64 b.pl] 44)), y.w.cell? ⟨x.w.heap.size, 11, none⟩ = some (.int .i64 a.wh) := fun y => Since.cell (by simp [go_sem]) (by first | (simp; done) | (simp; omega)) y
  have hb0_12 : ∀ y : Since ((x.w.alloc (.cells #[.int .i64 a.id, .int .i64 a.rd, .int .i64 a.s0, .int .i64 a.s1, .int .i64 a.e0, .int .i64 a.e1, .bool a.op, .slice a.la a.legs.length a.lc, .slice a.pa a.pauses.length a.pc, .int .i64 a.fw, .int .i64 a.fp, .int .i64 a.wh, .int .i64 a.pl] 44)).alloc (.cells #[.int .i64 b.id, .int .i64 b.rd, .int .i64 b.s0, .int .i64 b.s1, .int .i64 b.e0, .int .i64 b.e1, .bool b.op, .slice b.la b.legs.length b.lc, .slice b.pa b.pauses.length b.pc, .int .i64 b.fw, .int .i64 b.fp, .int .i64 b.wh, .int .i64 b.pl] 44)), y.w.cell? ⟨x.w.heap.size, 12, none⟩ = some (.int .i64 a.pl) := fun y => Since.cell (by simp [go_sem]) (by first | (simp; done) | (simp; omega)) y
  have hf0 : ∀ (y : Since ((x.w.alloc (.cells #[.int .i64 a.id, .int .i64 a.rd, .int .i64 a.s0, .int .i64 a.s1, .int .i64 a.e0, .int .i64 a.e1, .bool a.op, .slice a.la a.legs.length a.lc, .slice a.pa a.pauses.length a.pc, .int .i64 a.fw, .int .i64 a.fp, .int .i64 a.wh, .int .i64 a.pl] 44)).alloc (.cells #[.int .i64 b.id, .int .i64 b.rd, .int .i64 b.s0, .int .i64 b.s1, .int .i64 b.e0, .int .i64 b.e1, .bool b.op, .slice b.la b.legs.length b.lc, .slice b.pa b.pauses.length b.pc, .int .i64 b.fw, .int .i64 b.fp, .int .i64 b.wh, .int .i64 b.pl] 44))) (o : Nat), y.w.frozen? ⟨x.w.heap.size, o, none⟩ = false := fun y o => Since.free (by simp [go_sem]) (by first | (simp; done) | (simp; omega)) y
  have hb1_0 : ∀ y : Since ((x.w.alloc (.cells #[.int .i64 a.id, .int .i64 a.rd, .int .i64 a.s0, .int .i64 a.s1, .int .i64 a.e0, .int .i64 a.e1, .bool a.op, .slice a.la a.legs.length a.lc, .slice a.pa a.pauses.length a.pc, .int .i64 a.fw, .int .i64 a.fp, .int .i64 a.wh, .int .i64 a.pl] 44)).alloc (.cells #[.int .i64 b.id, .int .i64 b.rd, .int .i64 b.s0, .int .i64 b.s1, .int .i64 b.e0, .int .i64 b.e1, .bool b.op, .slice b.la b.legs.length b.lc, .slice b.pa b.pauses.length b.pc, .int .i64 b.fw, .int .i64 b.fp, .int .i64 b.wh, .int .i64 b.pl] 44)), y.w.cell? ⟨x.w.heap.size + 1, 0, none⟩ = some (.int .i64 b.id) := fun y => Since.cell (by simp [go_sem]) (by first | (simp; done) | (simp; omega)) y
  have hb1_1 : ∀ y : Since ((x.w.alloc (.cells #[.int .i64 a.id, .int .i64 a.rd, .int .i64 a.s0, .int .i64 a.s1, .int .i64 a.e0, .int .i64 a.e1, .bool a.op, .slice a.la a.legs.length a.lc, .slice a.pa a.pauses.length a.pc, .int .i64 a.fw, .int .i64 a.fp, .int .i64 a.wh, .int .i64 a.pl] 44)).alloc (.cells #[.int .i64 b.id, .int .i64 b.rd, .int .i64 b.s0, .int .i64 b.s1, .int .i64 b.e0, .int .i64 b.e1, .bool b.op, .slice b.la b.legs.length b.lc, .slice b.pa b.pauses.length b.pc, .int .i64 b.fw, .int .i64 b.fp, .int .i64 b.wh, .int .i64 b.pl] 44)), y.w.cell? ⟨x.w.heap.size + 1, 1, none⟩ = some (.int .i64 b.rd) := fun y => Since.cell (by simp [go_sem]) (by first | (simp; done) | (simp; omega)) y
  have hb1_2 : ∀ y : Since ((x.w.alloc (.cells #[.int .i64 a.id, .int .i64 a.rd, .int .i64 a.s0, .int .i64 a.s1, .int .i64 a.e0, .int .i64 a.e1, .bool a.op, .slice a.la a.legs.length a.lc, .slice a.pa a.pauses.length a.pc, .int .i64 a.fw, .int .i64 a.fp, .int .i64 a.wh, .int .i64 a.pl] 44)).alloc (.cells #[.int .i64 b.id, .int .i64 b.rd, .int .i64 b.s0, .int .i64 b.s1, .int .i64 b.e0, .int .i64 b.e1, .bool b.op, .slice b.la b.legs.length b.lc, .slice b.pa b.pauses.length b.pc, .int .i64 b.fw, .int .i64 b.fp, .int .i64 b.wh, .int .i64 b.pl] 44)), y.w.cell? ⟨x.w.heap.size + 1, 2, none⟩ = some (.int .i64 b.s0) := fun y => Since.cell (by simp [go_sem]) (by first | (simp; done) | (simp; omega)) y
  have hb1_3 : ∀ y : Since ((x.w.alloc (.cells #[.int .i64 a.id, .int .i64 a.rd, .int .i64 a.s0, .int .i64 a.s1, .int .i64 a.e0, .int .i64 a.e1, .bool a.op, .slice a.la a.legs.length a.lc, .slice a.pa a.pauses.length a.pc, .int .i64 a.fw, .int .i64 a.fp, .int .i64 a.wh, .int .i64 a.pl] 44)).alloc (.cells #[.int .i64 b.id, .int .i64 b.rd, .int .i64 b.s0, .int .i64 b.s1, .int .i64 b.e0, .int .i64 b.e1, .bool b.op, .slice b.la b.legs.length b.lc, .slice b.pa b.pauses.length b.pc, .int .i64 b.fw, .int .i64 b.fp, .int .i64 b.wh, .int .i64 b.pl] 44)), y.w.cell? ⟨x.w.heap.size + 1, 3, none⟩ = some (.int .i64 b.s1) := fun y => Since.cell (by simp [go_sem]) (by first | (simp; done) | (simp; omega)) y
  have hb1_4 : ∀ y : Since ((x.w.alloc (.cells #[.int .i64 a.id, .int .i64 a.rd, .int .i64 a.s0, .int .i64 a.s1, .int .i64 a.e0, .int .i64 a.e1, .bool a.op, .slice a.la a.legs.length a.lc, .slice a.pa a.pauses.length a.pc, .int .i64 a.fw, .int .i64 a.fp, .int .i64 a.wh, .int .i64 a.pl] 44)).alloc (.cells #[.int .i64 b.id, .int .i64 b.rd, .int .i64 b.s0, .int .i64 b.s1, .int .i64 b.e0, .int .i64 b.e1, .bool b.op, .slice b.la b.legs.length b.lc, .slice b.pa b.pauses.length b.pc, .int .i64 b.fw, .int .i64 b.fp, .int .i64 b.wh, .int .i64 b.pl] 44)), y.w.cell? ⟨x.w.heap.size + 1, 4, none⟩ = some (.int .i64 b.e0) := fun y => Since.cell (by simp [go_sem]) (by first | (simp; done) | (simp; omega)) y
  have hb1_5 : ∀ y : Since ((x.w.alloc (.cells #[.int .i64 a.id, .int .i64 a.rd, .int .i64 a.s0, .int .i64 a.s1, .int .i64 a.e0, .int .i64 a.e1, .bool a.op, .slice a.la a.legs.length a.lc, .slice a.pa a.pauses.length a.pc, .int .i64 a.fw, .int .i64 a.fp, .int .i64 a.wh, .int .i64 a.pl] 44)).alloc (.cells #[.int .i64 b.id, .int .i64 b.rd, .int .i64 b.s0, .int .i64 b.s1, .int .i64 b.e0, .int .i64 b.e1, .bool b.op, .slice b.la b.legs.length b.lc, .slice b.pa b.pauses.length b.pc, .int .i64 b.fw, .int .i64 b.fp, .int .i64 b.wh, .int .i64 b.pl] 44)), y.w.cell? ⟨x.w.heap.size + 1, 5, none⟩ = some (.int .i64 b.e1) := fun y => Since.cell (by simp [go_sem]) (by first | (simp; done) | (simp; omega)) y
  have hb1_6 : ∀ y : Since ((x.w.alloc (.cells #[.int .i64 a.id, .int .i64 a.rd, .int .i64 a.s0, .int .i64 a.s1, .int .i64 a.e0, .int .i64 a.e1, .bool a.op, .slice a.la a.legs.length a.lc, .slice a.pa a.pauses.length a.pc, .int .i64 a.fw, .int .i64 a.fp, .int .i64 a.wh, .int .i64 a.pl] 44)).alloc (.cells #[.int .i64 b.id, .int .i64 b.rd, .int .i64 b.s0, .int .i64 b.s1, .int .i64 b.e0, .int .i64 b.e1, .bool b.op, .slice b.la b.legs.length b.lc, .slice b.pa b.pauses.length b.pc, .int .i64 b.fw, .int .i64 b.fp, .int .i64 b.wh, .int .i64 b.pl] 44)), y.w.cell? ⟨x.w.heap.size + 1, 6, none⟩ = some (.bool b.op) := fun y => Since.cell (by simp [go_sem]) (by first | (simp; done) | (simp; omega)) y
  have hb1_7 : ∀ y : Since ((x.w.alloc (.cells #[.int .i64 a.id, .int .i64 a.rd, .int .i64 a.s0, .int .i64 a.s1, .int .i64 a.e0, .int .i64 a.e1, .bool a.op, .slice a.la a.legs.length a.lc, .slice a.pa a.pauses.length a.pc, .int .i64 a.fw, .int .i64 a.fp, .int .i64 a.wh, .int .i64 a.pl] 44)).alloc (.cells #[.int .i64 b.id, .int .i64 b.rd, .int .i64 b.s0, .int .i64 b.s1, .int .i64 b.e0, .int .i64 b.e1, .bool b.op, .slice b.la b.legs.length b.lc, .slice b.pa b.pauses.length b.pc, .int .i64 b.fw, .int .i64 b.fp, .int .i64 b.wh, .int .i64 b.pl] 44)), y.w.cell? ⟨x.w.heap.size + 1, 7, none⟩ = some (.slice b.la b.legs.length b.lc) := fun y => Since.cell (by simp [go_sem]) (by first | (simp; done) | (simp; omega)) y
  have hb1_8 : ∀ y : Since ((x.w.alloc (.cells #[.int .i64 a.id, .int .i64 a.rd, .int .i64 a.s0, .int .i64 a.s1, .int .i64 a.e0, .int .i64 a.e1, .bool a.op, .slice a.la a.legs.length a.lc, .slice a.pa a.pauses.length a.pc, .int .i64 a.fw, .int .i64 a.fp, .int .i64 a.wh, .int .i64 a.pl] 44)).alloc (.cells #[.int .i64 b.id, .int .i64 b.rd, .int .i64 b.s0, .int .i64 b.s1, .int .i64 b.e0, .int .i64 b.e1, .bool b.op, .slice b.la b.legs.length b.lc, .slice b.pa b.pauses.length b.pc, .int .i64 b.fw, .int .i64 b.fp, .int .i64 b.wh, .int .i64 b.pl] 44)), y.w.cell? ⟨x.w.heap.size + 1, 8, none⟩ = some (.slice b.pa b.pauses.length b.pc) := fun y => Since.cell (by simp [go_sem]) (by first | (simp; done) | (simp; omega)) y
  have hb1_9 : ∀ y : Since ((x.w.alloc (.cells #[.int .i64 a.id, .int .i64 a.rd, .int .i64 a.s0, .int .i64 a.s1, .int .i64 a.e0, .int .i64 a.e1, .bool a.op, .slice a.la a.legs.length a.lc, .slice a.pa a.pauses.length a.pc, .int .i64 a.fw, .int .i64 a.fp, .int .i64 a.wh, .int .i64 a.pl] 44)).alloc (.cells #[.int .i64 b.id, .int .i64 b.rd, .int .i64 b.s0, .int .i64 b.s1, .int .i64 b.e0, .int .i64 b.e1, .bool b.op, .slice b.la b.legs.length b.lc, .slice b.pa b.pauses.length b.pc, .int .i64 b.fw, .int .i64 b.fp, .int .i64 b.wh, .int .i64 b.pl] 44)), y.w.cell? ⟨x.w.heap.size + 1, 9, none⟩ = some (.int .i64 b.fw) := fun y => Since.cell (by simp [go_sem]) (by first | (simp; done) | (simp; omega)) y
  have hb1_10 : ∀ y : Since ((x.w.alloc (.cells #[.int .i64 a.id, .int .i64 a.rd, .int .i64 a.s0, .int .i64 a.s1, .int .i64 a.e0, .int .i64 a.e1, .bool a.op, .slice a.la a.legs.length a.lc, .slice a.pa a.pauses.length a.pc, .int .i64 a.fw, .int .i64 a.fp, .int .i64 a.wh, .int .i64 a.pl] 44)).alloc (.cells #[.int .i64 b.id, .int .i64 b.rd, .int .i64 b.s0, .int .i64 b.s1, .int .i64 b.e0, .int .i64 b.e1, .bool b.op, .slice b.la b.legs.length b.lc, .slice b.pa b.pauses.length b.pc, .int .i64 b.fw, .int .i64 b.fp, .int .i64 b.wh, .int .i64 b.pl] 44)), y.w.cell? ⟨x.w.heap.size + 1, 10, none⟩ = some (.int .i64 b.fp) := fun y => Since.cell (by simp [go_sem]) (by first | (simp; done) | (simp; omega)) y
  have hb1_11 : ∀ y : Since ((x.w.alloc (.cells #[.int .i64 a.id, .int .i64 a.rd, .int .i64 a.s0, .int .i64 a.s1, .int .i64 a.e0, .int .i64 a.e1, .bool a.op, .slice a.la a.legs.length a.lc, .slice a.pa a.pauses.length a.pc, .int .i64 a.fw, .int .i64 a.fp, .int .i64 a.wh, .int .i64 a.pl] 44)).alloc (.cells #[.int .i64 b.id, .int .i64 b.rd, .int .i64 b.s0, .int .i64 b.s1, .int .i64 b.e0, .int .i64 b.e1, .bool b.op, .slice b.la b.legs.length b.lc, .slice b.pa b.pauses.length b.pc, .int .i64 b.fw, .int .i64 b.fp, .int .i64 b.wh, .int .i64 b.pl] 44)), y.w.cell? ⟨x.w.heap.size + 1, 11, none⟩ = some (.int .i64 b.wh) := fun y => Since.cell (by simp [go_sem]) (by first | (simp; done) | (simp; omega)) y
  have hb1_12 : ∀ y : Since ((x.w.alloc (.cells #[.int .i64 a.id, .int .i64 a.rd, .int .i64 a.s0, .int .i64 a.s1, .int .i64 a.e0, .int .i64 a.e1, .bool a.op, .slice a.la a.legs.length a.lc, .slice a.pa a.pauses.length a.pc, .int .i64 a.fw, .int .i64 a.fp, .int .i64 a.wh, .int .i64 a.pl] 44)).alloc (.cells #[.int .i64 b.id, .int .i64 b.rd, .int .i64 b.s0, .int .i64 b.s1, .int .i64 b.e0, .int .i64 b.e1, .bool b.op, .slice b.la b.legs.length b.lc, .slice b.pa b.pauses.length b.pc, .int .i64 b.fw, .int .i64 b.fp, .int .i64 b.wh, .int .i64 b.pl] 44)), y.w.cell? ⟨x.w.heap.size + 1, 12, none⟩ = some (.int .i64 b.pl) := fun y => Since.cell (by simp [go_sem]) (by first | (simp; done) | (simp; omega)) y
  have hf1 : ∀ (y : Since ((x.w.alloc (.cells #[.int .i64 a.id, .int .i64 a.rd, .int .i64 a.s0, .int .i64 a.s1, .int .i64 a.e0, .int .i64 a.e1, .bool a.op, .slice a.la a.legs.length a.lc, .slice a.pa a.pauses.length a.pc, .int .i64 a.fw, .int .i64 a.fp, .int .i64 a.wh, .int .i64 a.pl] 44)).alloc (.cells #[.int .i64 b.id, .int .i64 b.rd, .int .i64 b.s0, .int .i64 b.s1, .int .i64 b.e0, .int .i64 b.e1, .bool b.op, .slice b.la b.legs.length b.lc, .slice b.pa b.pauses.length b.pc, .int .i64 b.fw, .int .i64 b.fp, .int .i64 b.wh, .int .i64 b.pl] 44))) (o : Nat), y.w.frozen? ⟨x.w.heap.size + 1, o, none⟩ = false := fun y o => Since.free (by simp [go_sem]) (by first | (simp; done) | (simp; omega)) y
  have hWup : ∃ z : Since w, ((x.w.alloc (.cells #[.int .i64 a.id, .int .i64 a.rd, .int .i64 a.s0, .int .i64 a.s1, .int .i64 a.e0, .int .i64 a.e1, .bool a.op, .slice a.la a.legs.length a.lc, .slice a.pa a.pauses.length a.pc, .int .i64 a.fw, .int .i64 a.fp, .int .i64 a.wh, .int .i64 a.pl] 44)).alloc (.cells #[.int .i64 b.id, .int .i64 b.rd, .int .i64 b.s0, .int .i64 b.s1, .int .i64 b.e0, .int .i64 b.e1, .bool b.op, .slice b.la b.legs.length b.lc, .slice b.pa b.pauses.length b.pc, .int .i64 b.fw, .int .i64 b.fp, .int .i64 b.wh, .int .i64 b.pl] 44)) = z.w := Since.allocs x [.cells #[.int .i64 a.id, .int .i64 a.rd, .int .i64 a.s0, .int .i64 a.s1, .int .i64 a.e0, .int .i64 a.e1, .bool a.op, .slice a.la a.legs.length a.lc, .slice a.pa a.pauses.length a.pc, .int .i64 a.fw, .int .i64 a.fp, .int .i64 a.wh, .int .i64 a.pl] 44, .cells #[.int .i64 b.id, .int .i64 b.rd, .int .i64 b.s0, .int .i64 b.s1, .int .i64 b.e0, .int .i64 b.e1, .bool b.op, .slice b.la b.legs.length b.lc, .slice b.pa b.pauses.length b.pc, .int .i64 b.fw, .int .i64 b.fp, .int .i64 b.wh, .int .i64 b.pl] 44]
  obtain ⟨y0, hy0⟩ := Since.refl ((x.w.alloc (.cells #[.int .i64 a.id, .int .i64 a.rd, .int .i64 a.s0, .int .i64 a.s1, .int .i64 a.e0, .int .i64 a.e1, .bool a.op, .slice a.la a.legs.length a.lc, .slice a.pa a.pauses.length a.pc, .int .i64 a.fw, .int .i64 a.fp, .int .i64 a.wh, .int .i64 a.pl] 44)).alloc (.cells #[.int .i64 b.id, .int .i64 b.rd, .int .i64 b.s0, .int .i64 b.s1, .int .i64 b.e0, .int .i64 b.e1, .bool b.op, .slice b.la b.legs.length b.lc, .slice b.pa b.pauses.length b.pc, .int .i64 b.fw, .int .i64 b.fp, .int .i64 b.wh, .int .i64 b.pl] 44))
  have Hbx := Lib.hid (And.intro x.b.size (show x.w.heap.size + 2 = ((x.w.alloc (.cells #[.int .i64 a.id, .int .i64 a.rd, .int .i64 a.s0, .int .i64 a.s1, .int .i64 a.e0, .int .i64 a.e1, .bool a.op, .slice a.la a.legs.length a.lc, .slice a.pa a.pauses.length a.pc, .int .i64 a.fw, .int .i64 a.fp, .int .i64 a.wh, .int .i64 a.pl] 44)).alloc (.cells #[.int .i64 b.id, .int .i64 b.rd, .int .i64 b.s0, .int .i64 b.s1, .int .i64 b.e0, .int .i64 b.e1, .bool b.op, .slice b.la b.legs.length b.lc, .slice b.pa b.pauses.length b.pc, .int .i64 b.fw, .int .i64 b.fp, .int .i64 b.wh, .int .i64 b.pl] 44)).heap.size from by simp))
  generalize hW : ((x.w.alloc (.cells #[.int .i64 a.id, .int .i64 a.rd, .int .i64 a.s0, .int .i64 a.s1, .int .i64 a.e0, .int .i64 a.e1, .bool a.op, .slice a.la a.legs.length a.lc, .slice a.pa a.pauses.length a.pc, .int .i64 a.fw, .int .i64 a.fp, .int .i64 a.wh, .int .i64 a.pl] 44)).alloc (.cells #[.int .i64 b.id, .int .i64 b.rd, .int .i64 b.s0, .int .i64 b.s1, .int .i64 b.e0, .int .i64 b.e1, .bool b.op, .slice b.la b.legs.length b.lc, .slice b.pa b.pauses.length b.pc, .int .i64 b.fw, .int .i64 b.fp, .int .i64 b.wh, .int .i64 b.pl] 44)) = W at *
  clear hW
  generalize x.w.heap.size = bx at *
  have Hup := Lib.hid (Since.up hWup)
  rw [hy0]
  clear hy0
  clear hWup
  clear hb0_1 hb0_3 hb0_5 hb0_6 hb0_7 hb0_8 hb0_9 hb0_10 hb0_11 hb0_12 hb1_1 hb1_3 hb1_5 hb1_6 hb1_7 hb1_8 hb1_9 hb1_10 hb1_11 hb1_12 hf0 hf1
  rcases (by omega : a.s0 < b.s0 ∨ b.s0 < a.s0 ∨ a.s0 = b.s0) with h | h | h
  · have hb : (a.s0 != b.s0) = true := by simp; omega
    have Hr := Lib.hid (show bef a b = true from HG.out.2 (by omega))
    clear HG
    go_wp2_with fail
    go_ret
    exact ⟨ret_bool Hr.out.symm, Hup.out _⟩
  · have hb : (a.s0 != b.s0) = true := by simp; omega
    have h' : decide (a.s0 < b.s0) = false := decide_eq_false (by omega)
    have Hr := Lib.hid (show bef a b = false by
      cases hg : bef a b
      · rfl
      · have := HG.out.1 hg; omega)
    clear HG
    go_wp2_with fail
    go_ret
    exact ⟨ret_bool Hr.out.symm, Hup.out _⟩
  · have hb : (a.s0 != b.s0) = false := by simp; omega
    have HE := Lib.hid h
    clear h
    rcases (by omega : a.e0 < b.e0 ∨ b.e0 < a.e0 ∨ a.e0 = b.e0) with h | h | h
    · have Hr := Lib.hid (show bef a b = true from HG.out.2 (by have := HE.out; omega))
      clear HG
      go_wp2_with fail
      go_ret
      exact ⟨ret_bool Hr.out.symm, Hup.out _⟩
    · have h' : b.e0 ≤ a.e0 := by omega
      have h2 : decide (a.e0 < b.e0) = false := decide_eq_false (by omega)
      have he : (a.e0 == b.e0) = false := by simp; omega
      have Hr := Lib.hid (show bef a b = false by
        cases hg : bef a b
        · rfl
        · have := HG.out.1 hg; have := HE.out; omega)
      clear HG
      go_wp2_with fail
      go_ret
      exact ⟨ret_bool Hr.out.symm, Hup.out _⟩
    · have h' : b.e0 ≤ a.e0 := by omega
      have h2 : decide (a.e0 < b.e0) = false := decide_eq_false (by omega)
      have he : (a.e0 == b.e0) = true := by simp; omega
      have HE2 := Lib.hid h
      clear h
      have Hr := Lib.hid (show bef a b = decide (a.id < b.id) by
        rw [Bool.eq_iff_iff, HG.out, decide_eq_true_eq]; have := HE.out; have := HE2.out; omega)
      clear HG
      rcases (by omega : a.id < b.id ∨ b.id ≤ a.id) with h3 | h3
      · go_wp2_with fail
        go_ret
        exact ⟨ret_bool (by rw [Hr.out, decide_eq_true h3]), Hup.out _⟩
      · go_wp2_with fail
        go_ret
        exact ⟨ret_bool (by rw [Hr.out]), Hup.out _⟩
set_option maxRecDepth 100000 in
set_option maxHeartbeats 4000000 in
theorem rvalid_calls (w : World) (x : Since w) (p : Pass) (r : Ride) (h0 : 0 ≤ r.s0) (h1 : r.s0 ≤ 4294943999) :
    Calls Try.prog 31 #[.agg #[.int .i64 p.id, .int .i64 p.rd, .int .i64 p.f, .int .i64 p.t, .int .i64 p.n, .int .i64 p.s], .agg #[.int .i64 r.id, .int .i64 r.rd, .int .i64 r.s0, .int .i64 r.s1, .int .i64 r.e0, .int .i64 r.e1, .bool r.op, .slice r.la r.legs.length r.lc, .slice r.pa r.pauses.length r.pc, .int .i64 r.fw, .int .i64 r.fp, .int .i64 r.wh, .int .i64 r.pl]] x.w fun o w' => o = .returned (.bool (vP p r)) ∧ ∃ y : Since w, w' = y.w := by
  have HG := Lib.hid (show vP p r = (decide (p.rd = r.rd) && (decide (p.f ≤ r.s0 / 86400) && decide (r.s0 / 86400 < p.t))) from rfl)
  go_enter Try.func31, Try.ntmps31
  go_upto_region 1 with fail
  have hb0_0 : ∀ y : Since ((x.w.alloc (.cells #[.int .i64 p.id, .int .i64 p.rd, .int .i64 p.f, .int .i64 p.t, .int .i64 p.n, .int .i64 p.s] 49)).alloc (.cells #[.int .i64 r.id, .int .i64 r.rd, .int .i64 r.s0, .int .i64 r.s1, .int .i64 r.e0, .int .i64 r.e1, .bool r.op, .slice r.la r.legs.length r.lc, .slice r.pa r.pauses.length r.pc, .int .i64 r.fw, .int .i64 r.fp, .int .i64 r.wh, .int .i64 r.pl] 44)), y.w.cell? ⟨x.w.heap.size, 0, none⟩ = some (.int .i64 p.id) := fun y => Since.cell (by simp [go_sem]) (by first | (simp; done) | (simp; omega)) y
  have hb0_1 : ∀ y : Since ((x.w.alloc (.cells #[.int .i64 p.id, .int .i64 p.rd, .int .i64 p.f, .int .i64 p.t, .int .i64 p.n, .int .i64 p.s] 49)).alloc (.cells #[.int .i64 r.id, .int .i64 r.rd, .int .i64 r.s0, .int .i64 r.s1, .int .i64 r.e0, .int .i64 r.e1, .bool r.op, .slice r.la r.legs.length r.lc, .slice r.pa r.pauses.length r.pc, .int .i64 r.fw, .int .i64 r.fp, .int .i64 r.wh, .int .i64 r.pl] 44)), y.w.cell? ⟨x.w.heap.size, 1, none⟩ = some (.int .i64 p.rd) := fun y => Since.cell (by simp [go_sem]) (by first | (simp; done) | (simp; omega)) y
  have hb0_2 : ∀ y : Since ((x.w.alloc (.cells #[.int .i64 p.id, .int .i64 p.rd, .int .i64 p.f, .int .i64 p.t, .int .i64 p.n, .int .i64 p.s] 49)).alloc (.cells #[.int .i64 r.id, .int .i64 r.rd, .int .i64 r.s0, .int .i64 r.s1, .int .i64 r.e0, .int .i64 r.e1, .bool r.op, .slice r.la r.legs.length r.lc, .slice r.pa r.pauses.length r.pc, .int .i64 r.fw, .int .i64 r.fp, .int .i64 r.wh, .int .i64 r.pl] 44)), y.w.cell? ⟨x.w.heap.size, 2, none⟩ = some (.int .i64 p.f) := fun y => Since.cell (by simp [go_sem]) (by first | (simp; done) | (simp; omega)) y
  have hb0_3 : ∀ y : Since ((x.w.alloc (.cells #[.int .i64 p.id, .int .i64 p.rd, .int .i64 p.f, .int .i64 p.t, .int .i64 p.n, .int .i64 p.s] 49)).alloc (.cells #[.int .i64 r.id, .int .i64 r.rd, .int .i64 r.s0, .int .i64 r.s1, .int .i64 r.e0, .int .i64 r.e1, .bool r.op, .slice r.la r.legs.length r.lc, .slice r.pa r.pauses.length r.pc, .int .i64 r.fw, .int .i64 r.fp, .int .i64 r.wh, .int .i64 r.pl] 44)), y.w.cell? ⟨x.w.heap.size, 3, none⟩ = some (.int .i64 p.t) := fun y => Since.cell (by simp [go_sem]) (by first | (simp; done) | (simp; omega)) y
  have hb0_4 : ∀ y : Since ((x.w.alloc (.cells #[.int .i64 p.id, .int .i64 p.rd, .int .i64 p.f, .int .i64 p.t, .int .i64 p.n, .int .i64 p.s] 49)).alloc (.cells #[.int .i64 r.id, .int .i64 r.rd, .int .i64 r.s0, .int .i64 r.s1, .int .i64 r.e0, .int .i64 r.e1, .bool r.op, .slice r.la r.legs.length r.lc, .slice r.pa r.pauses.length r.pc, .int .i64 r.fw, .int .i64 r.fp, .int .i64 r.wh, .int .i64 r.pl] 44)), y.w.cell? ⟨x.w.heap.size, 4, none⟩ = some (.int .i64 p.n) := fun y => Since.cell (by simp [go_sem]) (by first | (simp; done) | (simp; omega)) y
  have hb0_5 : ∀ y : Since ((x.w.alloc (.cells #[.int .i64 p.id, .int .i64 p.rd, .int .i64 p.f, .int .i64 p.t, .int .i64 p.n, .int .i64 p.s] 49)).alloc (.cells #[.int .i64 r.id, .int .i64 r.rd, .int .i64 r.s0, .int .i64 r.s1, .int .i64 r.e0, .int .i64 r.e1, .bool r.op, .slice r.la r.legs.length r.lc, .slice r.pa r.pauses.length r.pc, .int .i64 r.fw, .int .i64 r.fp, .int .i64 r.wh, .int .i64 r.pl] 44)), y.w.cell? ⟨x.w.heap.size, 5, none⟩ = some (.int .i64 p.s) := fun y => Since.cell (by simp [go_sem]) (by first | (simp; done) | (simp; omega)) y
  have hf0 : ∀ (y : Since ((x.w.alloc (.cells #[.int .i64 p.id, .int .i64 p.rd, .int .i64 p.f, .int .i64 p.t, .int .i64 p.n, .int .i64 p.s] 49)).alloc (.cells #[.int .i64 r.id, .int .i64 r.rd, .int .i64 r.s0, .int .i64 r.s1, .int .i64 r.e0, .int .i64 r.e1, .bool r.op, .slice r.la r.legs.length r.lc, .slice r.pa r.pauses.length r.pc, .int .i64 r.fw, .int .i64 r.fp, .int .i64 r.wh, .int .i64 r.pl] 44))) (o : Nat), y.w.frozen? ⟨x.w.heap.size, o, none⟩ = false := fun y o => Since.free (by simp [go_sem]) (by first | (simp; done) | (simp; omega)) y
  have hb1_0 : ∀ y : Since ((x.w.alloc (.cells #[.int .i64 p.id, .int .i64 p.rd, .int .i64 p.f, .int .i64 p.t, .int .i64 p.n, .int .i64 p.s] 49)).alloc (.cells #[.int .i64 r.id, .int .i64 r.rd, .int .i64 r.s0, .int .i64 r.s1, .int .i64 r.e0, .int .i64 r.e1, .bool r.op, .slice r.la r.legs.length r.lc, .slice r.pa r.pauses.length r.pc, .int .i64 r.fw, .int .i64 r.fp, .int .i64 r.wh, .int .i64 r.pl] 44)), y.w.cell? ⟨x.w.heap.size + 1, 0, none⟩ = some (.int .i64 r.id) := fun y => Since.cell (by simp [go_sem]) (by first | (simp; done) | (simp; omega)) y
  have hb1_1 : ∀ y : Since ((x.w.alloc (.cells #[.int .i64 p.id, .int .i64 p.rd, .int .i64 p.f, .int .i64 p.t, .int .i64 p.n, .int .i64 p.s] 49)).alloc (.cells #[.int .i64 r.id, .int .i64 r.rd, .int .i64 r.s0, .int .i64 r.s1, .int .i64 r.e0, .int .i64 r.e1, .bool r.op, .slice r.la r.legs.length r.lc, .slice r.pa r.pauses.length r.pc, .int .i64 r.fw, .int .i64 r.fp, .int .i64 r.wh, .int .i64 r.pl] 44)), y.w.cell? ⟨x.w.heap.size + 1, 1, none⟩ = some (.int .i64 r.rd) := fun y => Since.cell (by simp [go_sem]) (by first | (simp; done) | (simp; omega)) y
  have hb1_2 : ∀ y : Since ((x.w.alloc (.cells #[.int .i64 p.id, .int .i64 p.rd, .int .i64 p.f, .int .i64 p.t, .int .i64 p.n, .int .i64 p.s] 49)).alloc (.cells #[.int .i64 r.id, .int .i64 r.rd, .int .i64 r.s0, .int .i64 r.s1, .int .i64 r.e0, .int .i64 r.e1, .bool r.op, .slice r.la r.legs.length r.lc, .slice r.pa r.pauses.length r.pc, .int .i64 r.fw, .int .i64 r.fp, .int .i64 r.wh, .int .i64 r.pl] 44)), y.w.cell? ⟨x.w.heap.size + 1, 2, none⟩ = some (.int .i64 r.s0) := fun y => Since.cell (by simp [go_sem]) (by first | (simp; done) | (simp; omega)) y
  have hb1_3 : ∀ y : Since ((x.w.alloc (.cells #[.int .i64 p.id, .int .i64 p.rd, .int .i64 p.f, .int .i64 p.t, .int .i64 p.n, .int .i64 p.s] 49)).alloc (.cells #[.int .i64 r.id, .int .i64 r.rd, .int .i64 r.s0, .int .i64 r.s1, .int .i64 r.e0, .int .i64 r.e1, .bool r.op, .slice r.la r.legs.length r.lc, .slice r.pa r.pauses.length r.pc, .int .i64 r.fw, .int .i64 r.fp, .int .i64 r.wh, .int .i64 r.pl] 44)), y.w.cell? ⟨x.w.heap.size + 1, 3, none⟩ = some (.int .i64 r.s1) := fun y => Since.cell (by simp [go_sem]) (by first | (simp; done) | (simp; omega)) y
  have hb1_4 : ∀ y : Since ((x.w.alloc (.cells #[.int .i64 p.id, .int .i64 p.rd, .int .i64 p.f, .int .i64 p.t, .int .i64 p.n, .int .i64 p.s] 49)).alloc (.cells #[.int .i64 r.id, .int .i64 r.rd, .int .i64 r.s0, .int .i64 r.s1, .int .i64 r.e0, .int .i64 r.e1, .bool r.op, .slice r.la r.legs.length r.lc, .slice r.pa r.pauses.length r.pc, .int .i64 r.fw, .int .i64 r.fp, .int .i64 r.wh, .int .i64 r.pl] 44)), y.w.cell? ⟨x.w.heap.size + 1, 4, none⟩ = some (.int .i64 r.e0) := fun y => Since.cell (by simp [go_sem]) (by first | (simp; done) | (simp; omega)) y
  have hb1_5 : ∀ y : Since ((x.w.alloc (.cells #[.int .i64 p.id, .int .i64 p.rd, .int .i64 p.f, .int .i64 p.t, .int .i64 p.n, .int .i64 p.s] 49)).alloc (.cells #[.int .i64 r.id, .int .i64 r.rd, .int .i64 r.s0, .int .i64 r.s1, .int .i64 r.e0, .int .i64 r.e1, .bool r.op, .slice r.la r.legs.length r.lc, .slice r.pa r.pauses.length r.pc, .int .i64 r.fw, .int .i64 r.fp, .int .i64 r.wh, .int .i64 r.pl] 44)), y.w.cell? ⟨x.w.heap.size + 1, 5, none⟩ = some (.int .i64 r.e1) := fun y => Since.cell (by simp [go_sem]) (by first | (simp; done) | (simp; omega)) y
  have hb1_6 : ∀ y : Since ((x.w.alloc (.cells #[.int .i64 p.id, .int .i64 p.rd, .int .i64 p.f, .int .i64 p.t, .int .i64 p.n, .int .i64 p.s] 49)).alloc (.cells #[.int .i64 r.id, .int .i64 r.rd, .int .i64 r.s0, .int .i64 r.s1, .int .i64 r.e0, .int .i64 r.e1, .bool r.op, .slice r.la r.legs.length r.lc, .slice r.pa r.pauses.length r.pc, .int .i64 r.fw, .int .i64 r.fp, .int .i64 r.wh, .int .i64 r.pl] 44)), y.w.cell? ⟨x.w.heap.size + 1, 6, none⟩ = some (.bool r.op) := fun y => Since.cell (by simp [go_sem]) (by first | (simp; done) | (simp; omega)) y
  have hb1_7 : ∀ y : Since ((x.w.alloc (.cells #[.int .i64 p.id, .int .i64 p.rd, .int .i64 p.f, .int .i64 p.t, .int .i64 p.n, .int .i64 p.s] 49)).alloc (.cells #[.int .i64 r.id, .int .i64 r.rd, .int .i64 r.s0, .int .i64 r.s1, .int .i64 r.e0, .int .i64 r.e1, .bool r.op, .slice r.la r.legs.length r.lc, .slice r.pa r.pauses.length r.pc, .int .i64 r.fw, .int .i64 r.fp, .int .i64 r.wh, .int .i64 r.pl] 44)), y.w.cell? ⟨x.w.heap.size + 1, 7, none⟩ = some (.slice r.la r.legs.length r.lc) := fun y => Since.cell (by simp [go_sem]) (by first | (simp; done) | (simp; omega)) y
  have hb1_8 : ∀ y : Since ((x.w.alloc (.cells #[.int .i64 p.id, .int .i64 p.rd, .int .i64 p.f, .int .i64 p.t, .int .i64 p.n, .int .i64 p.s] 49)).alloc (.cells #[.int .i64 r.id, .int .i64 r.rd, .int .i64 r.s0, .int .i64 r.s1, .int .i64 r.e0, .int .i64 r.e1, .bool r.op, .slice r.la r.legs.length r.lc, .slice r.pa r.pauses.length r.pc, .int .i64 r.fw, .int .i64 r.fp, .int .i64 r.wh, .int .i64 r.pl] 44)), y.w.cell? ⟨x.w.heap.size + 1, 8, none⟩ = some (.slice r.pa r.pauses.length r.pc) := fun y => Since.cell (by simp [go_sem]) (by first | (simp; done) | (simp; omega)) y
  have hb1_9 : ∀ y : Since ((x.w.alloc (.cells #[.int .i64 p.id, .int .i64 p.rd, .int .i64 p.f, .int .i64 p.t, .int .i64 p.n, .int .i64 p.s] 49)).alloc (.cells #[.int .i64 r.id, .int .i64 r.rd, .int .i64 r.s0, .int .i64 r.s1, .int .i64 r.e0, .int .i64 r.e1, .bool r.op, .slice r.la r.legs.length r.lc, .slice r.pa r.pauses.length r.pc, .int .i64 r.fw, .int .i64 r.fp, .int .i64 r.wh, .int .i64 r.pl] 44)), y.w.cell? ⟨x.w.heap.size + 1, 9, none⟩ = some (.int .i64 r.fw) := fun y => Since.cell (by simp [go_sem]) (by first | (simp; done) | (simp; omega)) y
  have hb1_10 : ∀ y : Since ((x.w.alloc (.cells #[.int .i64 p.id, .int .i64 p.rd, .int .i64 p.f, .int .i64 p.t, .int .i64 p.n, .int .i64 p.s] 49)).alloc (.cells #[.int .i64 r.id, .int .i64 r.rd, .int .i64 r.s0, .int .i64 r.s1, .int .i64 r.e0, .int .i64 r.e1, .bool r.op, .slice r.la r.legs.length r.lc, .slice r.pa r.pauses.length r.pc, .int .i64 r.fw, .int .i64 r.fp, .int .i64 r.wh, .int .i64 r.pl] 44)), y.w.cell? ⟨x.w.heap.size + 1, 10, none⟩ = some (.int .i64 r.fp) := fun y => Since.cell (by simp [go_sem]) (by first | (simp; done) | (simp; omega)) y
  have hb1_11 : ∀ y : Since ((x.w.alloc (.cells #[.int .i64 p.id, .int .i64 p.rd, .int .i64 p.f, .int .i64 p.t, .int .i64 p.n, .int .i64 p.s] 49)).alloc (.cells #[.int .i64 r.id, .int .i64 r.rd, .int .i64 r.s0, .int .i64 r.s1, .int .i64 r.e0, .int .i64 r.e1, .bool r.op, .slice r.la r.legs.length r.lc, .slice r.pa r.pauses.length r.pc, .int .i64 r.fw, .int .i64 r.fp, .int .i64 r.wh, .int .i64 r.pl] 44)), y.w.cell? ⟨x.w.heap.size + 1, 11, none⟩ = some (.int .i64 r.wh) := fun y => Since.cell (by simp [go_sem]) (by first | (simp; done) | (simp; omega)) y
  have hb1_12 : ∀ y : Since ((x.w.alloc (.cells #[.int .i64 p.id, .int .i64 p.rd, .int .i64 p.f, .int .i64 p.t, .int .i64 p.n, .int .i64 p.s] 49)).alloc (.cells #[.int .i64 r.id, .int .i64 r.rd, .int .i64 r.s0, .int .i64 r.s1, .int .i64 r.e0, .int .i64 r.e1, .bool r.op, .slice r.la r.legs.length r.lc, .slice r.pa r.pauses.length r.pc, .int .i64 r.fw, .int .i64 r.fp, .int .i64 r.wh, .int .i64 r.pl] 44)), y.w.cell? ⟨x.w.heap.size + 1, 12, none⟩ = some (.int .i64 r.pl) := fun y => Since.cell (by simp [go_sem]) (by first | (simp; done) | (simp; omega)) y
  have hf1 : ∀ (y : Since ((x.w.alloc (.cells #[.int .i64 p.id, .int .i64 p.rd, .int .i64 p.f, .int .i64 p.t, .int .i64 p.n, .int .i64 p.s] 49)).alloc (.cells #[.int .i64 r.id, .int .i64 r.rd, .int .i64 r.s0, .int .i64 r.s1, .int .i64 r.e0, .int .i64 r.e1, .bool r.op, .slice r.la r.legs.length r.lc, .slice r.pa r.pauses.length r.pc, .int .i64 r.fw, .int .i64 r.fp, .int .i64 r.wh, .int .i64 r.pl] 44))) (o : Nat), y.w.frozen? ⟨x.w.heap.size + 1, o, none⟩ = false := fun y o => Since.free (by simp [go_sem]) (by first | (simp; done) | (simp; omega)) y
  have hWup : ∃ z : Since w, ((x.w.alloc (.cells #[.int .i64 p.id, .int .i64 p.rd, .int .i64 p.f, .int .i64 p.t, .int .i64 p.n, .int .i64 p.s] 49)).alloc (.cells #[.int .i64 r.id, .int .i64 r.rd, .int .i64 r.s0, .int .i64 r.s1, .int .i64 r.e0, .int .i64 r.e1, .bool r.op, .slice r.la r.legs.length r.lc, .slice r.pa r.pauses.length r.pc, .int .i64 r.fw, .int .i64 r.fp, .int .i64 r.wh, .int .i64 r.pl] 44)) = z.w := Since.allocs x [.cells #[.int .i64 p.id, .int .i64 p.rd, .int .i64 p.f, .int .i64 p.t, .int .i64 p.n, .int .i64 p.s] 49, .cells #[.int .i64 r.id, .int .i64 r.rd, .int .i64 r.s0, .int .i64 r.s1, .int .i64 r.e0, .int .i64 r.e1, .bool r.op, .slice r.la r.legs.length r.lc, .slice r.pa r.pauses.length r.pc, .int .i64 r.fw, .int .i64 r.fp, .int .i64 r.wh, .int .i64 r.pl] 44]
  obtain ⟨y0, hy0⟩ := Since.refl ((x.w.alloc (.cells #[.int .i64 p.id, .int .i64 p.rd, .int .i64 p.f, .int .i64 p.t, .int .i64 p.n, .int .i64 p.s] 49)).alloc (.cells #[.int .i64 r.id, .int .i64 r.rd, .int .i64 r.s0, .int .i64 r.s1, .int .i64 r.e0, .int .i64 r.e1, .bool r.op, .slice r.la r.legs.length r.lc, .slice r.pa r.pauses.length r.pc, .int .i64 r.fw, .int .i64 r.fp, .int .i64 r.wh, .int .i64 r.pl] 44))
  have Hbx := Lib.hid (And.intro x.b.size (show x.w.heap.size + 2 = ((x.w.alloc (.cells #[.int .i64 p.id, .int .i64 p.rd, .int .i64 p.f, .int .i64 p.t, .int .i64 p.n, .int .i64 p.s] 49)).alloc (.cells #[.int .i64 r.id, .int .i64 r.rd, .int .i64 r.s0, .int .i64 r.s1, .int .i64 r.e0, .int .i64 r.e1, .bool r.op, .slice r.la r.legs.length r.lc, .slice r.pa r.pauses.length r.pc, .int .i64 r.fw, .int .i64 r.fp, .int .i64 r.wh, .int .i64 r.pl] 44)).heap.size from by simp))
  generalize hW : ((x.w.alloc (.cells #[.int .i64 p.id, .int .i64 p.rd, .int .i64 p.f, .int .i64 p.t, .int .i64 p.n, .int .i64 p.s] 49)).alloc (.cells #[.int .i64 r.id, .int .i64 r.rd, .int .i64 r.s0, .int .i64 r.s1, .int .i64 r.e0, .int .i64 r.e1, .bool r.op, .slice r.la r.legs.length r.lc, .slice r.pa r.pauses.length r.pc, .int .i64 r.fw, .int .i64 r.fp, .int .i64 r.wh, .int .i64 r.pl] 44)) = W at *
  clear hW
  generalize x.w.heap.size = bx at *
  have Hup := Lib.hid (Since.up hWup)
  rw [hy0]
  clear hy0
  clear hWup
  clear hb0_0 hb0_4 hb0_5 hb1_0 hb1_3 hb1_4 hb1_5 hb1_6 hb1_7 hb1_8 hb1_9 hb1_10 hb1_11 hb1_12 hf0 hf1
  by_cases hrd : p.rd = r.rd
  · have hb : (p.rd == r.rd) = true := by simpa using hrd
    rw [decide_eq_true hrd, Bool.true_and] at HG
    clear hrd
    rcases (by omega : r.s0 / 86400 < p.f ∨ (p.f ≤ r.s0 / 86400 ∧ p.t ≤ r.s0 / 86400) ∨ (p.f ≤ r.s0 / 86400 ∧ r.s0 / 86400 < p.t)) with h | ⟨h, h'⟩ | ⟨h, h'⟩
    all_goals
      have Hr := Lib.hid (show vP p r = (decide (p.f ≤ r.s0 / 86400) && decide (r.s0 / 86400 < p.t)) from HG.out)
      clear HG
      go_wp2_with fail
      go_ret
      exact ⟨ret_bool (by rw [Hr.out]; simp; omega), Hup.out _⟩
  · have hb : (p.rd == r.rd) = false := by simpa using hrd
    have Hr := Lib.hid (show vP p r = false by rw [HG.out, decide_eq_false hrd]; rfl)
    clear hrd HG
    go_wp2_with fail
    go_ret
    exact ⟨ret_bool Hr.out.symm, Hup.out _⟩
/-- how many of the first m rides are of day d and paid by pass k -/
def cntTo (R : List Ride) (u : Nat → Int) (k d : Int) (m : Nat) : Nat := ((List.range m).filter fun j => decide (u j = k) && decide (day (rAt R j) = d)).length
theorem cntTo_next (R : List Ride) (u : Nat → Int) (k d : Int) (m : Nat) : cntTo R u k d (m + 1) = cntTo R u k d m + if u m = k ∧ day (rAt R m) = d then 1 else 0 := by
  unfold cntTo
  rw [List.range_succ, List.filter_append, List.length_append]
  congr 1
  by_cases h : u m = k ∧ day (rAt R m) = d
  · rw [if_pos h]; simp [h.1, h.2]
  · rw [if_neg h, List.filter_eq_nil_iff.2 (by
      intro j hj
      simp at hj; subst hj
      simpa using h)]
    rfl
theorem cntTo_le (R : List Ride) (u : Nat → Int) (k d : Int) (m : Nat) : cntTo R u k d m ≤ m := by
  have := List.length_filter_le (fun j => decide (u j = k) && decide (day (rAt R j) = d)) (List.range m)
  unfold cntTo; simpa using this
abbrev cntU (R : List Ride) (u : Nat → Int) (k d : Int) : Nat := cntTo R u k d R.length
abbrev FunRow (w : World) (a : Option Addr) (n : Nat) (u : Nat → Int) : Prop := Row w a n fun i => .int .i64 (u i)
set_option maxRecDepth 100000 in
set_option maxHeartbeats 4000000 in
theorem rpaid_calls (w : World) (x : Since w) (a : Option Addr) (R : List Ride) (c : Nat) (a2 : Option Addr) (n2 c2 : Nat) (u : Nat → Int) (kk d : Int) (h : RideRow w a R) (hu : FunRow w a2 n2 u) (hn : R.length ≤ n2) (hl : R.length ≤ 256) (hs0 : ∀ r ∈ R, 0 ≤ r.s0 ∧ r.s0 ≤ 4294943999) :
    Calls Try.prog 32 #[.slice a R.length c, .slice a2 n2 c2, .int .i64 kk, .int .i64 d] x.w fun o w' => o = .returned (.int .i64 (cntU R u kk d : Nat)) ∧ ∃ y : Since w, w' = y.w := by
  have HL := Lib.hid h
  have HU := Lib.hid hu
  have Hs0 := Lib.hid hs0
  clear h hu hs0
  go_enter Try.func32, Try.ntmps32
  go_wp2_with fail
  go_loopw [9, 10] (fun n i wr => ∃ (k : Nat) (y : Since w), k ≤ R.length ∧ i = .int .i64 k ∧ n = .int .i64 (cntTo R u kk d k : Nat) ∧ wr = y.w) (fun _ i _ => R.length - (intOf i).toNat)
  case atStart => exact ⟨0, _, by omega, rfl, rfl, rfl⟩
  case round =>
    obtain ⟨k, y, hk, rfl, rfl, rfl⟩ := hrel
    by_cases hlt : k < R.length
    · obtain ⟨e, he⟩ : ∃ e, R[k]? = some e := ⟨_, List.getElem?_eq_getElem hlt⟩
      obtain ⟨b1, off1, rfl, h1'⟩ := Els.ride HL.out.c he
      have ra2 := h1'.c2
      obtain ⟨b2, off2, rfl, hb2, hc2⟩ := HU.out k (by omega)
      have rb : ∀ y : Since w, y.w.cell? ⟨b2, off2 + k, none⟩ = some (.int .i64 (u k)) := Since.cell hc2 hb2
      have hk0 : (0 : Int) ≤ (k : Int) := by omega
      have hkl : (k : Int) < (R.length : Int) := by omega
      have hkn : (k : Int) < (n2 : Int) := by omega
      have Hx := Lib.hid (cntTo_next R u kk d k)
      rw [rAt_eq he] at Hx
      have Hle := Lib.hid (cntTo_le R u kk d k)
      obtain ⟨hs0, hs1⟩ := Hs0.out e (List.mem_of_getElem? he)
      have hc0 : 0 ≤ (cntTo R u kk d k : Int) := by omega
      have hc1 : (cntTo R u kk d k : Int) ≤ 256 := by have := Hle.out; omega
      clear h1' he hb2 hc2
      by_cases hu : u k = kk
      · have hub : (u k == kk) = true := by simpa using hu
        by_cases hd : e.s0 / 86400 = d
        · have hdb : (e.s0 / 86400 == d) = true := by simpa using hd
          have Hn := Lib.hid (show (cntTo R u kk d (k + 1) : Int) = cntTo R u kk d k + 1 by rw [Hx.out, if_pos ⟨hu, hd⟩]; rfl)
          clear hu hd Hx
          go_wp2_with fail
          go_roundw
          case rel => exact ⟨k + 1, y, by omega, by go_num, by rw [Hn.out], rfl⟩
          case measure => simp [intOf] <;> omega
        · have hdb : (e.s0 / 86400 == d) = false := by simpa using hd
          have Hn := Lib.hid (show cntTo R u kk d (k + 1) = cntTo R u kk d k by rw [Hx.out, if_neg (fun h => hd h.2)]; rfl)
          clear hu hd Hx
          go_wp2_with fail
          go_roundw
          case rel => exact ⟨k + 1, y, by omega, by go_num, by rw [Hn.out], rfl⟩
          case measure => simp [intOf] <;> omega
      · have hub : (u k == kk) = false := by simpa using hu
        have Hn := Lib.hid (show cntTo R u kk d (k + 1) = cntTo R u kk d k by rw [Hx.out, if_neg (fun h => hu h.1)]; rfl)
        clear hu Hx
        go_wp2_with fail
        go_roundw
        case rel => exact ⟨k + 1, y, by omega, by go_num, by rw [Hn.out], rfl⟩
        case measure => simp [intOf] <;> omega
    · obtain rfl : k = R.length := by omega
      go_wp2_with fail
      go_ret
      exact ⟨rfl, _, rfl⟩
set_option maxHeartbeats 4000000 in
theorem ints_calls (w : World) (x : Since w) (a : Option Addr) (us : List Int) (c : Nat) (a2 : Option Addr) (vs : List Int) (c2 : Nat) (h : IntRow w a us) (hv : IntRow w a2 vs) (hl : us.length ≤ 9223372036854775807) (_hl2 : vs.length ≤ 9223372036854775807) :
    Calls Try.prog 15 #[.slice a us.length c, .slice a2 vs.length c2] x.w fun o w' => o = .returned (.bool (decide (us = vs))) ∧ ∃ y : Since w, w' = y.w := by
  have HU := Lib.hid h
  have HV := Lib.hid hv
  clear h hv
  by_cases hne : us.length = vs.length
  case neg =>
    have hb : ((us.length : Int) != (vs.length : Int)) = true := by simp; omega
    have Hr := Lib.hid (show decide (us = vs) = false from decide_eq_false fun h => hne (by rw [h]))
    clear hne
    go_enter Try.func15, Try.ntmps15
    go_wp2_with fail
    go_ret
    exact ⟨ret_bool Hr.out.symm, _, rfl⟩
  have hb : ((us.length : Int) != (vs.length : Int)) = false := by simp; omega
  have Hne := Lib.hid hne
  clear hne
  go_enter Try.func15, Try.ntmps15
  go_wp2_with fail
  go_loopw [5] (fun i wr => ∃ (k : Nat) (y : Since w), k ≤ us.length ∧ i = .int .i64 k ∧ wr = y.w ∧ ∀ j, j < k → at0 us j = at0 vs j) (fun i _ => us.length - (intOf i).toNat)
  case atStart => exact ⟨0, _, by omega, rfl, rfl, fun j hj => by omega⟩
  case round =>
    obtain ⟨k, y, hk, rfl, rfl, hok⟩ := hrel
    have Hok := Lib.hid hok; clear hok
    by_cases hlt : k < us.length
    · obtain ⟨b1, off1, rfl, hb1, hc1⟩ := HU.out k hlt
      obtain ⟨b2, off2, rfl, hb2, hc2⟩ := HV.out k (by have := Hne.out; omega)
      have ra : ∀ y : Since w, y.w.cell? ⟨b1, off1 + k, none⟩ = some (.int .i64 (at0 us k)) := Since.cell hc1 hb1
      have rb : ∀ y : Since w, y.w.cell? ⟨b2, off2 + k, none⟩ = some (.int .i64 (at0 vs k)) := Since.cell hc2 hb2
      have hk0 : (0 : Int) ≤ (k : Int) := by omega
      have hkl : (k : Int) < (us.length : Int) := by omega
      have hkn : (k : Int) < (vs.length : Int) := by have := Hne.out; omega
      clear hb1 hc1 hb2 hc2
      by_cases he : at0 us k = at0 vs k
      · have heb : (at0 us k != at0 vs k) = false := by simpa using he
        have Hok2 := Lib.hid (show ∀ j, j < k + 1 → at0 us j = at0 vs j from fun j hj => by
          by_cases hjk : j < k
          · exact Hok.out j hjk
          · obtain rfl : j = k := by omega
            exact he)
        clear he
        go_wp2_with fail
        refine wp_region_since (by kernel_rfl) (by kernel_rfl) ?_
        repeat (go_big_quiet_step (fail))
        refine wpQuiet_nil ?_
        rintro _ ⟨z, rfl⟩
        go_wp2_with fail
        go_roundw
        case rel => exact ⟨k + 1, z, by omega, by go_num, rfl, Hok2.out⟩
        case measure => simp [intOf] <;> omega
      · have heb : (at0 us k != at0 vs k) = true := by simpa using he
        have Hr := Lib.hid (show decide (us = vs) = false from decide_eq_false fun h => he (by rw [h]))
        clear he
        go_wp2_with fail
        refine wp_region_since (by kernel_rfl) (by kernel_rfl) ?_
        repeat (go_big_quiet_step (fail))
        refine wpQuiet_nil ?_
        rintro _ ⟨z, rfl⟩
        go_wp2_with fail
        go_ret
        exact ⟨ret_bool Hr.out.symm, _, rfl⟩
    · obtain rfl : k = us.length := by omega
      have Hr := Lib.hid (show decide (us = vs) = true from decide_eq_true (List.ext_getElem Hne.out fun i hi hj => by
        have := Hok.out i hi
        unfold at0 at this
        rw [List.getD_eq_getElem?_getD, List.getD_eq_getElem?_getD, List.getElem?_eq_getElem hi, List.getElem?_eq_getElem hj] at this
        exact this))
      go_wp2_with fail
      go_ret
      exact ⟨ret_bool Hr.out.symm, _, rfl⟩
end Go.Proofs.Ytbkfcdheckkjaaa
