/- The walks of the reference's check of a ride, fifth part: the ends are in order (the walk). -/
import Derived.Test.YtbkfcdheckkjaaaRdR4
set_option linter.all false
namespace Go.Proofs.Ytbkfcdheckkjaaa
open Go.RowKit

set_option maxRecDepth 100000 in
set_option maxHeartbeats 8000000 in
theorem rordered_calls (w : World) (x : Since w) (r : Ride) (h : r.At w) (hp : r.pauses.length ≤ 100000) :
    Calls Try.prog 51 #[.agg #[.int .i64 r.id, .int .i64 r.rd, .int .i64 r.s0, .int .i64 r.s1, .int .i64 r.e0, .int .i64 r.e1, .bool r.op, .slice r.la r.legs.length r.lc, .slice r.pa r.pauses.length r.pc, .int .i64 r.fw, .int .i64 r.fp, .int .i64 r.wh, .int .i64 r.pl]] x.w fun o w' => o = .returned (.bool (orderedB r)) ∧ ∃ y : Since w, w' = y.w := by
  have HL := Lib.hid h.l
  have hlm := h.lm
  have hpm := h.pm
  have HA := Lib.hid h
  have HO := Lib.hid (ordered_iff r)
  have HG := Lib.hid (legsO_all r.op r.legs)
  have hmlen := marks_len r.op r.pauses
  have Hmk := Lib.hid (fun (W : World) (h : r.At W) (y : Since W) => marks_calls W y r h hp)
  clear h
  generalize marksL r.op r.pauses = M at *
  unfold MarksPost at Hmk
  generalize r.la = la at HL Hmk ⊢
  generalize r.op = op at HO HG Hmk ⊢
  go_enter Try.func51, Try.ntmps51
  go_upto_region 1 with fail
  have hb0_0 : ∀ y : Since (x.w.alloc (.cells #[.int .i64 r.id, .int .i64 r.rd, .int .i64 r.s0, .int .i64 r.s1, .int .i64 r.e0, .int .i64 r.e1, .bool op, .slice la r.legs.length r.lc, .slice r.pa r.pauses.length r.pc, .int .i64 r.fw, .int .i64 r.fp, .int .i64 r.wh, .int .i64 r.pl] 44)), y.w.cell? ⟨x.w.heap.size, 0, none⟩ = some (.int .i64 r.id) := fun y => Since.cell (by simp [go_sem]) (by first | (simp; done) | (simp; omega)) y
  have hb0_1 : ∀ y : Since (x.w.alloc (.cells #[.int .i64 r.id, .int .i64 r.rd, .int .i64 r.s0, .int .i64 r.s1, .int .i64 r.e0, .int .i64 r.e1, .bool op, .slice la r.legs.length r.lc, .slice r.pa r.pauses.length r.pc, .int .i64 r.fw, .int .i64 r.fp, .int .i64 r.wh, .int .i64 r.pl] 44)), y.w.cell? ⟨x.w.heap.size, 1, none⟩ = some (.int .i64 r.rd) := fun y => Since.cell (by simp [go_sem]) (by first | (simp; done) | (simp; omega)) y
  have hb0_2 : ∀ y : Since (x.w.alloc (.cells #[.int .i64 r.id, .int .i64 r.rd, .int .i64 r.s0, .int .i64 r.s1, .int .i64 r.e0, .int .i64 r.e1, .bool op, .slice la r.legs.length r.lc, .slice r.pa r.pauses.length r.pc, .int .i64 r.fw, .int .i64 r.fp, .int .i64 r.wh, .int .i64 r.pl] 44)), y.w.cell? ⟨x.w.heap.size, 2, none⟩ = some (.int .i64 r.s0) := fun y => Since.cell (by simp [go_sem]) (by first | (simp; done) | (simp; omega)) y
  have hb0_3 : ∀ y : Since (x.w.alloc (.cells #[.int .i64 r.id, .int .i64 r.rd, .int .i64 r.s0, .int .i64 r.s1, .int .i64 r.e0, .int .i64 r.e1, .bool op, .slice la r.legs.length r.lc, .slice r.pa r.pauses.length r.pc, .int .i64 r.fw, .int .i64 r.fp, .int .i64 r.wh, .int .i64 r.pl] 44)), y.w.cell? ⟨x.w.heap.size, 3, none⟩ = some (.int .i64 r.s1) := fun y => Since.cell (by simp [go_sem]) (by first | (simp; done) | (simp; omega)) y
  have hb0_4 : ∀ y : Since (x.w.alloc (.cells #[.int .i64 r.id, .int .i64 r.rd, .int .i64 r.s0, .int .i64 r.s1, .int .i64 r.e0, .int .i64 r.e1, .bool op, .slice la r.legs.length r.lc, .slice r.pa r.pauses.length r.pc, .int .i64 r.fw, .int .i64 r.fp, .int .i64 r.wh, .int .i64 r.pl] 44)), y.w.cell? ⟨x.w.heap.size, 4, none⟩ = some (.int .i64 r.e0) := fun y => Since.cell (by simp [go_sem]) (by first | (simp; done) | (simp; omega)) y
  have hb0_5 : ∀ y : Since (x.w.alloc (.cells #[.int .i64 r.id, .int .i64 r.rd, .int .i64 r.s0, .int .i64 r.s1, .int .i64 r.e0, .int .i64 r.e1, .bool op, .slice la r.legs.length r.lc, .slice r.pa r.pauses.length r.pc, .int .i64 r.fw, .int .i64 r.fp, .int .i64 r.wh, .int .i64 r.pl] 44)), y.w.cell? ⟨x.w.heap.size, 5, none⟩ = some (.int .i64 r.e1) := fun y => Since.cell (by simp [go_sem]) (by first | (simp; done) | (simp; omega)) y
  have hb0_6 : ∀ y : Since (x.w.alloc (.cells #[.int .i64 r.id, .int .i64 r.rd, .int .i64 r.s0, .int .i64 r.s1, .int .i64 r.e0, .int .i64 r.e1, .bool op, .slice la r.legs.length r.lc, .slice r.pa r.pauses.length r.pc, .int .i64 r.fw, .int .i64 r.fp, .int .i64 r.wh, .int .i64 r.pl] 44)), y.w.cell? ⟨x.w.heap.size, 6, none⟩ = some (.bool op) := fun y => Since.cell (by simp [go_sem]) (by first | (simp; done) | (simp; omega)) y
  have hb0_7 : ∀ y : Since (x.w.alloc (.cells #[.int .i64 r.id, .int .i64 r.rd, .int .i64 r.s0, .int .i64 r.s1, .int .i64 r.e0, .int .i64 r.e1, .bool op, .slice la r.legs.length r.lc, .slice r.pa r.pauses.length r.pc, .int .i64 r.fw, .int .i64 r.fp, .int .i64 r.wh, .int .i64 r.pl] 44)), y.w.cell? ⟨x.w.heap.size, 7, none⟩ = some (.slice la r.legs.length r.lc) := fun y => Since.cell (by simp [go_sem]) (by first | (simp; done) | (simp; omega)) y
  have hb0_8 : ∀ y : Since (x.w.alloc (.cells #[.int .i64 r.id, .int .i64 r.rd, .int .i64 r.s0, .int .i64 r.s1, .int .i64 r.e0, .int .i64 r.e1, .bool op, .slice la r.legs.length r.lc, .slice r.pa r.pauses.length r.pc, .int .i64 r.fw, .int .i64 r.fp, .int .i64 r.wh, .int .i64 r.pl] 44)), y.w.cell? ⟨x.w.heap.size, 8, none⟩ = some (.slice r.pa r.pauses.length r.pc) := fun y => Since.cell (by simp [go_sem]) (by first | (simp; done) | (simp; omega)) y
  have hb0_9 : ∀ y : Since (x.w.alloc (.cells #[.int .i64 r.id, .int .i64 r.rd, .int .i64 r.s0, .int .i64 r.s1, .int .i64 r.e0, .int .i64 r.e1, .bool op, .slice la r.legs.length r.lc, .slice r.pa r.pauses.length r.pc, .int .i64 r.fw, .int .i64 r.fp, .int .i64 r.wh, .int .i64 r.pl] 44)), y.w.cell? ⟨x.w.heap.size, 9, none⟩ = some (.int .i64 r.fw) := fun y => Since.cell (by simp [go_sem]) (by first | (simp; done) | (simp; omega)) y
  have hb0_10 : ∀ y : Since (x.w.alloc (.cells #[.int .i64 r.id, .int .i64 r.rd, .int .i64 r.s0, .int .i64 r.s1, .int .i64 r.e0, .int .i64 r.e1, .bool op, .slice la r.legs.length r.lc, .slice r.pa r.pauses.length r.pc, .int .i64 r.fw, .int .i64 r.fp, .int .i64 r.wh, .int .i64 r.pl] 44)), y.w.cell? ⟨x.w.heap.size, 10, none⟩ = some (.int .i64 r.fp) := fun y => Since.cell (by simp [go_sem]) (by first | (simp; done) | (simp; omega)) y
  have hb0_11 : ∀ y : Since (x.w.alloc (.cells #[.int .i64 r.id, .int .i64 r.rd, .int .i64 r.s0, .int .i64 r.s1, .int .i64 r.e0, .int .i64 r.e1, .bool op, .slice la r.legs.length r.lc, .slice r.pa r.pauses.length r.pc, .int .i64 r.fw, .int .i64 r.fp, .int .i64 r.wh, .int .i64 r.pl] 44)), y.w.cell? ⟨x.w.heap.size, 11, none⟩ = some (.int .i64 r.wh) := fun y => Since.cell (by simp [go_sem]) (by first | (simp; done) | (simp; omega)) y
  have hb0_12 : ∀ y : Since (x.w.alloc (.cells #[.int .i64 r.id, .int .i64 r.rd, .int .i64 r.s0, .int .i64 r.s1, .int .i64 r.e0, .int .i64 r.e1, .bool op, .slice la r.legs.length r.lc, .slice r.pa r.pauses.length r.pc, .int .i64 r.fw, .int .i64 r.fp, .int .i64 r.wh, .int .i64 r.pl] 44)), y.w.cell? ⟨x.w.heap.size, 12, none⟩ = some (.int .i64 r.pl) := fun y => Since.cell (by simp [go_sem]) (by first | (simp; done) | (simp; omega)) y
  have hf0 : ∀ (y : Since (x.w.alloc (.cells #[.int .i64 r.id, .int .i64 r.rd, .int .i64 r.s0, .int .i64 r.s1, .int .i64 r.e0, .int .i64 r.e1, .bool op, .slice la r.legs.length r.lc, .slice r.pa r.pauses.length r.pc, .int .i64 r.fw, .int .i64 r.fp, .int .i64 r.wh, .int .i64 r.pl] 44))) (o : Nat), y.w.frozen? ⟨x.w.heap.size, o, none⟩ = false := fun y o => Since.free (by simp [go_sem]) (by first | (simp; done) | (simp; omega)) y
  have hWup : ∃ z : Since w, (x.w.alloc (.cells #[.int .i64 r.id, .int .i64 r.rd, .int .i64 r.s0, .int .i64 r.s1, .int .i64 r.e0, .int .i64 r.e1, .bool op, .slice la r.legs.length r.lc, .slice r.pa r.pauses.length r.pc, .int .i64 r.fw, .int .i64 r.fp, .int .i64 r.wh, .int .i64 r.pl] 44)) = z.w := x.alloc _
  obtain ⟨y0, hy0⟩ := Since.refl (x.w.alloc (.cells #[.int .i64 r.id, .int .i64 r.rd, .int .i64 r.s0, .int .i64 r.s1, .int .i64 r.e0, .int .i64 r.e1, .bool op, .slice la r.legs.length r.lc, .slice r.pa r.pauses.length r.pc, .int .i64 r.fw, .int .i64 r.fp, .int .i64 r.wh, .int .i64 r.pl] 44))
  have Hbx := Lib.hid (And.intro x.b.size (show x.w.heap.size + 1 = (x.w.alloc (.cells #[.int .i64 r.id, .int .i64 r.rd, .int .i64 r.s0, .int .i64 r.s1, .int .i64 r.e0, .int .i64 r.e1, .bool op, .slice la r.legs.length r.lc, .slice r.pa r.pauses.length r.pc, .int .i64 r.fw, .int .i64 r.fp, .int .i64 r.wh, .int .i64 r.pl] 44)).heap.size from by simp))
  generalize hW : (x.w.alloc (.cells #[.int .i64 r.id, .int .i64 r.rd, .int .i64 r.s0, .int .i64 r.s1, .int .i64 r.e0, .int .i64 r.e1, .bool op, .slice la r.legs.length r.lc, .slice r.pa r.pauses.length r.pc, .int .i64 r.fw, .int .i64 r.fp, .int .i64 r.wh, .int .i64 r.pl] 44)) = W at *
  clear hW
  generalize x.w.heap.size = bx at *
  have Hup := Lib.hid (Since.up hWup)
  rw [hy0]
  clear hy0
  replace HL := Lib.hid (HL.out.to hWup); replace HA := Lib.hid (HA.out.to hWup)
  replace Hmk := Lib.hid (Hmk.out W HA.out)
  clear hWup
  go_wp2_with fail
  go_loopw [3] (fun i wr => ∃ (k : Nat) (y : Since W), k ≤ r.legs.length ∧ i = .int .i64 k ∧ wr = y.w ∧ ∀ i, i < k → legB op r.legs i = true) (fun i _ => r.legs.length - (intOf i).toNat)
  case atStart => exact ⟨0, _, by omega, rfl, rfl, fun i hi => by omega⟩
  case round =>
    obtain ⟨k, y, hk, rfl, rfl, hok⟩ := hrel
    have Hok := Lib.hid hok; clear hok
    by_cases hlt : k < r.legs.length
    · obtain ⟨e, he⟩ : ∃ e, r.legs[k]? = some e := ⟨_, List.getElem?_eq_getElem hlt⟩
      obtain ⟨b1, off1, rfl, h1'⟩ := Els.leg HL.out he
      have pa0 := h1'.c0
      have pa1 := h1'.c1
      have pa2 := h1'.c2
      have pa3 := h1'.c3
      have pa4 := h1'.c4
      have Hlb := Lib.hid (show legB op r.legs k = (decide (e.f0 ≤ e.t0) || (op && decide (k + 1 = r.legs.length))) by unfold legB; rw [he])
      have hk0 : (0 : Int) ≤ (k : Int) := by omega
      have hkl : (k : Int) < (r.legs.length : Int) := by omega
      clear h1' he
      have hcase : (((k : Int) == (r.legs.length : Int) - 1) = true ∧ op = true ∧ legB op r.legs k = true) ∨ (((k : Int) == (r.legs.length : Int) - 1) = true ∧ op = false ∧ legB op r.legs k = decide (e.f0 ≤ e.t0)) ∨ (((k : Int) == (r.legs.length : Int) - 1) = false ∧ legB op r.legs k = decide (e.f0 ≤ e.t0)) := by
        by_cases h1 : k + 1 = r.legs.length
        · cases op
          · exact .inr (.inl ⟨by simp; omega, rfl, by rw [Hlb.out]; simp⟩)
          · exact .inl ⟨by simp; omega, rfl, by rw [Hlb.out, decide_eq_true h1]; simp⟩
        · exact .inr (.inr ⟨by simp; omega, by rw [Hlb.out, decide_eq_false h1]; simp⟩)
      clear Hlb
      rcases hcase with ⟨hkb, rfl, hlb⟩ | ⟨hkb, rfl, hlb⟩ | ⟨hkb, hlb⟩
      · have Hlb := Lib.hid hlb; clear hlb
        go_wp2_with fail
        refine wp_region_since (by kernel_rfl) (by kernel_rfl) ?_
        repeat (go_big_quiet_step (fail))
        refine wpQuiet_nil ?_
        rintro _ ⟨y2, rfl⟩
        go_wp2_with fail
        go_roundw
        case rel => exact ⟨k + 1, y2, by omega, by go_num, rfl, fun i hi => by
          by_cases hik : i < k
          · exact Hok.out i hik
          · obtain rfl : i = k := by omega
            exact Hlb.out⟩
        case measure => simp [intOf] <;> omega
      all_goals
        have Hlb := Lib.hid hlb; clear hlb
        by_cases hft : e.f0 ≤ e.t0
        · have hb : decide (e.t0 < e.f0) = false := decide_eq_false (by omega)
          have Hlb2 := Lib.hid (Hlb.out.trans (decide_eq_true hft))
          clear hft
          go_wp2_with fail
          refine wp_region_since (by kernel_rfl) (by kernel_rfl) ?_
          repeat (go_big_quiet_step (fail))
          refine wpQuiet_nil ?_
          rintro _ ⟨y2, rfl⟩
          clear hb
          go_wp2_with fail
          go_roundw
          case rel => exact ⟨k + 1, y2, by omega, by go_num, rfl, fun i hi => by
            by_cases hik : i < k
            · exact Hok.out i hik
            · obtain rfl : i = k := by omega
              exact Hlb2.out⟩
          case measure => simp [intOf] <;> omega
        · have hb : decide (e.t0 < e.f0) = true := decide_eq_true (by omega)
          have Hr := Lib.hid (show orderedB r = false by
            cases hh : orderedB r
            · rfl
            · have := HG.out.1 (HO.out.1 hh).1 k hlt
              rw [Hlb.out, decide_eq_false hft] at this; cases this)
          clear hft
          go_wp2_with fail
          refine wp_region_since (by kernel_rfl) (by kernel_rfl) ?_
          repeat (go_big_quiet_step (fail))
          refine wpQuiet_nil ?_
          rintro _ ⟨y2, rfl⟩
          clear hb
          go_wp2_with fail
          go_ret
          exact ⟨ret_bool Hr.out.symm, Hup.out _⟩
    · obtain rfl : k = r.legs.length := by omega
      have HG2 := Lib.hid (HG.out.2 Hok.out)
      clear Hok HG
      go_wp2_with (go_at_call 64; ((with_reducible refine (Hmk.out _).mono ?_); rintro _ _ ⟨a, cap, y2, rfl, rfl, hrow⟩))
      clear Hmk
      have hM5 : M.length ≤ 200000 := by omega
      have Hrow := Lib.hid hrow; clear hrow
      replace hb0_0 := Since.cellTo ⟨y2, rfl⟩ hb0_0
      replace hb0_1 := Since.cellTo ⟨y2, rfl⟩ hb0_1
      replace hb0_2 := Since.cellTo ⟨y2, rfl⟩ hb0_2
      replace hb0_3 := Since.cellTo ⟨y2, rfl⟩ hb0_3
      replace hb0_4 := Since.cellTo ⟨y2, rfl⟩ hb0_4
      replace hb0_5 := Since.cellTo ⟨y2, rfl⟩ hb0_5
      replace hb0_6 := Since.cellTo ⟨y2, rfl⟩ hb0_6
      replace hb0_7 := Since.cellTo ⟨y2, rfl⟩ hb0_7
      replace hb0_8 := Since.cellTo ⟨y2, rfl⟩ hb0_8
      replace hb0_9 := Since.cellTo ⟨y2, rfl⟩ hb0_9
      replace hb0_10 := Since.cellTo ⟨y2, rfl⟩ hb0_10
      replace hb0_11 := Since.cellTo ⟨y2, rfl⟩ hb0_11
      replace hb0_12 := Since.cellTo ⟨y2, rfl⟩ hb0_12
      obtain ⟨q0, hq0⟩ := Since.refl y2.w
      rw [hq0]
      clear hq0
      go_wp2_with fail
      go_loopw [6] (fun i wr => ∃ (k : Nat) (z : Since y2.w), k ≤ M.length ∧ i = .int .i64 k ∧ wr = z.w ∧ ∀ i, i < k → markB op r.s0 r.e0 M i = true) (fun i _ => M.length - (intOf i).toNat)
      case atStart => exact ⟨0, _, by omega, rfl, rfl, fun i hi => by omega⟩
      case round =>
        obtain ⟨k, z, hk, rfl, rfl, hok⟩ := hrel
        have Hok := Lib.hid hok; clear hok
        by_cases hlt : k < M.length
        · obtain ⟨b, off, rfl, hbl, hc⟩ := Hrow.out k hlt
          have kc : ∀ q : Since y2.w, q.w.cell? ⟨b, off + k, none⟩ = some (.int .i64 (at0 M k)) := fun q => Since.cell hc hbl q
          have hk0 : (0 : Int) ≤ (k : Int) := by omega
          have hkl : (k : Int) < (M.length : Int) := by omega
          clear hbl hc
          by_cases hz : k = 0
          · have hz1 : ((k : Int) == 0) = true := by simp; omega
            have hz2 : decide ((0 : Int) < (k : Int)) = false := decide_eq_false (by omega)
            have hz3 : decide (0 < k) = false := decide_eq_false (by omega)
            have Hmb := Lib.hid (show markB op r.s0 r.e0 M k = (decide (r.s0 ≤ at0 M k) && (op || decide (at0 M k ≤ r.e0))) by unfold markB; rw [if_pos hz, hz])
            clear hz
            generalize at0 M k = v at *
            have hcase : (decide (v < r.s0) = true ∧ markB op r.s0 r.e0 M k = false) ∨ (decide (v < r.s0) = false ∧ op = true ∧ markB op r.s0 r.e0 M k = true) ∨ (decide (v < r.s0) = false ∧ op = false ∧ decide (r.e0 < v) = true ∧ markB op r.s0 r.e0 M k = false) ∨ (decide (v < r.s0) = false ∧ op = false ∧ decide (r.e0 < v) = false ∧ markB op r.s0 r.e0 M k = true) := by
              rw [Hmb.out]
              by_cases h1 : v < r.s0
              · exact .inl ⟨decide_eq_true h1, by rw [decide_eq_false (by omega)]; rfl⟩
              · cases op
                · by_cases h2 : r.e0 < v
                  · exact .inr (.inr (.inl ⟨decide_eq_false h1, rfl, decide_eq_true h2, by rw [decide_eq_false (p := v ≤ r.e0) (by omega)]; simp⟩))
                  · exact .inr (.inr (.inr ⟨decide_eq_false h1, rfl, decide_eq_false h2, by simp; omega⟩))
                · exact .inr (.inl ⟨decide_eq_false h1, rfl, by simp; omega⟩)
            clear Hmb
            rcases hcase with ⟨t1, hm⟩ | ⟨t1, rfl, hm⟩ | ⟨t1, rfl, t2, hm⟩ | ⟨t1, rfl, t2, hm⟩
            · have Hm := Lib.hid hm; clear hm
              have Hr := Lib.hid (show orderedB r = false by
                cases hh : orderedB r
                · rfl
                · have := (HO.out.1 hh).2 k hlt
                  rw [Hm.out] at this; cases this)
              go_wp2_with fail
              refine wp_region_since (by kernel_rfl) (by kernel_rfl) ?_
              repeat (go_big_quiet_step (fail))
              refine wpQuiet_nil ?_
              rintro _ ⟨z2, rfl⟩
              clear hz1 hz2 hz3
              go_wp2_with fail
              go_ret
              exact ⟨ret_bool Hr.out.symm, by obtain ⟨q, e⟩ := y2.trans z2; rw [e]; exact Hup.out q⟩
            · have Hm := Lib.hid hm; clear hm
              go_wp2_with fail
              refine wp_region_since (by kernel_rfl) (by kernel_rfl) ?_
              repeat (go_big_quiet_step (fail))
              refine wpQuiet_nil ?_
              rintro _ ⟨z2, rfl⟩
              clear hz1 hz2 hz3
              go_wp2_with fail
              go_roundw
              case rel => exact ⟨k + 1, z2, by omega, by go_num, rfl, fun i hi => by
                by_cases hik : i < k
                · exact Hok.out i hik
                · obtain rfl : i = k := by omega
                  exact Hm.out⟩
              case measure => simp [intOf] <;> omega
            · have Hm := Lib.hid hm; clear hm
              have Hr := Lib.hid (show orderedB r = false by
                cases hh : orderedB r
                · rfl
                · have := (HO.out.1 hh).2 k hlt
                  rw [Hm.out] at this; cases this)
              go_wp2_with fail
              refine wp_region_since (by kernel_rfl) (by kernel_rfl) ?_
              repeat (go_big_quiet_step (fail))
              refine wpQuiet_nil ?_
              rintro _ ⟨z2, rfl⟩
              clear hz1 hz2 hz3
              go_wp2_with fail
              go_ret
              exact ⟨ret_bool Hr.out.symm, by obtain ⟨q, e⟩ := y2.trans z2; rw [e]; exact Hup.out q⟩
            · have Hm := Lib.hid hm; clear hm
              go_wp2_with fail
              refine wp_region_since (by kernel_rfl) (by kernel_rfl) ?_
              repeat (go_big_quiet_step (fail))
              refine wpQuiet_nil ?_
              rintro _ ⟨z2, rfl⟩
              clear hz1 hz2 hz3
              go_wp2_with fail
              go_roundw
              case rel => exact ⟨k + 1, z2, by omega, by go_num, rfl, fun i hi => by
                by_cases hik : i < k
                · exact Hok.out i hik
                · obtain rfl : i = k := by omega
                  exact Hm.out⟩
              case measure => simp [intOf] <;> omega
          · obtain ⟨b', off', hbo, hbl, hc⟩ := Hrow.out (k - 1) (by omega)
            obtain ⟨rfl, rfl⟩ : b = b' ∧ off = off' := by simpa using hbo
            have kp : ∀ q : Since y2.w, q.w.cell? ⟨b, off + (k - 1), none⟩ = some (.int .i64 (at0 M (k - 1))) := fun q => Since.cell hc hbl q
            have hz1 : ((k : Int) == 0) = false := by simp; omega
            have hz2 : decide ((0 : Int) < (k : Int)) = true := decide_eq_true (by omega)
            have hz3 : decide (0 < k) = true := decide_eq_true (by omega)
            have hmw : IntKind.i64.wrap ((k : Int) - 1) = ((k - 1 : Nat) : Int) := by rw [show (k : Int) - 1 = ((k - 1 : Nat) : Int) by omega]; exact IntWalk.i64_in _ (by omega)
            have hmr : (0 : Int) ≤ ((k - 1 : Nat) : Int) := by omega
            have hml : ((k - 1 : Nat) : Int) < (M.length : Int) := by omega
            have Hmb := Lib.hid (show markB op r.s0 r.e0 M k = (decide (at0 M (k - 1) ≤ at0 M k) && (op || decide (at0 M k ≤ r.e0))) by unfold markB; rw [if_neg hz])
            clear hz hbo hbl hc
            generalize at0 M k = v at *
            generalize at0 M (k - 1) = u at *
            have hcase : (decide (v < u) = true ∧ markB op r.s0 r.e0 M k = false) ∨ (decide (v < u) = false ∧ op = true ∧ markB op r.s0 r.e0 M k = true) ∨ (decide (v < u) = false ∧ op = false ∧ decide (r.e0 < v) = true ∧ markB op r.s0 r.e0 M k = false) ∨ (decide (v < u) = false ∧ op = false ∧ decide (r.e0 < v) = false ∧ markB op r.s0 r.e0 M k = true) := by
              rw [Hmb.out]
              by_cases h1 : v < u
              · exact .inl ⟨decide_eq_true h1, by rw [decide_eq_false (by omega)]; rfl⟩
              · cases op
                · by_cases h2 : r.e0 < v
                  · exact .inr (.inr (.inl ⟨decide_eq_false h1, rfl, decide_eq_true h2, by rw [decide_eq_false (p := v ≤ r.e0) (by omega)]; simp⟩))
                  · exact .inr (.inr (.inr ⟨decide_eq_false h1, rfl, decide_eq_false h2, by simp; omega⟩))
                · exact .inr (.inl ⟨decide_eq_false h1, rfl, by simp; omega⟩)
            clear Hmb
            rcases hcase with ⟨t1, hm⟩ | ⟨t1, rfl, hm⟩ | ⟨t1, rfl, t2, hm⟩ | ⟨t1, rfl, t2, hm⟩
            · have Hm := Lib.hid hm; clear hm
              have Hr := Lib.hid (show orderedB r = false by
                cases hh : orderedB r
                · rfl
                · have := (HO.out.1 hh).2 k hlt
                  rw [Hm.out] at this; cases this)
              go_wp2_with fail
              refine wp_region_since (by kernel_rfl) (by kernel_rfl) ?_
              repeat (go_big_quiet_step (fail))
              refine wpQuiet_nil ?_
              rintro _ ⟨z2, rfl⟩
              clear hz1 hz2 hz3
              go_wp2_with fail
              go_ret
              exact ⟨ret_bool Hr.out.symm, by obtain ⟨q, e⟩ := y2.trans z2; rw [e]; exact Hup.out q⟩
            · have Hm := Lib.hid hm; clear hm
              go_wp2_with fail
              refine wp_region_since (by kernel_rfl) (by kernel_rfl) ?_
              repeat (go_big_quiet_step (fail))
              refine wpQuiet_nil ?_
              rintro _ ⟨z2, rfl⟩
              clear hz1 hz2 hz3
              go_wp2_with fail
              go_roundw
              case rel => exact ⟨k + 1, z2, by omega, by go_num, rfl, fun i hi => by
                by_cases hik : i < k
                · exact Hok.out i hik
                · obtain rfl : i = k := by omega
                  exact Hm.out⟩
              case measure => simp [intOf] <;> omega
            · have Hm := Lib.hid hm; clear hm
              have Hr := Lib.hid (show orderedB r = false by
                cases hh : orderedB r
                · rfl
                · have := (HO.out.1 hh).2 k hlt
                  rw [Hm.out] at this; cases this)
              go_wp2_with fail
              refine wp_region_since (by kernel_rfl) (by kernel_rfl) ?_
              repeat (go_big_quiet_step (fail))
              refine wpQuiet_nil ?_
              rintro _ ⟨z2, rfl⟩
              clear hz1 hz2 hz3
              go_wp2_with fail
              go_ret
              exact ⟨ret_bool Hr.out.symm, by obtain ⟨q, e⟩ := y2.trans z2; rw [e]; exact Hup.out q⟩
            · have Hm := Lib.hid hm; clear hm
              go_wp2_with fail
              refine wp_region_since (by kernel_rfl) (by kernel_rfl) ?_
              repeat (go_big_quiet_step (fail))
              refine wpQuiet_nil ?_
              rintro _ ⟨z2, rfl⟩
              clear hz1 hz2 hz3
              go_wp2_with fail
              go_roundw
              case rel => exact ⟨k + 1, z2, by omega, by go_num, rfl, fun i hi => by
                by_cases hik : i < k
                · exact Hok.out i hik
                · obtain rfl : i = k := by omega
                  exact Hm.out⟩
              case measure => simp [intOf] <;> omega
        · obtain rfl : k = M.length := by omega
          have Hr := Lib.hid (HO.out.2 ⟨HG2.out, Hok.out⟩)
          go_wp2_with fail
          go_ret
          exact ⟨ret_bool Hr.out.symm, by obtain ⟨q, e⟩ := y2.trans z; rw [e]; exact Hup.out q⟩
end Go.Proofs.Ytbkfcdheckkjaaa
