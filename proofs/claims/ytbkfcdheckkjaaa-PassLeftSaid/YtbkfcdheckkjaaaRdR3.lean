/- The walks of the reference's check of a ride, third part: the marks of the pauses. -/
import Derived.Test.YtbkfcdheckkjaaaRdR2
import Derived.Test.YtbkfcdheckkjaaaReg
set_option linter.all false
namespace Go.Proofs.Ytbkfcdheckkjaaa
open Go.RowKit

theorem sInts : SliceOf Try.prog 29 3 (.int .i64 0) 1 8 := SliceOf.mk' Try.underlying29 (by kernel_rfl) rfl (by decide)
/-- the beginnings and ends of pauses -/
def flatM (l : List Pse) : List Int := l.flatMap fun p => [p.f0, p.t0]
theorem flatM_len : ∀ l : List Pse, (flatM l).length = 2 * l.length
  | [] => rfl
  | p :: l => by
    have := flatM_len l
    simp only [flatM, List.flatMap_cons, List.length_append, List.length_cons, List.length_nil] at this ⊢
    omega
theorem flatM_next {l : List Pse} {k : Nat} {e : Pse} (h : l[k]? = some e) : flatM (l.take (k + 1)) = flatM (l.take k) ++ [e.f0, e.t0] := by
  rw [List.take_succ_eq_append_getElem (List.getElem?_eq_some_iff.1 h).1, (List.getElem?_eq_some_iff.1 h).2]
  simp [flatM]
/-- the last end is 0 -/
def lastZ (l : List Pse) : Bool := match l.getLast? with | some p => decide (p.t0 = 0) | none => false
def marksL (op : Bool) (l : List Pse) : List Int := if op && lastZ l then (flatM l).dropLast else flatM l
theorem marks_len (op : Bool) (l : List Pse) : (marksL op l).length ≤ 2 * l.length := by
  unfold marksL; split
  · rw [List.length_dropLast, flatM_len]; omega
  · rw [flatM_len]; omega
theorem flat_last {l : List Pse} {e : Pse} (h : l[l.length - 1]? = some e) (h0 : 0 < l.length) : at0 (flatM l) (2 * l.length - 1) = e.t0 := by
  have h1 := flatM_next h
  rw [show l.length - 1 + 1 = l.length by omega, List.take_length] at h1
  have h2 : (flatM (l.take (l.length - 1))).length = 2 * (l.length - 1) := by rw [flatM_len, List.length_take]; omega
  rw [h1]
  unfold at0
  rw [List.getD_eq_getElem?_getD, List.getElem?_append_right (by omega), h2, show 2 * l.length - 1 - 2 * (l.length - 1) = 1 by omega]
  rfl
theorem lastZ_at {l : List Pse} {e : Pse} (h : l[l.length - 1]? = some e) : lastZ l = decide (e.t0 = 0) := by
  unfold lastZ; rw [List.getLast?_eq_getElem?, h]
theorem row_cut {w : World} {a : Option Addr} {n m : Nat} {f : Nat → Value} (h : Row w a n f) (hm : m ≤ n) : Row w a m f := fun i hi => h i (by omega)
theorem ints_row {w : World} {a : Option Addr} {n : Nat} {l : List Int} (hn : l.length = n) (h : Row w a n fun i => (l.map (Value.int .i64)).getD i undef) : IntRow w a l := by
  subst hn
  intro i hi
  obtain ⟨b, off, ha, hlt, hc⟩ := h i hi
  exact ⟨b, off, ha, hlt, by rw [hc]; simp [at0, List.getD_eq_getElem?_getD, hi]⟩
def MarksPost (w : World) (l : List Int) (o : Ending) (w' : World) : Prop :=
  ∃ (a : Option Addr) (cap : Nat) (y : Since w), o = .returned (.slice a l.length cap) ∧ w' = y.w ∧ IntRow y.w a l
set_option maxRecDepth 100000 in
set_option maxHeartbeats 8000000 in
theorem marks_calls (w : World) (x : Since w) (r : Ride) (h : r.At w) (hp : r.pauses.length ≤ 100000) :
    Calls Try.prog 64 #[.agg #[.int .i64 r.id, .int .i64 r.rd, .int .i64 r.s0, .int .i64 r.s1, .int .i64 r.e0, .int .i64 r.e1, .bool r.op, .slice r.la r.legs.length r.lc, .slice r.pa r.pauses.length r.pc, .int .i64 r.fw, .int .i64 r.fp, .int .i64 r.wh, .int .i64 r.pl]] x.w (MarksPost w (marksL r.op r.pauses)) := by
  have HP := Lib.hid h.p
  clear h
  generalize r.pa = pa at HP ⊢
  generalize r.op = op at ⊢
  go_enter Try.func64, Try.ntmps64
  go_upto_region 1 with fail
  have hb0_0 : ∀ y : Since (x.w.alloc (.cells #[.int .i64 r.id, .int .i64 r.rd, .int .i64 r.s0, .int .i64 r.s1, .int .i64 r.e0, .int .i64 r.e1, .bool op, .slice r.la r.legs.length r.lc, .slice pa r.pauses.length r.pc, .int .i64 r.fw, .int .i64 r.fp, .int .i64 r.wh, .int .i64 r.pl] 44)), y.w.cell? ⟨x.w.heap.size, 0, none⟩ = some (.int .i64 r.id) := fun y => Since.cell (by simp [go_sem]) (by first | (simp; done) | (simp; omega)) y
  have hb0_1 : ∀ y : Since (x.w.alloc (.cells #[.int .i64 r.id, .int .i64 r.rd, .int .i64 r.s0, .int .i64 r.s1, .int .i64 r.e0, .int .i64 r.e1, .bool op, .slice r.la r.legs.length r.lc, .slice pa r.pauses.length r.pc, .int .i64 r.fw, .int .i64 r.fp, .int .i64 r.wh, .int .i64 r.pl] 44)), y.w.cell? ⟨x.w.heap.size, 1, none⟩ = some (.int .i64 r.rd) := fun y => Since.cell (by simp [go_sem]) (by first | (simp; done) | (simp; omega)) y
  have hb0_2 : ∀ y : Since (x.w.alloc (.cells #[.int .i64 r.id, .int .i64 r.rd, .int .i64 r.s0, .int .i64 r.s1, .int .i64 r.e0, .int .i64 r.e1, .bool op, .slice r.la r.legs.length r.lc, .slice pa r.pauses.length r.pc, .int .i64 r.fw, .int .i64 r.fp, .int .i64 r.wh, .int .i64 r.pl] 44)), y.w.cell? ⟨x.w.heap.size, 2, none⟩ = some (.int .i64 r.s0) := fun y => Since.cell (by simp [go_sem]) (by first | (simp; done) | (simp; omega)) y
  have hb0_3 : ∀ y : Since (x.w.alloc (.cells #[.int .i64 r.id, .int .i64 r.rd, .int .i64 r.s0, .int .i64 r.s1, .int .i64 r.e0, .int .i64 r.e1, .bool op, .slice r.la r.legs.length r.lc, .slice pa r.pauses.length r.pc, .int .i64 r.fw, .int .i64 r.fp, .int .i64 r.wh, .int .i64 r.pl] 44)), y.w.cell? ⟨x.w.heap.size, 3, none⟩ = some (.int .i64 r.s1) := fun y => Since.cell (by simp [go_sem]) (by first | (simp; done) | (simp; omega)) y
  have hb0_4 : ∀ y : Since (x.w.alloc (.cells #[.int .i64 r.id, .int .i64 r.rd, .int .i64 r.s0, .int .i64 r.s1, .int .i64 r.e0, .int .i64 r.e1, .bool op, .slice r.la r.legs.length r.lc, .slice pa r.pauses.length r.pc, .int .i64 r.fw, .int .i64 r.fp, .int .i64 r.wh, .int .i64 r.pl] 44)), y.w.cell? ⟨x.w.heap.size, 4, none⟩ = some (.int .i64 r.e0) := fun y => Since.cell (by simp [go_sem]) (by first | (simp; done) | (simp; omega)) y
  have hb0_5 : ∀ y : Since (x.w.alloc (.cells #[.int .i64 r.id, .int .i64 r.rd, .int .i64 r.s0, .int .i64 r.s1, .int .i64 r.e0, .int .i64 r.e1, .bool op, .slice r.la r.legs.length r.lc, .slice pa r.pauses.length r.pc, .int .i64 r.fw, .int .i64 r.fp, .int .i64 r.wh, .int .i64 r.pl] 44)), y.w.cell? ⟨x.w.heap.size, 5, none⟩ = some (.int .i64 r.e1) := fun y => Since.cell (by simp [go_sem]) (by first | (simp; done) | (simp; omega)) y
  have hb0_6 : ∀ y : Since (x.w.alloc (.cells #[.int .i64 r.id, .int .i64 r.rd, .int .i64 r.s0, .int .i64 r.s1, .int .i64 r.e0, .int .i64 r.e1, .bool op, .slice r.la r.legs.length r.lc, .slice pa r.pauses.length r.pc, .int .i64 r.fw, .int .i64 r.fp, .int .i64 r.wh, .int .i64 r.pl] 44)), y.w.cell? ⟨x.w.heap.size, 6, none⟩ = some (.bool op) := fun y => Since.cell (by simp [go_sem]) (by first | (simp; done) | (simp; omega)) y
  have hb0_7 : ∀ y : Since (x.w.alloc (.cells #[.int .i64 r.id, .int .i64 r.rd, .int .i64 r.s0, .int .i64 r.s1, .int .i64 r.e0, .int .i64 r.e1, .bool op, .slice r.la r.legs.length r.lc, .slice pa r.pauses.length r.pc, .int .i64 r.fw, .int .i64 r.fp, .int .i64 r.wh, .int .i64 r.pl] 44)), y.w.cell? ⟨x.w.heap.size, 7, none⟩ = some (.slice r.la r.legs.length r.lc) := fun y => Since.cell (by simp [go_sem]) (by first | (simp; done) | (simp; omega)) y
  have hb0_8 : ∀ y : Since (x.w.alloc (.cells #[.int .i64 r.id, .int .i64 r.rd, .int .i64 r.s0, .int .i64 r.s1, .int .i64 r.e0, .int .i64 r.e1, .bool op, .slice r.la r.legs.length r.lc, .slice pa r.pauses.length r.pc, .int .i64 r.fw, .int .i64 r.fp, .int .i64 r.wh, .int .i64 r.pl] 44)), y.w.cell? ⟨x.w.heap.size, 8, none⟩ = some (.slice pa r.pauses.length r.pc) := fun y => Since.cell (by simp [go_sem]) (by first | (simp; done) | (simp; omega)) y
  have hb0_9 : ∀ y : Since (x.w.alloc (.cells #[.int .i64 r.id, .int .i64 r.rd, .int .i64 r.s0, .int .i64 r.s1, .int .i64 r.e0, .int .i64 r.e1, .bool op, .slice r.la r.legs.length r.lc, .slice pa r.pauses.length r.pc, .int .i64 r.fw, .int .i64 r.fp, .int .i64 r.wh, .int .i64 r.pl] 44)), y.w.cell? ⟨x.w.heap.size, 9, none⟩ = some (.int .i64 r.fw) := fun y => Since.cell (by simp [go_sem]) (by first | (simp; done) | (simp; omega)) y
  have hb0_10 : ∀ y : Since (x.w.alloc (.cells #[.int .i64 r.id, .int .i64 r.rd, .int .i64 r.s0, .int .i64 r.s1, .int .i64 r.e0, .int .i64 r.e1, .bool op, .slice r.la r.legs.length r.lc, .slice pa r.pauses.length r.pc, .int .i64 r.fw, .int .i64 r.fp, .int .i64 r.wh, .int .i64 r.pl] 44)), y.w.cell? ⟨x.w.heap.size, 10, none⟩ = some (.int .i64 r.fp) := fun y => Since.cell (by simp [go_sem]) (by first | (simp; done) | (simp; omega)) y
  have hb0_11 : ∀ y : Since (x.w.alloc (.cells #[.int .i64 r.id, .int .i64 r.rd, .int .i64 r.s0, .int .i64 r.s1, .int .i64 r.e0, .int .i64 r.e1, .bool op, .slice r.la r.legs.length r.lc, .slice pa r.pauses.length r.pc, .int .i64 r.fw, .int .i64 r.fp, .int .i64 r.wh, .int .i64 r.pl] 44)), y.w.cell? ⟨x.w.heap.size, 11, none⟩ = some (.int .i64 r.wh) := fun y => Since.cell (by simp [go_sem]) (by first | (simp; done) | (simp; omega)) y
  have hb0_12 : ∀ y : Since (x.w.alloc (.cells #[.int .i64 r.id, .int .i64 r.rd, .int .i64 r.s0, .int .i64 r.s1, .int .i64 r.e0, .int .i64 r.e1, .bool op, .slice r.la r.legs.length r.lc, .slice pa r.pauses.length r.pc, .int .i64 r.fw, .int .i64 r.fp, .int .i64 r.wh, .int .i64 r.pl] 44)), y.w.cell? ⟨x.w.heap.size, 12, none⟩ = some (.int .i64 r.pl) := fun y => Since.cell (by simp [go_sem]) (by first | (simp; done) | (simp; omega)) y
  have hf0 : ∀ (y : Since (x.w.alloc (.cells #[.int .i64 r.id, .int .i64 r.rd, .int .i64 r.s0, .int .i64 r.s1, .int .i64 r.e0, .int .i64 r.e1, .bool op, .slice r.la r.legs.length r.lc, .slice pa r.pauses.length r.pc, .int .i64 r.fw, .int .i64 r.fp, .int .i64 r.wh, .int .i64 r.pl] 44))) (o : Nat), y.w.frozen? ⟨x.w.heap.size, o, none⟩ = false := fun y o => Since.free (by simp [go_sem]) (by first | (simp; done) | (simp; omega)) y
  have hWup : ∃ z : Since w, (x.w.alloc (.cells #[.int .i64 r.id, .int .i64 r.rd, .int .i64 r.s0, .int .i64 r.s1, .int .i64 r.e0, .int .i64 r.e1, .bool op, .slice r.la r.legs.length r.lc, .slice pa r.pauses.length r.pc, .int .i64 r.fw, .int .i64 r.fp, .int .i64 r.wh, .int .i64 r.pl] 44)) = z.w := x.alloc _
  obtain ⟨y0, hy0⟩ := Since.refl (x.w.alloc (.cells #[.int .i64 r.id, .int .i64 r.rd, .int .i64 r.s0, .int .i64 r.s1, .int .i64 r.e0, .int .i64 r.e1, .bool op, .slice r.la r.legs.length r.lc, .slice pa r.pauses.length r.pc, .int .i64 r.fw, .int .i64 r.fp, .int .i64 r.wh, .int .i64 r.pl] 44))
  have Hbx := Lib.hid (And.intro x.b.size (show x.w.heap.size + 1 = (x.w.alloc (.cells #[.int .i64 r.id, .int .i64 r.rd, .int .i64 r.s0, .int .i64 r.s1, .int .i64 r.e0, .int .i64 r.e1, .bool op, .slice r.la r.legs.length r.lc, .slice pa r.pauses.length r.pc, .int .i64 r.fw, .int .i64 r.fp, .int .i64 r.wh, .int .i64 r.pl] 44)).heap.size from by simp))
  generalize hW : (x.w.alloc (.cells #[.int .i64 r.id, .int .i64 r.rd, .int .i64 r.s0, .int .i64 r.s1, .int .i64 r.e0, .int .i64 r.e1, .bool op, .slice r.la r.legs.length r.lc, .slice pa r.pauses.length r.pc, .int .i64 r.fw, .int .i64 r.fp, .int .i64 r.wh, .int .i64 r.pl] 44)) = W at *
  clear hW
  generalize x.w.heap.size = bx at *
  have Hup := Lib.hid (Since.up hWup)
  rw [hy0]
  clear hy0
  replace HP := Lib.hid (HP.out.to hWup)
  clear hWup
  go_wp2_with fail
  go_loopw [3, 4] (fun s i wr => ∃ (k : Nat) (y : Since W) (v : Value), k ≤ r.pauses.length ∧ i = .int .i64 k ∧ v = s ∧ wr = y.w ∧ y.w.ownsRow W.heap.size 3 1 v (2 * k) ((flatM (r.pauses.take k)).map (Value.int .i64))) (fun _ i _ => r.pauses.length - (intOf i).toNat)
  case atStart => exact ⟨0, _, _, by omega, rfl, rfl, rfl, ⟨rfl, .inl ⟨rfl, rfl⟩⟩⟩
  case round =>
    obtain ⟨k, y, v, hk, rfl, rfl, rfl, hown⟩ := hrel
    have Hown := Lib.hid hown; clear hown
    by_cases hlt : k < r.pauses.length
    · obtain ⟨e, he⟩ : ∃ e, r.pauses[k]? = some e := ⟨_, List.getElem?_eq_getElem hlt⟩
      obtain ⟨b1, off1, rfl, h1'⟩ := Els.pse HP.out he
      have pb0 := h1'.c0
      have pb1 := h1'.c1
      have pb2 := h1'.c2
      have pb3 := h1'.c3
      have Hnext := Lib.hid (flatM_next he)
      have hk0 : (0 : Int) ≤ (k : Int) := by omega
      have hkl : (k : Int) < (r.pauses.length : Int) := by omega
      clear h1' he
      replace hb0_0 := Since.cellTo ⟨y, rfl⟩ hb0_0
      replace hb0_1 := Since.cellTo ⟨y, rfl⟩ hb0_1
      replace hb0_2 := Since.cellTo ⟨y, rfl⟩ hb0_2
      replace hb0_3 := Since.cellTo ⟨y, rfl⟩ hb0_3
      replace hb0_4 := Since.cellTo ⟨y, rfl⟩ hb0_4
      replace hb0_5 := Since.cellTo ⟨y, rfl⟩ hb0_5
      replace hb0_6 := Since.cellTo ⟨y, rfl⟩ hb0_6
      replace hb0_7 := Since.cellTo ⟨y, rfl⟩ hb0_7
      replace hb0_8 := Since.cellTo ⟨y, rfl⟩ hb0_8
      replace hb0_9 := Since.cellTo ⟨y, rfl⟩ hb0_9
      replace hb0_10 := Since.cellTo ⟨y, rfl⟩ hb0_10
      replace hb0_11 := Since.cellTo ⟨y, rfl⟩ hb0_11
      replace hb0_12 := Since.cellTo ⟨y, rfl⟩ hb0_12
      replace pb0 := Since.cellTo ⟨y, rfl⟩ pb0
      replace pb2 := Since.cellTo ⟨y, rfl⟩ pb2
      clear pb1 pb3
      obtain ⟨q0, hq0⟩ := Since.refl y.w
      rw [hq0]
      clear hq0
      go_upto_region 5 with fail
      refine wp_region_tail (fun w' => ∃ q : Since (y.w), w' = q.w) [0] [1, 2, 3, 4, 5, 6, 7, 8, 9, 10, 11, 12, 13, 14] 15 (by kernel_rfl) (by kernel_rfl) (fun _ _ _ _ _ h => h) (q0.drew) ?_
      simp only [List.cons_append, List.nil_append, picks_cons, picks_nil, List.getD_cons_zero, List.getD_cons_succ]
      repeat (go_big_quiet_step (fail))
      refine wpQuiet_nil ?_
      rintro _ ⟨q, rfl⟩
      simp only [List.drop_succ_cons, List.drop_zero]
      have hown1 := own_since (own_since Hown.out q.b) (below_new q.w (.cells #[.int .i64 e.f0, .int .i64 e.t0] 3))
      have Hown1 := Lib.hid hown1; clear hown1
      go_wp2_with (at_builtin; go_loud (refine wpList_appendK (k := 1) (w0 := W) ?hw rfl _ _ 29 rfl W.heap.size (Nat.le_refl _) ?hb 3 (.int .i64 0) 8 sInts v (2 * k) ((flatM (r.pauses.take k)).map (Value.int .i64)) rfl Hown1.out ⟨q.w.heap.size, 0, none⟩ 2 2 [.int .i64 e.f0, .int .i64 e.t0] rfl rfl ?hc ?h1 ?h63 ?hbytes ?_; rotate_right 1; intro v2 q2 hown2 _ hg2))
      case hw => obtain ⟨z, e⟩ := y.trans q; rw [e]; exact z.alloc _
      case hb => have := y.b.size; have := q.b.size; simp; omega
      case hc => exact fun j u hu => cell_new_at q.w [.int .i64 e.f0, .int .i64 e.t0] _ j u hu
      case h1 => intro u hu; simp at hu; rcases hu with rfl | rfl <;> rfl
      case h63 => unfold maxLen; omega
      case hbytes => omega
      have Hown2 := Lib.hid hown2; clear hown2 hg2
      go_roundw
      case rel => exact ⟨k + 1, q2, v2, by omega, by go_num, rfl, rfl, by rw [Hnext.out, List.map_append]; exact Hown2.out⟩
      case measure => simp [intOf] <;> omega
    · obtain rfl : k = r.pauses.length := by omega
      rw [List.take_length] at Hown
      obtain ⟨a, cap, rfl, hcap, hrow, -⟩ := own_row Hown.out
      have Hrow := Lib.hid (ints_row (flatM_len r.pauses) hrow)
      have hfl := flatM_len r.pauses
      clear Hown hrow
      have Hpost := Lib.hid (fun (l : List Int) (n : Nat) (z : Since W) (h1 : l.length = n) (h2 : IntRow z.w a l) (h3 : marksL op r.pauses = l) => show MarksPost w (marksL op r.pauses) (.returned (.slice a n cap)) z.w by
        obtain ⟨z', e⟩ := Hup.out z
        subst h1
        exact ⟨a, cap, z', by rw [h3], e, by rw [h3, ← e]; exact h2⟩)
      have hml : marksL op r.pauses = if op && lastZ r.pauses then (flatM r.pauses).dropLast else flatM r.pauses := rfl
      have Hml := Lib.hid hml; clear hml
      generalize hn : 2 * r.pauses.length = n at *
      have Hn := Lib.hid hn
      have Hfl := Lib.hid hfl
      obtain ⟨q0, hq0⟩ := Since.refl y.w
      rw [hq0]
      replace hq0 := Lib.hid hq0
      replace hb0_0 := Since.cellTo ⟨y, rfl⟩ hb0_0
      replace hb0_1 := Since.cellTo ⟨y, rfl⟩ hb0_1
      replace hb0_2 := Since.cellTo ⟨y, rfl⟩ hb0_2
      replace hb0_3 := Since.cellTo ⟨y, rfl⟩ hb0_3
      replace hb0_4 := Since.cellTo ⟨y, rfl⟩ hb0_4
      replace hb0_5 := Since.cellTo ⟨y, rfl⟩ hb0_5
      replace hb0_6 := Since.cellTo ⟨y, rfl⟩ hb0_6
      replace hb0_7 := Since.cellTo ⟨y, rfl⟩ hb0_7
      replace hb0_8 := Since.cellTo ⟨y, rfl⟩ hb0_8
      replace hb0_9 := Since.cellTo ⟨y, rfl⟩ hb0_9
      replace hb0_10 := Since.cellTo ⟨y, rfl⟩ hb0_10
      replace hb0_11 := Since.cellTo ⟨y, rfl⟩ hb0_11
      replace hb0_12 := Since.cellTo ⟨y, rfl⟩ hb0_12
      rcases (by omega : n ≤ 0 ∨ 0 < n) with h0 | h0
      · have Hr := Lib.hid (Hpost.out (flatM r.pauses) n y hfl Hrow.out (by
          rw [Hml.out]
          have : r.pauses = [] := List.eq_nil_of_length_eq_zero (by omega)
          rw [this]; simp [flatM]))
        clear hn hfl
        go_wp2_with fail
        go_ret
        rw [← hq0.out]
        exact Hr.out
      · obtain ⟨e, he⟩ : ∃ e, r.pauses[r.pauses.length - 1]? = some e := ⟨_, List.getElem?_eq_getElem (by omega)⟩
        have hlz := lastZ_at he
        have hla := flat_last he (by omega)
        rw [hn] at hla
        obtain ⟨b, off, rfl, hlt2, hcl⟩ := Hrow.out (n - 1) (by omega)
        replace hcl : y.w.cell? ⟨b, off + (n - 1), none⟩ = some (.int .i64 e.t0) := by rw [hcl]; show some (Value.int .i64 (at0 _ _)) = _; rw [hla]
        have kc : ∀ q : Since y.w, q.w.cell? ⟨b, off + (n - 1), none⟩ = some (.int .i64 e.t0) := fun q => Since.cell hcl hlt2 q
        have hm1 : (0 : Int) < (n : Int) := by omega
        have hmm : (n : Int) - 1 = ((n - 1 : Nat) : Int) := by omega
        have hmr : (0 : Int) ≤ ((n - 1 : Nat) : Int) := by omega
        have hml : ((n - 1 : Nat) : Int) < (n : Int) := by omega
        have hn5 : n ≤ 200000 := by omega
        have Hlz := Lib.hid hlz
        have Hr1 := Lib.hid (fun h => Hpost.out (flatM r.pauses) n y hfl Hrow.out h)
        have Hr2 := Lib.hid (fun h => Hpost.out (flatM r.pauses).dropLast (n - 1) y (by rw [List.length_dropLast, hfl]) (by
          have hd : (flatM r.pauses).dropLast = (flatM r.pauses).take (n - 1) := by rw [List.dropLast_eq_take, hfl]
          rw [hd]
          intro i hi
          rw [List.length_take] at hi
          obtain ⟨b, off, ha, hb, hc⟩ := Hrow.out i (by omega)
          refine ⟨b, off, ha, hb, ?_⟩
          rw [hc]
          show some (Value.int .i64 (at0 _ i)) = some (.int .i64 (at0 _ i))
          unfold at0
          rw [List.getD_eq_getElem?_getD, List.getD_eq_getElem?_getD, List.getElem?_take, if_pos (by omega)]) h)
        clear he hlz hla hlt2 hcl hn hfl Hpost
        by_cases hc : op = true ∧ e.t0 = 0
        · obtain ⟨rfl, ht⟩ := hc
          have htb : (e.t0 == 0) = true := by simpa using ht
          have Hr := Lib.hid (Hr2.out (by rw [Hml.out, Hlz.out, decide_eq_true ht]; rfl))
          clear ht Hr1 Hr2
          go_wp2_with fail
          go_ret
          rw [← hq0.out]
          exact Hr.out
        · have Hr := Lib.hid (Hr1.out (by
            rw [Hml.out, Hlz.out]
            cases op
            · rfl
            · rw [decide_eq_false (fun h => hc ⟨rfl, h⟩)]; rfl))
          clear Hr1 Hr2
          have hcase : op = false ∨ (op = true ∧ (e.t0 == 0) = false) := by
            cases op
            · exact .inl rfl
            · exact .inr ⟨rfl, by simp; intro h; exact hc ⟨rfl, h⟩⟩
          clear hc
          rcases hcase with rfl | ⟨rfl, htb⟩
          all_goals
            go_wp2_with fail
            go_ret
            rw [← hq0.out]
            exact Hr.out
end Go.Proofs.Ytbkfcdheckkjaaa
