/- The walks of the reference's check of a ride, third part: the marks of the pauses. -/
import Derived.Test.YtefodfpnedcodaaIvMb
import Derived.Test.YtefodfpnedcodaaProg
import Derived.Shelf.Lay
import Derived.Shelf.SlGeneric
import Derived.Shelf.SlSortCmp.NoneTotal
import Derived.Shelf.SlicesQ.IndexFunc
import Derived.Ground.SlsfProg
import Derived.Ground.SlgfProg
import Derived.Deep.QuietTactic
import Derived.BigQuiet
set_option linter.all false
namespace Go.Proofs.Ytefodfpnedcodaa
open Go.RowKit

theorem sInts : SliceOf Try.prog 73 3 (.int .i64 0) 1 8 := SliceOf.mk' Try.underlying73 (by kernel_rfl) rfl (by decide)
/-- the beginnings and ends of pauses -/
def flatM (l : List Pse) : List Int := l.flatMap fun p => [p.f0, p.t0]
theorem flatM_len : ∀ l : List Pse, (flatM l).length = 2 * l.length
  | [] => rfl
  | p :: l => by
    have := flatM_len l
    simp only [flatM, List.flatMap_cons, List.length_append, List.length_cons, List.length_nil] at this ⊢
    omega
theorem flatM_next {l : List Pse} {k : Nat} {e : Pse} (h : l[k]? = some e) : flatM (l.take (k + 1)) = flatM (l.take k) ++ [e.f0, e.t0] := by
  rw [List.take_succ_eq_append_getElem (List.getElem?_eq_some_iff.1 h).1, (List.getElem?_eq_some_iff.1 h).2]
  simp [flatM]
/-- the last end is 0 -/
def lastZ (l : List Pse) : Bool := match l.getLast? with | some p => decide (p.t0 = 0) | none => false
def marksL (op : Bool) (l : List Pse) : List Int := if op && lastZ l then (flatM l).dropLast else flatM l
theorem marks_len (op : Bool) (l : List Pse) : (marksL op l).length ≤ 2 * l.length := by
  unfold marksL; split
  · rw [List.length_dropLast, flatM_len]; omega
  · rw [flatM_len]; omega
theorem flat_last {l : List Pse} {e : Pse} (h : l[l.length - 1]? = some e) (h0 : 0 < l.length) : at0 (flatM l) (2 * l.length - 1) = e.t0 := by
  have h1 := flatM_next h
  rw [show l.length - 1 + 1 = l.length by omega, List.take_length] at h1
  have h2 : (flatM (l.take (l.length - 1))).length = 2 * (l.length - 1) := by rw [flatM_len, List.length_take]; omega
  rw [h1]
  unfold at0
  rw [List.getD_eq_getElem?_getD, List.getElem?_append_right (by omega), h2, show 2 * l.length - 1 - 2 * (l.length - 1) = 1 by omega]
  rfl
theorem lastZ_at {l : List Pse} {e : Pse} (h : l[l.length - 1]? = some e) : lastZ l = decide (e.t0 = 0) := by
  unfold lastZ; rw [List.getLast?_eq_getElem?, h]
theorem row_cut {w : World} {a : Option Addr} {n m : Nat} {f : Nat → Value} (h : Row w a n f) (hm : m ≤ n) : Row w a m f := fun i hi => h i (by omega)
theorem ints_row {w : World} {a : Option Addr} {n : Nat} {l : List Int} (hn : l.length = n) (h : Row w a n fun i => (l.map (Value.int .i64)).getD i undef) : IntRow w a l := by
  subst hn
  intro i hi
  obtain ⟨b, off, ha, hlt, hc⟩ := h i hi
  exact ⟨b, off, ha, hlt, by rw [hc]; simp [at0, List.getD_eq_getElem?_getD, hi]⟩
def MarksPost (w : World) (l : List Int) (o : Ending) (w' : World) : Prop :=
  ∃ (a : Option Addr) (cap : Nat) (y : Since w), o = .returned (.slice a l.length cap) ∧ w' = y.w ∧ IntRow y.w a l
set_option maxRecDepth 100000 in
set_option maxHeartbeats 8000000 in
theorem marks_calls (w : World) (x : Since w) (r : Ride) (h : r.At w) (hp : r.pauses.length ≤ 100000) :
    Calls Try.prog 59 #[.agg #[.int .i64 r.id, .int .i64 r.rd, .int .i64 r.s0, .int .i64 r.s1, .int .i64 r.e0, .int .i64 r.e1, .bool r.op, .slice r.la r.legs.length r.lc, .slice r.pa r.pauses.length r.pc, .int .i64 r.fw, .int .i64 r.fp, .int .i64 r.wh, .int .i64 r.pl]] x.w (MarksPost w (marksL r.op r.pauses)) := by
  have HP := Lib.hid h.p
  clear h
  generalize r.pa = pa at HP ⊢
  generalize r.op = op at ⊢
  go_enter Try.func59, Try.ntmps59
  go_upto_region 1 with fail
  have hb0_0 : ∀ y : Since (x.w.alloc (.cells #[.int .i64 r.id, .int .i64 r.rd, .int .i64 r.s0, .int .i64 r.s1, .int .i64 r.e0, .int .i64 r.e1, .bool op, .slice r.la r.legs.length r.lc, .slice pa r.pauses.length r.pc, .int .i64 r.fw, .int .i64 r.fp, .int .i64 r.wh, .int .i64 r.pl] 27)), y.w.cell? ⟨x.w.heap.size, 0, none⟩ = some (.int .i64 r.id) := fun y => Since.cell (by simp [go_sem]) (by first | (simp; done) | (simp; omega)) y
  have hb0_1 : ∀ y : Since (x.w.alloc (.cells #[.int .i64 r.id, .int .i64 r.rd, .int .i64 r.s0, .int .i64 r.s1, .int .i64 r.e0, .int .i64 r.e1, .bool op, .slice r.la r.legs.length r.lc, .slice pa r.pauses.length r.pc, .int .i64 r.fw, .int .i64 r.fp, .int .i64 r.wh, .int .i64 r.pl] 27)), y.w.cell? ⟨x.w.heap.size, 1, none⟩ = some (.int .i64 r.rd) := fun y => Since.cell (by simp [go_sem]) (by first | (simp; done) | (simp; omega)) y
  have hb0_2 : ∀ y : Since (x.w.alloc (.cells #[.int .i64 r.id, .int .i64 r.rd, .int .i64 r.s0, .int .i64 r.s1, .int .i64 r.e0, .int .i64 r.e1, .bool op, .slice r.la r.legs.length r.lc, .slice pa r.pauses.length r.pc, .int .i64 r.fw, .int .i64 r.fp, .int .i64 r.wh, .int .i64 r.pl] 27)), y.w.cell? ⟨x.w.heap.size, 2, none⟩ = some (.int .i64 r.s0) := fun y => Since.cell (by simp [go_sem]) (by first | (simp; done) | (simp; omega)) y
  have hb0_3 : ∀ y : Since (x.w.alloc (.cells #[.int .i64 r.id, .int .i64 r.rd, .int .i64 r.s0, .int .i64 r.s1, .int .i64 r.e0, .int .i64 r.e1, .bool op, .slice r.la r.legs.length r.lc, .slice pa r.pauses.length r.pc, .int .i64 r.fw, .int .i64 r.fp, .int .i64 r.wh, .int .i64 r.pl] 27)), y.w.cell? ⟨x.w.heap.size, 3, none⟩ = some (.int .i64 r.s1) := fun y => Since.cell (by simp [go_sem]) (by first | (simp; done) | (simp; omega)) y
  have hb0_4 : ∀ y : Since (x.w.alloc (.cells #[.int .i64 r.id, .int .i64 r.rd, .int .i64 r.s0, .int .i64 r.s1, .int .i64 r.e0, .int .i64 r.e1, .bool op, .slice r.la r.legs.length r.lc, .slice pa r.pauses.length r.pc, .int .i64 r.fw, .int .i64 r.fp, .int .i64 r.wh, .int .i64 r.pl] 27)), y.w.cell? ⟨x.w.heap.size, 4, none⟩ = some (.int .i64 r.e0) := fun y => Since.cell (by simp [go_sem]) (by first | (simp; done) | (simp; omega)) y
  have hb0_5 : ∀ y : Since (x.w.alloc (.cells #[.int .i64 r.id, .int .i64 r.rd, .int .i64 r.s0, .int .i64 r.s1, .int .i64 r.e0, .int .i64 r.e1, .bool op, .slice r.la r.legs.length r.lc, .slice pa r.pauses.length r.pc, .int .i64 r.fw, .int .i64 r.fp, .int .i64 r.wh, .int .i64 r.pl] 27)), y.w.cell? ⟨x.w.heap.size, 5, none⟩ = some (.int .i64 r.e1) := fun y => Since.cell (by simp [go_sem]) (by first | (simp; done) | (simp; omega)) y
  have hb0_6 : ∀ y : Since (x.w.alloc (.cells #[.int .i64 r.id, .int .i64 r.rd, .int .i64 r.s0, .int .i64 r.s1, .int .i64 r.e0, .int .i64 r.e1, .bool op, .slice r.la r.legs.length r.lc, .slice pa r.pauses.length r.pc, .int .i64 r.fw, .int .i64 r.fp, .int .i64 r.wh, .int .i64 r.pl] 27)), y.w.cell? ⟨x.w.heap.size, 6, none⟩ = some (.bool op) := fun y => Since.cell (by simp [go_sem]) (by first | (simp; done) | (simp; omega)) y
  have hb0_7 : ∀ y : Since (x.w.alloc (.cells #[.int .i64 r.id, .int .i64 r.rd, .int .i64 r.s0, .int .i64 r.s1, .int .i64 r.e0, .int .i64 r.e1, .bool op, .slice r.la r.legs.length r.lc, .slice pa r.pauses.length r.pc, .int .i64 r.fw, .int .i64 r.fp, .int .i64 r.wh, .int .i64 r.pl] 27)), y.w.cell? ⟨x.w.heap.size, 7, none⟩ = some (.slice r.la r.legs.length r.lc) := fun y => Since.cell (by simp [go_sem]) (by first | (simp; done) | (simp; omega)) y
  have hb0_8 : ∀ y : Since (x.w.alloc (.cells #[.int .i64 r.id, .int .i64 r.rd, .int .i64 r.s0, .int .i64 r.s1, .int .i64 r.e0, .int .i64 r.e1, .bool op, .slice r.la r.legs.length r.lc, .slice pa r.pauses.length r.pc, .int .i64 r.fw, .int .i64 r.fp, .int .i64 r.wh, .int .i64 r.pl] 27)), y.w.cell? ⟨x.w.heap.size, 8, none⟩ = some (.slice pa r.pauses.length r.pc) := fun y => Since.cell (by simp [go_sem]) (by first | (simp; done) | (simp; omega)) y
  have hb0_9 : ∀ y : Since (x.w.alloc (.cells #[.int .i64 r.id, .int .i64 r.rd, .int .i64 r.s0, .int .i64 r.s1, .int .i64 r.e0, .int .i64 r.e1, .bool op, .slice r.la r.legs.length r.lc, .slice pa r.pauses.length r.pc, .int .i64 r.fw, .int .i64 r.fp, .int .i64 r.wh, .int .i64 r.pl] 27)), y.w.cell? ⟨x.w.heap.size, 9, none⟩ = some (.int .i64 r.fw) := fun y => Since.cell (by simp [go_sem]) (by first | (simp; done) | (simp; omega)) y
  have hb0_10 : ∀ y : Since (x.w.alloc (.cells #[.int .i64 r.id, .int .i64 r.rd, .int .i64 r.s0, .int .i64 r.s1, .int .i64 r.e0, .int .i64 r.e1, .bool op, .slice r.la r.legs.length r.lc, .slice pa r.pauses.length r.pc, .int .i64 r.fw, .int .i64 r.fp, .int .i64 r.wh, .int .i64 r.pl] 27)), y.w.cell? ⟨x.w.heap.size, 10, none⟩ = some (.int .i64 r.fp) := fun y => Since.cell (by simp [go_sem]) (by first | (simp; done) | (simp; omega)) y
  have hb0_11 : ∀ y : Since (x.w.alloc (.cells #[.int .i64 r.id, .int .i64 r.rd, .int .i64 r.s0, .int .i64 r.s1, .int .i64 r.e0, .int .i64 r.e1, .bool op, .slice r.la r.legs.length r.lc, .slice pa r.pauses.length r.pc, .int .i64 r.fw, .int .i64 r.fp, .int .i64 r.wh, .int .i64 r.pl] 27)), y.w.cell? ⟨x.w.heap.size, 11, none⟩ = some (.int .i64 r.wh) := fun y => Since.cell (by simp [go_sem]) (by first | (simp; done) | (simp; omega)) y
  have hb0_12 : ∀ y : Since (x.w.alloc (.cells #[.int .i64 r.id, .int .i64 r.rd, .int .i64 r.s0, .int .i64 r.s1, .int .i64 r.e0, .int .i64 r.e1, .bool op, .slice r.la r.legs.length r.lc, .slice pa r.pauses.length r.pc, .int .i64 r.fw, .int .i64 r.fp, .int .i64 r.wh, .int .i64 r.pl] 27)), y.w.cell? ⟨x.w.heap.size, 12, none⟩ = some (.int .i64 r.pl) := fun y => Since.cell (by simp [go_sem]) (by first | (simp; done) | (simp; omega)) y
  have hf0 : ∀ (y : Since (x.w.alloc (.cells #[.int .i64 r.id, .int .i64 r.rd, .int .i64 r.s0, .int .i64 r.s1, .int .i64 r.e0, .int .i64 r.e1, .bool op, .slice r.la r.legs.length r.lc, .slice pa r.pauses.length r.pc, .int .i64 r.fw, .int .i64 r.fp, .int .i64 r.wh, .int .i64 r.pl] 27))) (o : Nat), y.w.frozen? ⟨x.w.heap.size, o, none⟩ = false := fun y o => Since.free (by simp [go_sem]) (by first | (simp; done) | (simp; omega)) y
  have hWup : ∃ z : Since w, (x.w.alloc (.cells #[.int .i64 r.id, .int .i64 r.rd, .int .i64 r.s0, .int .i64 r.s1, .int .i64 r.e0, .int .i64 r.e1, .bool op, .slice r.la r.legs.length r.lc, .slice pa r.pauses.length r.pc, .int .i64 r.fw, .int .i64 r.fp, .int .i64 r.wh, .int .i64 r.pl] 27)) = z.w := x.alloc _
  obtain ⟨y0, hy0⟩ := Since.refl (x.w.alloc (.cells #[.int .i64 r.id, .int .i64 r.rd, .int .i64 r.s0, .int .i64 r.s1, .int .i64 r.e0, .int .i64 r.e1, .bool op, .slice r.la r.legs.length r.lc, .slice pa r.pauses.length r.pc, .int .i64 r.fw, .int .i64 r.fp, .int .i64 r.wh, .int .i64 r.pl] 27))
  have Hbx := Lib.hid (And.intro x.b.size (show x.w.heap.size + 1 = (x.w.alloc (.cells #[.int .i64 r.id, .int .i64 r.rd, .int .i64 r.s0, .int .i64 r.s1, .int .i64 r.e0, .int .i64 r.e1, .bool op, .slice r.la r.legs.length r.lc, .slice pa r.pauses.length r.pc, .int .i64 r.fw, .int .i64 r.fp, .int .i64 r.wh, .int .i64 r.pl] 27)).heap.size from by simp))
  generalize hW : (x.w.alloc (.cells #[.int .i64 r.id, .int .i64 r.rd, .int .i64 r.s0, .int .i64 r.s1, .int .i64 r.e0, .int .i64 r.e1, .bool op, .slice r.la r.legs.length r.lc, .slice pa r.pauses.length r.pc, .int .i64 r.fw, .int .i64 r.fp, .int .i64 r.wh, .int .i64 r.pl] 27)) = W at *
  clear hW
  generalize x.w.heap.size = bx at *
  have Hup := Lib.hid (Since.up hWup)
  rw [hy0]
  clear hy0
  replace HP := Lib.hid (HP.out.to hWup)
  clear hWup
  go_wp2_with fail
  go_loopw [3, 4] (fun s i wr => ∃ (k : Nat) (y : Since W) (v : Value), k ≤ r.pauses.length ∧ i = .int .i64 k ∧ v = s ∧ wr = y.w ∧ y.w.ownsRow W.heap.size 3 1 v (2 * k) ((flatM (r.pauses.take k)).map (Value.int .i64))) (fun _ i _ => r.pauses.length - (intOf i).toNat)
  case atStart => exact ⟨0, _, _, by omega, rfl, rfl, rfl, ⟨rfl, .inl ⟨rfl, rfl⟩⟩⟩
  case round =>
    obtain ⟨k, y, v, hk, rfl, rfl, rfl, hown⟩ := hrel
    have Hown := Lib.hid hown; clear hown
    by_cases hlt : k < r.pauses.length
    · obtain ⟨e, he⟩ : ∃ e, r.pauses[k]? = some e := ⟨_, List.getElem?_eq_getElem hlt⟩
      obtain ⟨b1, off1, rfl, h1'⟩ := Els.pse HP.out he
      have pb0 := h1'.c0
      have pb1 := h1'.c1
      have pb2 := h1'.c2
      have pb3 := h1'.c3
      have Hnext := Lib.hid (flatM_next he)
      have hk0 : (0 : Int) ≤ (k : Int) := by omega
      have hkl : (k : Int) < (r.pauses.length : Int) := by omega
      clear h1' he
      replace hb0_0 := Since.cellTo ⟨y, rfl⟩ hb0_0
      replace hb0_1 := Since.cellTo ⟨y, rfl⟩ hb0_1
      replace hb0_2 := Since.cellTo ⟨y, rfl⟩ hb0_2
      replace hb0_3 := Since.cellTo ⟨y, rfl⟩ hb0_3
      replace hb0_4 := Since.cellTo ⟨y, rfl⟩ hb0_4
      replace hb0_5 := Since.cellTo ⟨y, rfl⟩ hb0_5
      replace hb0_6 := Since.cellTo ⟨y, rfl⟩ hb0_6
      replace hb0_7 := Since.cellTo ⟨y, rfl⟩ hb0_7
      replace hb0_8 := Since.cellTo ⟨y, rfl⟩ hb0_8
      replace hb0_9 := Since.cellTo ⟨y, rfl⟩ hb0_9
      replace hb0_10 := Since.cellTo ⟨y, rfl⟩ hb0_10
      replace hb0_11 := Since.cellTo ⟨y, rfl⟩ hb0_11
      replace hb0_12 := Since.cellTo ⟨y, rfl⟩ hb0_12
      replace pb0 := Since.cellTo ⟨y, rfl⟩ pb0
      replace pb2 := Since.cellTo ⟨y, rfl⟩ pb2
      clear pb1 pb3
      obtain ⟨q0, hq0⟩ := Since.refl y.w
      rw [hq0]
      clear hq0
      go_upto_region 5 with fail
      refine wp_region_tail (fun w' => ∃ q : Since (y.w), w' = q.w) [0] [1, 2, 3, 4, 5, 6, 7, 8, 9, 10, 11, 12, 13, 14] 15 (by kernel_rfl) (by kernel_rfl) (fun _ _ _ _ _ h => h) (q0.drew) ?_
      simp only [List.cons_append, List.nil_append, picks_cons, picks_nil, List.getD_cons_zero, List.getD_cons_succ]
      repeat (go_big_quiet_step (fail))
      refine wpQuiet_nil ?_
      rintro _ ⟨q, rfl⟩
      simp only [List.drop_succ_cons, List.drop_zero]
      have hown1 := own_since (own_since Hown.out q.b) (below_new q.w (.cells #[.int .i64 e.f0, .int .i64 e.t0] 3))
      have Hown1 := Lib.hid hown1; clear hown1
      go_wp2_with (at_builtin; go_loud (refine wpList_appendK (k := 1) (w0 := W) ?hw rfl _ _ 73 rfl W.heap.size (Nat.le_refl _) ?hb 3 (.int .i64 0) 8 sInts v (2 * k) ((flatM (r.pauses.take k)).map (Value.int .i64)) rfl Hown1.out ⟨q.w.heap.size, 0, none⟩ 2 2 [.int .i64 e.f0, .int .i64 e.t0] rfl rfl ?hc ?h1 ?h63 ?hbytes ?_; rotate_right 1; intro v2 q2 hown2 _ hg2))
      case hw => obtain ⟨z, e⟩ := y.trans q; rw [e]; exact z.alloc _
      case hb => have := y.b.size; have := q.b.size; simp; omega
      case hc => exact fun j u hu => cell_new_at q.w [.int .i64 e.f0, .int .i64 e.t0] _ j u hu
      case h1 => intro u hu; simp at hu; rcases hu with rfl | rfl <;> rfl
      case h63 => unfold maxLen; omega
      case hbytes => omega
      have Hown2 := Lib.hid hown2; clear hown2 hg2
      go_roundw
      case rel => exact ⟨k + 1, q2, v2, by omega, by go_num, rfl, rfl, by rw [Hnext.out, List.map_append]; exact Hown2.out⟩
      case measure => simp [intOf] <;> omega
    · obtain rfl : k = r.pauses.length := by omega
      rw [List.take_length] at Hown
      obtain ⟨a, cap, rfl, hcap, hrow, -⟩ := own_row Hown.out
      have Hrow := Lib.hid (ints_row (flatM_len r.pauses) hrow)
      have hfl := flatM_len r.pauses
      clear Hown hrow
      have Hpost := Lib.hid (fun (l : List Int) (n : Nat) (z : Since W) (h1 : l.length = n) (h2 : IntRow z.w a l) (h3 : marksL op r.pauses = l) => show MarksPost w (marksL op r.pauses) (.returned (.slice a n cap)) z.w by
        obtain ⟨z', e⟩ := Hup.out z
        subst h1
        exact ⟨a, cap, z', by rw [h3], e, by rw [h3, ← e]; exact h2⟩)
      have hml : marksL op r.pauses = if op && lastZ r.pauses then (flatM r.pauses).dropLast else flatM r.pauses := rfl
      have Hml := Lib.hid hml; clear hml
      generalize hn : 2 * r.pauses.length = n at *
      have Hn := Lib.hid hn
      have Hfl := Lib.hid hfl
      obtain ⟨q0, hq0⟩ := Since.refl y.w
      rw [hq0]
      replace hq0 := Lib.hid hq0
      replace hb0_0 := Since.cellTo ⟨y, rfl⟩ hb0_0
      replace hb0_1 := Since.cellTo ⟨y, rfl⟩ hb0_1
      replace hb0_2 := Since.cellTo ⟨y, rfl⟩ hb0_2
      replace hb0_3 := Since.cellTo ⟨y, rfl⟩ hb0_3
      replace hb0_4 := Since.cellTo ⟨y, rfl⟩ hb0_4
      replace hb0_5 := Since.cellTo ⟨y, rfl⟩ hb0_5
      replace hb0_6 := Since.cellTo ⟨y, rfl⟩ hb0_6
      replace hb0_7 := Since.cellTo ⟨y, rfl⟩ hb0_7
      replace hb0_8 := Since.cellTo ⟨y, rfl⟩ hb0_8
      replace hb0_9 := Since.cellTo ⟨y, rfl⟩ hb0_9
      replace hb0_10 := Since.cellTo ⟨y, rfl⟩ hb0_10
      replace hb0_11 := Since.cellTo ⟨y, rfl⟩ hb0_11
      replace hb0_12 := Since.cellTo ⟨y, rfl⟩ hb0_12
      rcases (by omega : n ≤ 0 ∨ 0 < n) with h0 | h0
      · have Hr := Lib.hid (Hpost.out (flatM r.pauses) n y hfl Hrow.out (by
          rw [Hml.out]
          have : r.pauses = [] := List.eq_nil_of_length_eq_zero (by omega)
          rw [this]; simp [flatM]))
        clear hn hfl
        go_wp2_with fail
        go_ret
        rw [← hq0.out]
        exact Hr.out
      · obtain ⟨e, he⟩ : ∃ e, r.pauses[r.pauses.length - 1]? = some e := ⟨_, List.getElem?_eq_getElem (by omega)⟩
        have hlz := lastZ_at he
        have hla := flat_last he (by omega)
        rw [hn] at hla
        obtain ⟨b, off, rfl, hlt2, hcl⟩ := Hrow.out (n - 1) (by omega)
        replace hcl : y.w.cell? ⟨b, off + (n - 1), none⟩ = some (.int .i64 e.t0) := by rw [hcl]; show some (Value.int .i64 (at0 _ _)) = _; rw [hla]
        have kc : ∀ q : Since y.w, q.w.cell? ⟨b, off + (n - 1), none⟩ = some (.int .i64 e.t0) := fun q => Since.cell hcl hlt2 q
        have hm1 : (0 : Int) < (n : Int) := by omega
        have hmm : (n : Int) - 1 = ((n - 1 : Nat) : Int) := by omega
        have hmr : (0 : Int) ≤ ((n - 1 : Nat) : Int) := by omega
        have hml : ((n - 1 : Nat) : Int) < (n : Int) := by omega
        have hn5 : n ≤ 200000 := by omega
        have Hlz := Lib.hid hlz
        have Hr1 := Lib.hid (fun h => Hpost.out (flatM r.pauses) n y hfl Hrow.out h)
        have Hr2 := Lib.hid (fun h => Hpost.out (flatM r.pauses).dropLast (n - 1) y (by rw [List.length_dropLast, hfl]) (by
          have hd : (flatM r.pauses).dropLast = (flatM r.pauses).take (n - 1) := by rw [List.dropLast_eq_take, hfl]
          rw [hd]
          intro i hi
          rw [List.length_take] at hi
          obtain ⟨b, off, ha, hb, hc⟩ := Hrow.out i (by omega)
          refine ⟨b, off, ha, hb, ?_⟩
          rw [hc]
          show some (Value.int .i64 (at0 _ i)) = some (.int .i64 (at0 _ i))
          unfold at0
          rw [List.getD_eq_getElem?_getD, List.getD_eq_getElem?_getD, List.getElem?_take, if_pos (by omega)]) h)
        clear he hlz hla hlt2 hcl hn hfl Hpost
        by_cases hc : op = true ∧ e.t0 = 0
        · obtain ⟨rfl, ht⟩ := hc
          have htb : (e.t0 == 0) = true := by simpa using ht
          have Hr := Lib.hid (Hr2.out (by rw [Hml.out, Hlz.out, decide_eq_true ht]; rfl))
          clear ht Hr1 Hr2
          go_wp2_with fail
          go_ret
          rw [← hq0.out]
          exact Hr.out
        · have Hr := Lib.hid (Hr1.out (by
            rw [Hml.out, Hlz.out]
            cases op
            · rfl
            · rw [decide_eq_false (fun h => hc ⟨rfl, h⟩)]; rfl))
          clear Hr1 Hr2
          have hcase : op = false ∨ (op = true ∧ (e.t0 == 0) = false) := by
            cases op
            · exact .inl rfl
            · exact .inr ⟨rfl, by simp; intro h; exact hc ⟨rfl, h⟩⟩
          clear hc
          rcases hcase with rfl | ⟨rfl, htb⟩
          all_goals
            go_wp2_with fail
            go_ret
            rw [← hq0.out]
            exact Hr.out
end Go.Proofs.Ytefodfpnedcodaa
/- The walks of the reference's check of a ride, fourth part: the ends are in order. -/
namespace Go.Proofs.Ytefodfpnedcodaa
open Go.RowKit

/-- mark i is in order -/
def markB (op : Bool) (s0 e0 : Int) (l : List Int) (i : Nat) : Bool :=
  (if i = 0 then decide (s0 ≤ at0 l 0) else decide (at0 l (i - 1) ≤ at0 l i)) && (op || decide (at0 l i ≤ e0))
def monoL (op : Bool) (e : Int) : Int → List Int → Bool
  | _, [] => true
  | last, x :: l => decide (last ≤ x) && (op || decide (x ≤ e)) && monoL op e x l
theorem monoL_all (op : Bool) (e : Int) : ∀ (l : List Int) (a : Int), monoL op e a l = true ↔ ∀ i, i < l.length → markB op a e l i = true
  | [], a => by simp [monoL]
  | x :: l, a => by
    rw [monoL, Bool.and_eq_true, monoL_all op e l x]
    constructor
    · rintro ⟨h1, h2⟩ i hi
      cases i with
      | zero => unfold markB; simpa [at0] using h1
      | succ i =>
        have := h2 i (by simpa using hi)
        unfold markB at this ⊢
        cases i with
        | zero => simpa [at0] using this
        | succ i => simpa [at0] using this
    · intro h
      refine ⟨by have := h 0 (by simp); unfold markB at this; simpa [at0] using this, fun i hi => ?_⟩
      have := h (i + 1) (by simpa using hi)
      unfold markB at this ⊢
      cases i with
      | zero => simpa [at0] using this
      | succ i => simpa [at0] using this
theorem marks_cons {op : Bool} {p q : Pse} {l : List Pse} : marksL op (p :: q :: l) = p.f0 :: p.t0 :: marksL op (q :: l) := by
  unfold marksL
  have h1 : lastZ (p :: q :: l) = lastZ (q :: l) := by unfold lastZ; rw [List.getLast?_cons_cons]
  rw [h1]
  split
  · have : (flatM (q :: l)) ≠ [] := by simp [flatM]
    show (p.f0 :: p.t0 :: flatM (q :: l)).dropLast = _
    rw [List.dropLast_cons_of_ne_nil (by simp), List.dropLast_cons_of_ne_nil this]
  · rfl
theorem marks_one (op : Bool) (p : Pse) : marksL op [p] = if op && decide (p.t0 = 0) then [p.f0] else [p.f0, p.t0] := by
  unfold marksL lastZ
  simp [flatM]
theorem pses_last : ∀ (l : List Pse) (a e : Int), psesO false e a l = true → a ≤ e
  | [], a, e, h => by simpa [psesO] using h
  | p :: l, a, e, h => by
    simp only [psesO, Bool.false_and, Bool.false_or, Bool.and_eq_true, decide_eq_true_eq] at h
    have := pses_last l p.t0 e h.2.2
    omega
/-- the two ways to say that the pauses are in order -/
theorem mono_pses (op : Bool) (e : Int) : ∀ (l : List Pse) (a : Int), l ≠ [] → monoL op e a (marksL op l) = psesO op e a l
  | [], _, h => (h rfl).elim
  | [p], a, _ => by
    rw [marks_one]
    cases op
    · simp only [Bool.false_and, Bool.false_eq_true, if_false, monoL, psesO, Bool.false_or, Bool.and_true]
      rw [Bool.eq_iff_iff]
      simp only [Bool.and_eq_true, decide_eq_true_eq]
      omega
    · by_cases h : p.t0 = 0
      · simp [monoL, psesO, h]
      · simp [monoL, psesO, h]
  | p :: q :: l, a, _ => by
    rw [marks_cons]
    have ih := mono_pses op e (q :: l) p.t0 (by simp)
    show (decide (a ≤ p.f0) && (op || decide (p.f0 ≤ e)) && (decide (p.f0 ≤ p.t0) && (op || decide (p.t0 ≤ e)) && monoL op e p.t0 (marksL op (q :: l)))) = (decide (a ≤ p.f0) && ((op && (q :: l).isEmpty && decide (p.t0 = 0)) || (decide (p.f0 ≤ p.t0) && psesO op e p.t0 (q :: l))))
    rw [ih]
    cases op
    · rw [Bool.eq_iff_iff]
      simp only [Bool.false_and, Bool.false_or, Bool.and_eq_true, decide_eq_true_eq]
      constructor
      · rintro ⟨⟨h1, h2⟩, ⟨h3, h4⟩, h5⟩; exact ⟨h1, h3, h5⟩
      · rintro ⟨h1, h3, h5⟩
        have := pses_last _ _ _ h5
        exact ⟨⟨h1, by omega⟩, ⟨h3, by omega⟩, h5⟩
    · simp
theorem marks_empty (op : Bool) : marksL op [] = [] := by unfold marksL; split <;> rfl
theorem ordered_iff (r : Ride) : orderedB r = true ↔ legsO r.op r.legs = true ∧ ∀ i, i < (marksL r.op r.pauses).length → markB r.op r.s0 r.e0 (marksL r.op r.pauses) i = true := by
  unfold orderedB
  rw [Bool.and_eq_true, ← monoL_all]
  cases h : r.pauses with
  | nil => simp [marks_empty, monoL]
  | cons p l => rw [mono_pses _ _ _ _ (by simp)]; simp
/-- the end of leg i is in order -/
def legB (op : Bool) (l : List Leg) (i : Nat) : Bool := match l[i]? with | some x => decide (x.f0 ≤ x.t0) || (op && decide (i + 1 = l.length)) | none => true
theorem legsO_all (op : Bool) : ∀ l : List Leg, legsO op l = true ↔ ∀ i, i < l.length → legB op l i = true
  | [] => by simp [legsO]
  | x :: l => by
    rw [legsO, Bool.and_eq_true, legsO_all op l]
    have he : l.isEmpty = decide (0 + 1 = (x :: l).length) := by rw [Bool.eq_iff_iff]; simp
    constructor
    · rintro ⟨h1, h2⟩ i hi
      cases i with
      | zero => unfold legB; rw [he] at h1; simpa using h1
      | succ i => have := h2 i (by simpa using hi); unfold legB at this ⊢; simpa using this
    · intro h
      refine ⟨by have := h 0 (by simp); unfold legB at this; rw [he]; simpa using this, fun i hi => ?_⟩
      have := h (i + 1) (by simpa using hi)
      unfold legB at this ⊢; simpa using this
end Go.Proofs.Ytefodfpnedcodaa
/- The walks of the reference's check of a ride, fifth part: the ends are in order (the walk). -/
namespace Go.Proofs.Ytefodfpnedcodaa
open Go.RowKit

set_option maxRecDepth 100000 in
set_option maxHeartbeats 8000000 in
theorem rordered_calls (w : World) (x : Since w) (r : Ride) (h : r.At w) (hp : r.pauses.length ≤ 100000) :
    Calls Try.prog 51 #[.agg #[.int .i64 r.id, .int .i64 r.rd, .int .i64 r.s0, .int .i64 r.s1, .int .i64 r.e0, .int .i64 r.e1, .bool r.op, .slice r.la r.legs.length r.lc, .slice r.pa r.pauses.length r.pc, .int .i64 r.fw, .int .i64 r.fp, .int .i64 r.wh, .int .i64 r.pl]] x.w fun o w' => o = .returned (.bool (orderedB r)) ∧ ∃ y : Since w, w' = y.w := by
  have HL := Lib.hid h.l
  have hlm := h.lm
  have hpm := h.pm
  have HA := Lib.hid h
  have HO := Lib.hid (ordered_iff r)
  have HG := Lib.hid (legsO_all r.op r.legs)
  have hmlen := marks_len r.op r.pauses
  have Hmk := Lib.hid (fun (W : World) (h : r.At W) (y : Since W) => marks_calls W y r h hp)
  clear h
  generalize marksL r.op r.pauses = M at *
  unfold MarksPost at Hmk
  generalize r.la = la at HL Hmk ⊢
  generalize r.op = op at HO HG Hmk ⊢
  go_enter Try.func51, Try.ntmps51
  go_upto_region 1 with fail
  have hb0_0 : ∀ y : Since (x.w.alloc (.cells #[.int .i64 r.id, .int .i64 r.rd, .int .i64 r.s0, .int .i64 r.s1, .int .i64 r.e0, .int .i64 r.e1, .bool op, .slice la r.legs.length r.lc, .slice r.pa r.pauses.length r.pc, .int .i64 r.fw, .int .i64 r.fp, .int .i64 r.wh, .int .i64 r.pl] 27)), y.w.cell? ⟨x.w.heap.size, 0, none⟩ = some (.int .i64 r.id) := fun y => Since.cell (by simp [go_sem]) (by first | (simp; done) | (simp; omega)) y
  have hb0_1 : ∀ y : Since (x.w.alloc (.cells #[.int .i64 r.id, .int .i64 r.rd, .int .i64 r.s0, .int .i64 r.s1, .int .i64 r.e0, .int .i64 r.e1, .bool op, .slice la r.legs.length r.lc, .slice r.pa r.pauses.length r.pc, .int .i64 r.fw, .int .i64 r.fp, .int .i64 r.wh, .int .i64 r.pl] 27)), y.w.cell? ⟨x.w.heap.size, 1, none⟩ = some (.int .i64 r.rd) := fun y => Since.cell (by simp [go_sem]) (by first | (simp; done) | (simp; omega)) y
  have hb0_2 : ∀ y : Since (x.w.alloc (.cells #[.int .i64 r.id, .int .i64 r.rd, .int .i64 r.s0, .int .i64 r.s1, .int .i64 r.e0, .int .i64 r.e1, .bool op, .slice la r.legs.length r.lc, .slice r.pa r.pauses.length r.pc, .int .i64 r.fw, .int .i64 r.fp, .int .i64 r.wh, .int .i64 r.pl] 27)), y.w.cell? ⟨x.w.heap.size, 2, none⟩ = some (.int .i64 r.s0) := fun y => Since.cell (by simp [go_sem]) (by first | (simp; done) | (simp; omega)) y
  have hb0_3 : ∀ y : Since (x.w.alloc (.cells #[.int .i64 r.id, .int .i64 r.rd, .int .i64 r.s0, .int .i64 r.s1, .int .i64 r.e0, .int .i64 r.e1, .bool op, .slice la r.legs.length r.lc, .slice r.pa r.pauses.length r.pc, .int .i64 r.fw, .int .i64 r.fp, .int .i64 r.wh, .int .i64 r.pl] 27)), y.w.cell? ⟨x.w.heap.size, 3, none⟩ = some (.int .i64 r.s1) := fun y => Since.cell (by simp [go_sem]) (by first | (simp; done) | (simp; omega)) y
  have hb0_4 : ∀ y : Since (x.w.alloc (.cells #[.int .i64 r.id, .int .i64 r.rd, .int .i64 r.s0, .int .i64 r.s1, .int .i64 r.e0, .int .i64 r.e1, .bool op, .slice la r.legs.length r.lc, .slice r.pa r.pauses.length r.pc, .int .i64 r.fw, .int .i64 r.fp, .int .i64 r.wh, .int .i64 r.pl] 27)), y.w.cell? ⟨x.w.heap.size, 4, none⟩ = some (.int .i64 r.e0) := fun y => Since.cell (by simp [go_sem]) (by first | (simp; done) | (simp; omega)) y
  have hb0_5 : ∀ y : Since (x.w.alloc (.cells #[.int .i64 r.id, .int .i64 r.rd, .int .i64 r.s0, .int .i64 r.s1, .int .i64 r.e0, .int .i64 r.e1, .bool op, .slice la r.legs.length r.lc, .slice r.pa r.pauses.length r.pc, .int .i64 r.fw, .int .i64 r.fp, .int .i64 r.wh, .int .i64 r.pl] 27)), y.w.cell? ⟨x.w.heap.size, 5, none⟩ = some (.int .i64 r.e1) := fun y => Since.cell (by simp [go_sem]) (by first | (simp; done) | (simp; omega)) y
  have hb0_6 : ∀ y : Since (x.w.alloc (.cells #[.int .i64 r.id, .int .i64 r.rd, .int .i64 r.s0, .int .i64 r.s1, .int .i64 r.e0, .int .i64 r.e1, .bool op, .slice la r.legs.length r.lc, .slice r.pa r.pauses.length r.pc, .int .i64 r.fw, .int .i64 r.fp, .int .i64 r.wh, .int .i64 r.pl] 27)), y.w.cell? ⟨x.w.heap.size, 6, none⟩ = some (.bool op) := fun y => Since.cell (by simp [go_sem]) (by first | (simp; done) | (simp; omega)) y
  have hb0_7 : ∀ y : Since (x.w.alloc (.cells #[.int .i64 r.id, .int .i64 r.rd, .int .i64 r.s0, .int .i64 r.s1, .int .i64 r.e0, .int .i64 r.e1, .bool op, .slice la r.legs.length r.lc, .slice r.pa r.pauses.length r.pc, .int .i64 r.fw, .int .i64 r.fp, .int .i64 r.wh, .int .i64 r.pl] 27)), y.w.cell? ⟨x.w.heap.size, 7, none⟩ = some (.slice la r.legs.length r.lc) := fun y => Since.cell (by simp [go_sem]) (by first | (simp; done) | (simp; omega)) y
  have hb0_8 : ∀ y : Since (x.w.alloc (.cells #[.int .i64 r.id, .int .i64 r.rd, .int .i64 r.s0, .int .i64 r.s1, .int .i64 r.e0, .int .i64 r.e1, .bool op, .slice la r.legs.length r.lc, .slice r.pa r.pauses.length r.pc, .int .i64 r.fw, .int .i64 r.fp, .int .i64 r.wh, .int .i64 r.pl] 27)), y.w.cell? ⟨x.w.heap.size, 8, none⟩ = some (.slice r.pa r.pauses.length r.pc) := fun y => Since.cell (by simp [go_sem]) (by first | (simp; done) | (simp; omega)) y
  have hb0_9 : ∀ y : Since (x.w.alloc (.cells #[.int .i64 r.id, .int .i64 r.rd, .int .i64 r.s0, .int .i64 r.s1, .int .i64 r.e0, .int .i64 r.e1, .bool op, .slice la r.legs.length r.lc, .slice r.pa r.pauses.length r.pc, .int .i64 r.fw, .int .i64 r.fp, .int .i64 r.wh, .int .i64 r.pl] 27)), y.w.cell? ⟨x.w.heap.size, 9, none⟩ = some (.int .i64 r.fw) := fun y => Since.cell (by simp [go_sem]) (by first | (simp; done) | (simp; omega)) y
  have hb0_10 : ∀ y : Since (x.w.alloc (.cells #[.int .i64 r.id, .int .i64 r.rd, .int .i64 r.s0, .int .i64 r.s1, .int .i64 r.e0, .int .i64 r.e1, .bool op, .slice la r.legs.length r.lc, .slice r.pa r.pauses.length r.pc, .int .i64 r.fw, .int .i64 r.fp, .int .i64 r.wh, .int .i64 r.pl] 27)), y.w.cell? ⟨x.w.heap.size, 10, none⟩ = some (.int .i64 r.fp) := fun y => Since.cell (by simp [go_sem]) (by first | (simp; done) | (simp; omega)) y
  have hb0_11 : ∀ y : Since (x.w.alloc (.cells #[.int .i64 r.id, .int .i64 r.rd, .int .i64 r.s0, .int .i64 r.s1, .int .i64 r.e0, .int .i64 r.e1, .bool op, .slice la r.legs.length r.lc, .slice r.pa r.pauses.length r.pc, .int .i64 r.fw, .int .i64 r.fp, .int .i64 r.wh, .int .i64 r.pl] 27)), y.w.cell? ⟨x.w.heap.size, 11, none⟩ = some (.int .i64 r.wh) := fun y => Since.cell (by simp [go_sem]) (by first | (simp; done) | (simp; omega)) y
  have hb0_12 : ∀ y : Since (x.w.alloc (.cells #[.int .i64 r.id, .int .i64 r.rd, .int .i64 r.s0, .int .i64 r.s1, .int .i64 r.e0, .int .i64 r.e1, .bool op, .slice la r.legs.length r.lc, .slice r.pa r.pauses.length r.pc, .int .i64 r.fw, .int .i64 r.fp, .int .i64 r.wh, .int .i64 r.pl] 27)), y.w.cell? ⟨x.w.heap.size, 12, none⟩ = some (.int .i64 r.pl) := fun y => Since.cell (by simp [go_sem]) (by first | (simp; done) | (simp; omega)) y
  have hf0 : ∀ (y : Since (x.w.alloc (.cells #[.int .i64 r.id, .int .i64 r.rd, .int .i64 r.s0, .int .i64 r.s1, .int .i64 r.e0, .int .i64 r.e1, .bool op, .slice la r.legs.length r.lc, .slice r.pa r.pauses.length r.pc, .int .i64 r.fw, .int .i64 r.fp, .int .i64 r.wh, .int .i64 r.pl] 27))) (o : Nat), y.w.frozen? ⟨x.w.heap.size, o, none⟩ = false := fun y o => Since.free (by simp [go_sem]) (by first | (simp; done) | (simp; omega)) y
  have hWup : ∃ z : Since w, (x.w.alloc (.cells #[.int .i64 r.id, .int .i64 r.rd, .int .i64 r.s0, .int .i64 r.s1, .int .i64 r.e0, .int .i64 r.e1, .bool op, .slice la r.legs.length r.lc, .slice r.pa r.pauses.length r.pc, .int .i64 r.fw, .int .i64 r.fp, .int .i64 r.wh, .int .i64 r.pl] 27)) = z.w := x.alloc _
  obtain ⟨y0, hy0⟩ := Since.refl (x.w.alloc (.cells #[.int .i64 r.id, .int .i64 r.rd, .int .i64 r.s0, .int .i64 r.s1, .int .i64 r.e0, .int .i64 r.e1, .bool op, .slice la r.legs.length r.lc, .slice r.pa r.pauses.length r.pc, .int .i64 r.fw, .int .i64 r.fp, .int .i64 r.wh, .int .i64 r.pl] 27))
  have Hbx := Lib.hid (And.intro x.b.size (show x.w.heap.size + 1 = (x.w.alloc (.cells #[.int .i64 r.id, .int .i64 r.rd, .int .i64 r.s0, .int .i64 r.s1, .int .i64 r.e0, .int .i64 r.e1, .bool op, .slice la r.legs.length r.lc, .slice r.pa r.pauses.length r.pc, .int .i64 r.fw, .int .i64 r.fp, .int .i64 r.wh, .int .i64 r.pl] 27)).heap.size from by simp))
  generalize hW : (x.w.alloc (.cells #[.int .i64 r.id, .int .i64 r.rd, .int .i64 r.s0, .int .i64 r.s1, .int .i64 r.e0, .int .i64 r.e1, .bool op, .slice la r.legs.length r.lc, .slice r.pa r.pauses.length r.pc, .int .i64 r.fw, .int .i64 r.fp, .int .i64 r.wh, .int .i64 r.pl] 27)) = W at *
  clear hW
  generalize x.w.heap.size = bx at *
  have Hup := Lib.hid (Since.up hWup)
  rw [hy0]
  clear hy0
  replace HL := Lib.hid (HL.out.to hWup); replace HA := Lib.hid (HA.out.to hWup)
  replace Hmk := Lib.hid (Hmk.out W HA.out)
  clear hWup
  go_wp2_with fail
  go_loopw [3] (fun i wr => ∃ (k : Nat) (y : Since W), k ≤ r.legs.length ∧ i = .int .i64 k ∧ wr = y.w ∧ ∀ i, i < k → legB op r.legs i = true) (fun i _ => r.legs.length - (intOf i).toNat)
  case atStart => exact ⟨0, _, by omega, rfl, rfl, fun i hi => by omega⟩
  case round =>
    obtain ⟨k, y, hk, rfl, rfl, hok⟩ := hrel
    have Hok := Lib.hid hok; clear hok
    by_cases hlt : k < r.legs.length
    · obtain ⟨e, he⟩ : ∃ e, r.legs[k]? = some e := ⟨_, List.getElem?_eq_getElem hlt⟩
      obtain ⟨b1, off1, rfl, h1'⟩ := Els.leg HL.out he
      have pa0 := h1'.c0
      have pa1 := h1'.c1
      have pa2 := h1'.c2
      have pa3 := h1'.c3
      have pa4 := h1'.c4
      have Hlb := Lib.hid (show legB op r.legs k = (decide (e.f0 ≤ e.t0) || (op && decide (k + 1 = r.legs.length))) by unfold legB; rw [he])
      have hk0 : (0 : Int) ≤ (k : Int) := by omega
      have hkl : (k : Int) < (r.legs.length : Int) := by omega
      clear h1' he
      have hcase : (((k : Int) == (r.legs.length : Int) - 1) = true ∧ op = true ∧ legB op r.legs k = true) ∨ (((k : Int) == (r.legs.length : Int) - 1) = true ∧ op = false ∧ legB op r.legs k = decide (e.f0 ≤ e.t0)) ∨ (((k : Int) == (r.legs.length : Int) - 1) = false ∧ legB op r.legs k = decide (e.f0 ≤ e.t0)) := by
        by_cases h1 : k + 1 = r.legs.length
        · cases op
          · exact .inr (.inl ⟨by simp; omega, rfl, by rw [Hlb.out]; simp⟩)
          · exact .inl ⟨by simp; omega, rfl, by rw [Hlb.out, decide_eq_true h1]; simp⟩
        · exact .inr (.inr ⟨by simp; omega, by rw [Hlb.out, decide_eq_false h1]; simp⟩)
      clear Hlb
      rcases hcase with ⟨hkb, rfl, hlb⟩ | ⟨hkb, rfl, hlb⟩ | ⟨hkb, hlb⟩
      · have Hlb := Lib.hid hlb; clear hlb
        go_wp2_with fail
        refine wp_region_since (by kernel_rfl) (by kernel_rfl) ?_
        repeat (go_big_quiet_step (fail))
        refine wpQuiet_nil ?_
        rintro _ ⟨y2, rfl⟩
        go_wp2_with fail
        go_roundw
        case rel => exact ⟨k + 1, y2, by omega, by go_num, rfl, fun i hi => by
          by_cases hik : i < k
          · exact Hok.out i hik
          · obtain rfl : i = k := by omega
            exact Hlb.out⟩
        case measure => simp [intOf] <;> omega
      all_goals
        have Hlb := Lib.hid hlb; clear hlb
        by_cases hft : e.f0 ≤ e.t0
        · have hb : decide (e.t0 < e.f0) = false := decide_eq_false (by omega)
          have Hlb2 := Lib.hid (Hlb.out.trans (decide_eq_true hft))
          clear hft
          go_wp2_with fail
          refine wp_region_since (by kernel_rfl) (by kernel_rfl) ?_
          repeat (go_big_quiet_step (fail))
          refine wpQuiet_nil ?_
          rintro _ ⟨y2, rfl⟩
          clear hb
          go_wp2_with fail
          go_roundw
          case rel => exact ⟨k + 1, y2, by omega, by go_num, rfl, fun i hi => by
            by_cases hik : i < k
            · exact Hok.out i hik
            · obtain rfl : i = k := by omega
              exact Hlb2.out⟩
          case measure => simp [intOf] <;> omega
        · have hb : decide (e.t0 < e.f0) = true := decide_eq_true (by omega)
          have Hr := Lib.hid (show orderedB r = false by
            cases hh : orderedB r
            · rfl
            · have := HG.out.1 (HO.out.1 hh).1 k hlt
              rw [Hlb.out, decide_eq_false hft] at this; cases this)
          clear hft
          go_wp2_with fail
          refine wp_region_since (by kernel_rfl) (by kernel_rfl) ?_
          repeat (go_big_quiet_step (fail))
          refine wpQuiet_nil ?_
          rintro _ ⟨y2, rfl⟩
          clear hb
          go_wp2_with fail
          go_ret
          exact ⟨ret_bool Hr.out.symm, Hup.out _⟩
    · obtain rfl : k = r.legs.length := by omega
      have HG2 := Lib.hid (HG.out.2 Hok.out)
      clear Hok HG
      go_wp2_with (go_at_call 59; ((with_reducible refine (Hmk.out _).mono ?_); rintro _ _ ⟨a, cap, y2, rfl, rfl, hrow⟩))
      clear Hmk
      have hM5 : M.length ≤ 200000 := by omega
      have Hrow := Lib.hid hrow; clear hrow
      replace hb0_0 := Since.cellTo ⟨y2, rfl⟩ hb0_0
      replace hb0_1 := Since.cellTo ⟨y2, rfl⟩ hb0_1
      replace hb0_2 := Since.cellTo ⟨y2, rfl⟩ hb0_2
      replace hb0_3 := Since.cellTo ⟨y2, rfl⟩ hb0_3
      replace hb0_4 := Since.cellTo ⟨y2, rfl⟩ hb0_4
      replace hb0_5 := Since.cellTo ⟨y2, rfl⟩ hb0_5
      replace hb0_6 := Since.cellTo ⟨y2, rfl⟩ hb0_6
      replace hb0_7 := Since.cellTo ⟨y2, rfl⟩ hb0_7
      replace hb0_8 := Since.cellTo ⟨y2, rfl⟩ hb0_8
      replace hb0_9 := Since.cellTo ⟨y2, rfl⟩ hb0_9
      replace hb0_10 := Since.cellTo ⟨y2, rfl⟩ hb0_10
      replace hb0_11 := Since.cellTo ⟨y2, rfl⟩ hb0_11
      replace hb0_12 := Since.cellTo ⟨y2, rfl⟩ hb0_12
      obtain ⟨q0, hq0⟩ := Since.refl y2.w
      rw [hq0]
      clear hq0
      go_wp2_with fail
      go_loopw [6] (fun i wr => ∃ (k : Nat) (z : Since y2.w), k ≤ M.length ∧ i = .int .i64 k ∧ wr = z.w ∧ ∀ i, i < k → markB op r.s0 r.e0 M i = true) (fun i _ => M.length - (intOf i).toNat)
      case atStart => exact ⟨0, _, by omega, rfl, rfl, fun i hi => by omega⟩
      case round =>
        obtain ⟨k, z, hk, rfl, rfl, hok⟩ := hrel
        have Hok := Lib.hid hok; clear hok
        by_cases hlt : k < M.length
        · obtain ⟨b, off, rfl, hbl, hc⟩ := Hrow.out k hlt
          have kc : ∀ q : Since y2.w, q.w.cell? ⟨b, off + k, none⟩ = some (.int .i64 (at0 M k)) := fun q => Since.cell hc hbl q
          have hk0 : (0 : Int) ≤ (k : Int) := by omega
          have hkl : (k : Int) < (M.length : Int) := by omega
          clear hbl hc
          by_cases hz : k = 0
          · have hz1 : ((k : Int) == 0) = true := by simp; omega
            have hz2 : decide ((0 : Int) < (k : Int)) = false := decide_eq_false (by omega)
            have hz3 : decide (0 < k) = false := decide_eq_false (by omega)
            have Hmb := Lib.hid (show markB op r.s0 r.e0 M k = (decide (r.s0 ≤ at0 M k) && (op || decide (at0 M k ≤ r.e0))) by unfold markB; rw [if_pos hz, hz])
            clear hz
            generalize at0 M k = v at *
            have hcase : (decide (v < r.s0) = true ∧ markB op r.s0 r.e0 M k = false) ∨ (decide (v < r.s0) = false ∧ op = true ∧ markB op r.s0 r.e0 M k = true) ∨ (decide (v < r.s0) = false ∧ op = false ∧ decide (r.e0 < v) = true ∧ markB op r.s0 r.e0 M k = false) ∨ (decide (v < r.s0) = false ∧ op = false ∧ decide (r.e0 < v) = false ∧ markB op r.s0 r.e0 M k = true) := by
              rw [Hmb.out]
              by_cases h1 : v < r.s0
              · exact .inl ⟨decide_eq_true h1, by rw [decide_eq_false (by omega)]; rfl⟩
              · cases op
                · by_cases h2 : r.e0 < v
                  · exact .inr (.inr (.inl ⟨decide_eq_false h1, rfl, decide_eq_true h2, by rw [decide_eq_false (p := v ≤ r.e0) (by omega)]; simp⟩))
                  · exact .inr (.inr (.inr ⟨decide_eq_false h1, rfl, decide_eq_false h2, by simp; omega⟩))
                · exact .inr (.inl ⟨decide_eq_false h1, rfl, by simp; omega⟩)
            clear Hmb
            rcases hcase with ⟨t1, hm⟩ | ⟨t1, rfl, hm⟩ | ⟨t1, rfl, t2, hm⟩ | ⟨t1, rfl, t2, hm⟩
            · have Hm := Lib.hid hm; clear hm
              have Hr := Lib.hid (show orderedB r = false by
                cases hh : orderedB r
                · rfl
                · have := (HO.out.1 hh).2 k hlt
                  rw [Hm.out] at this; cases this)
              go_wp2_with fail
              refine wp_region_since (by kernel_rfl) (by kernel_rfl) ?_
              repeat (go_big_quiet_step (fail))
              refine wpQuiet_nil ?_
              rintro _ ⟨z2, rfl⟩
              clear hz1 hz2 hz3
              go_wp2_with fail
              go_ret
              exact ⟨ret_bool Hr.out.symm, by obtain ⟨q, e⟩ := y2.trans z2; rw [e]; exact Hup.out q⟩
            · have Hm := Lib.hid hm; clear hm
              go_wp2_with fail
              refine wp_region_since (by kernel_rfl) (by kernel_rfl) ?_
              repeat (go_big_quiet_step (fail))
              refine wpQuiet_nil ?_
              rintro _ ⟨z2, rfl⟩
              clear hz1 hz2 hz3
              go_wp2_with fail
              go_roundw
              case rel => exact ⟨k + 1, z2, by omega, by go_num, rfl, fun i hi => by
                by_cases hik : i < k
                · exact Hok.out i hik
                · obtain rfl : i = k := by omega
                  exact Hm.out⟩
              case measure => simp [intOf] <;> omega
            · have Hm := Lib.hid hm; clear hm
              have Hr := Lib.hid (show orderedB r = false by
                cases hh : orderedB r
                · rfl
                · have := (HO.out.1 hh).2 k hlt
                  rw [Hm.out] at this; cases this)
              go_wp2_with fail
              refine wp_region_since (by kernel_rfl) (by kernel_rfl) ?_
              repeat (go_big_quiet_step (fail))
              refine wpQuiet_nil ?_
              rintro _ ⟨z2, rfl⟩
              clear hz1 hz2 hz3
              go_wp2_with fail
              go_ret
              exact ⟨ret_bool Hr.out.symm, by obtain ⟨q, e⟩ := y2.trans z2; rw [e]; exact Hup.out q⟩
            · have Hm := Lib.hid hm; clear hm
              go_wp2_with fail
              refine wp_region_since (by kernel_rfl) (by kernel_rfl) ?_
              repeat (go_big_quiet_step (fail))
              refine wpQuiet_nil ?_
              rintro _ ⟨z2, rfl⟩
              clear hz1 hz2 hz3
              go_wp2_with fail
              go_roundw
              case rel => exact ⟨k + 1, z2, by omega, by go_num, rfl, fun i hi => by
                by_cases hik : i < k
                · exact Hok.out i hik
                · obtain rfl : i = k := by omega
                  exact Hm.out⟩
              case measure => simp [intOf] <;> omega
          · obtain ⟨b', off', hbo, hbl, hc⟩ := Hrow.out (k - 1) (by omega)
            obtain ⟨rfl, rfl⟩ : b = b' ∧ off = off' := by simpa using hbo
            have kp : ∀ q : Since y2.w, q.w.cell? ⟨b, off + (k - 1), none⟩ = some (.int .i64 (at0 M (k - 1))) := fun q => Since.cell hc hbl q
            have hz1 : ((k : Int) == 0) = false := by simp; omega
            have hz2 : decide ((0 : Int) < (k : Int)) = true := decide_eq_true (by omega)
            have hz3 : decide (0 < k) = true := decide_eq_true (by omega)
            have hmw : IntKind.i64.wrap ((k : Int) - 1) = ((k - 1 : Nat) : Int) := by rw [show (k : Int) - 1 = ((k - 1 : Nat) : Int) by omega]; exact IntWalk.i64_in _ (by omega)
            have hmr : (0 : Int) ≤ ((k - 1 : Nat) : Int) := by omega
            have hml : ((k - 1 : Nat) : Int) < (M.length : Int) := by omega
            have Hmb := Lib.hid (show markB op r.s0 r.e0 M k = (decide (at0 M (k - 1) ≤ at0 M k) && (op || decide (at0 M k ≤ r.e0))) by unfold markB; rw [if_neg hz])
            clear hz hbo hbl hc
            generalize at0 M k = v at *
            generalize at0 M (k - 1) = u at *
            have hcase : (decide (v < u) = true ∧ markB op r.s0 r.e0 M k = false) ∨ (decide (v < u) = false ∧ op = true ∧ markB op r.s0 r.e0 M k = true) ∨ (decide (v < u) = false ∧ op = false ∧ decide (r.e0 < v) = true ∧ markB op r.s0 r.e0 M k = false) ∨ (decide (v < u) = false ∧ op = false ∧ decide (r.e0 < v) = false ∧ markB op r.s0 r.e0 M k = true) := by
              rw [Hmb.out]
              by_cases h1 : v < u
              · exact .inl ⟨decide_eq_true h1, by rw [decide_eq_false (by omega)]; rfl⟩
              · cases op
                · by_cases h2 : r.e0 < v
                  · exact .inr (.inr (.inl ⟨decide_eq_false h1, rfl, decide_eq_true h2, by rw [decide_eq_false (p := v ≤ r.e0) (by omega)]; simp⟩))
                  · exact .inr (.inr (.inr ⟨decide_eq_false h1, rfl, decide_eq_false h2, by simp; omega⟩))
                · exact .inr (.inl ⟨decide_eq_false h1, rfl, by simp; omega⟩)
            clear Hmb
            rcases hcase with ⟨t1, hm⟩ | ⟨t1, rfl, hm⟩ | ⟨t1, rfl, t2, hm⟩ | ⟨t1, rfl, t2, hm⟩
            · have Hm := Lib.hid hm; clear hm
              have Hr := Lib.hid (show orderedB r = false by
                cases hh : orderedB r
                · rfl
                · have := (HO.out.1 hh).2 k hlt
                  rw [Hm.out] at this; cases this)
              go_wp2_with fail
              refine wp_region_since (by kernel_rfl) (by kernel_rfl) ?_
              repeat (go_big_quiet_step (fail))
              refine wpQuiet_nil ?_
              rintro _ ⟨z2, rfl⟩
              clear hz1 hz2 hz3
              go_wp2_with fail
              go_ret
              exact ⟨ret_bool Hr.out.symm, by obtain ⟨q, e⟩ := y2.trans z2; rw [e]; exact Hup.out q⟩
            · have Hm := Lib.hid hm; clear hm
              go_wp2_with fail
              refine wp_region_since (by kernel_rfl) (by kernel_rfl) ?_
              repeat (go_big_quiet_step (fail))
              refine wpQuiet_nil ?_
              rintro _ ⟨z2, rfl⟩
              clear hz1 hz2 hz3
              go_wp2_with fail
              go_roundw
              case rel => exact ⟨k + 1, z2, by omega, by go_num, rfl, fun i hi => by
                by_cases hik : i < k
                · exact Hok.out i hik
                · obtain rfl : i = k := by omega
                  exact Hm.out⟩
              case measure => simp [intOf] <;> omega
            · have Hm := Lib.hid hm; clear hm
              have Hr := Lib.hid (show orderedB r = false by
                cases hh : orderedB r
                · rfl
                · have := (HO.out.1 hh).2 k hlt
                  rw [Hm.out] at this; cases this)
              go_wp2_with fail
              refine wp_region_since (by kernel_rfl) (by kernel_rfl) ?_
              repeat (go_big_quiet_step (fail))
              refine wpQuiet_nil ?_
              rintro _ ⟨z2, rfl⟩
              clear hz1 hz2 hz3
              go_wp2_with fail
              go_ret
              exact ⟨ret_bool Hr.out.symm, by obtain ⟨q, e⟩ := y2.trans z2; rw [e]; exact Hup.out q⟩
            · have Hm := Lib.hid hm; clear hm
              go_wp2_with fail
              refine wp_region_since (by kernel_rfl) (by kernel_rfl) ?_
              repeat (go_big_quiet_step (fail))
              refine wpQuiet_nil ?_
              rintro _ ⟨z2, rfl⟩
              clear hz1 hz2 hz3
              go_wp2_with fail
              go_roundw
              case rel => exact ⟨k + 1, z2, by omega, by go_num, rfl, fun i hi => by
                by_cases hik : i < k
                · exact Hok.out i hik
                · obtain rfl : i = k := by omega
                  exact Hm.out⟩
              case measure => simp [intOf] <;> omega
        · obtain rfl : k = M.length := by omega
          have Hr := Lib.hid (HO.out.2 ⟨HG2.out, Hok.out⟩)
          go_wp2_with fail
          go_ret
          exact ⟨ret_bool Hr.out.symm, by obtain ⟨q, e⟩ := y2.trans z; rw [e]; exact Hup.out q⟩
end Go.Proofs.Ytefodfpnedcodaa
/- The walks of the program's check of a ride, fourth part: the check. -/
namespace Go.Proofs.Ytefodfpnedcodaa
open Go.RowKit

set_option maxRecDepth 100000 in
set_option maxHeartbeats 8000000 in
theorem check_calls (w : World) (x : Since w) (r : Ride) (h : r.At w) :
    Calls Try.prog 37 #[.agg #[.int .i64 r.id, .int .i64 r.rd, .int .i64 r.s0, .int .i64 r.s1, .int .i64 r.e0, .int .i64 r.e1, .bool r.op, .slice r.la r.legs.length r.lc, .slice r.pa r.pauses.length r.pc, .int .i64 r.fw, .int .i64 r.fp, .int .i64 r.wh, .int .i64 r.pl]] x.w fun o w' => o = .returned (.int .i64 (rideE r)) ∧ ∃ y : Since w, w' = y.w := by
  have H := Lib.hid h
  clear h
  go_enter Try.func37, Try.ntmps37
  go_upto_region 1 with fail
  have hb0_0 : ∀ y : Since (x.w.alloc (.cells #[.int .i64 r.id, .int .i64 r.rd, .int .i64 r.s0, .int .i64 r.s1, .int .i64 r.e0, .int .i64 r.e1, .bool r.op, .slice r.la r.legs.length r.lc, .slice r.pa r.pauses.length r.pc, .int .i64 r.fw, .int .i64 r.fp, .int .i64 r.wh, .int .i64 r.pl] 27)), y.w.cell? ⟨x.w.heap.size, 0, none⟩ = some (.int .i64 r.id) := fun y => Since.cell (by simp [go_sem]) (by first | (simp; done) | (simp; omega)) y
  have hb0_1 : ∀ y : Since (x.w.alloc (.cells #[.int .i64 r.id, .int .i64 r.rd, .int .i64 r.s0, .int .i64 r.s1, .int .i64 r.e0, .int .i64 r.e1, .bool r.op, .slice r.la r.legs.length r.lc, .slice r.pa r.pauses.length r.pc, .int .i64 r.fw, .int .i64 r.fp, .int .i64 r.wh, .int .i64 r.pl] 27)), y.w.cell? ⟨x.w.heap.size, 1, none⟩ = some (.int .i64 r.rd) := fun y => Since.cell (by simp [go_sem]) (by first | (simp; done) | (simp; omega)) y
  have hb0_2 : ∀ y : Since (x.w.alloc (.cells #[.int .i64 r.id, .int .i64 r.rd, .int .i64 r.s0, .int .i64 r.s1, .int .i64 r.e0, .int .i64 r.e1, .bool r.op, .slice r.la r.legs.length r.lc, .slice r.pa r.pauses.length r.pc, .int .i64 r.fw, .int .i64 r.fp, .int .i64 r.wh, .int .i64 r.pl] 27)), y.w.cell? ⟨x.w.heap.size, 2, none⟩ = some (.int .i64 r.s0) := fun y => Since.cell (by simp [go_sem]) (by first | (simp; done) | (simp; omega)) y
  have hb0_3 : ∀ y : Since (x.w.alloc (.cells #[.int .i64 r.id, .int .i64 r.rd, .int .i64 r.s0, .int .i64 r.s1, .int .i64 r.e0, .int .i64 r.e1, .bool r.op, .slice r.la r.legs.length r.lc, .slice r.pa r.pauses.length r.pc, .int .i64 r.fw, .int .i64 r.fp, .int .i64 r.wh, .int .i64 r.pl] 27)), y.w.cell? ⟨x.w.heap.size, 3, none⟩ = some (.int .i64 r.s1) := fun y => Since.cell (by simp [go_sem]) (by first | (simp; done) | (simp; omega)) y
  have hb0_4 : ∀ y : Since (x.w.alloc (.cells #[.int .i64 r.id, .int .i64 r.rd, .int .i64 r.s0, .int .i64 r.s1, .int .i64 r.e0, .int .i64 r.e1, .bool r.op, .slice r.la r.legs.length r.lc, .slice r.pa r.pauses.length r.pc, .int .i64 r.fw, .int .i64 r.fp, .int .i64 r.wh, .int .i64 r.pl] 27)), y.w.cell? ⟨x.w.heap.size, 4, none⟩ = some (.int .i64 r.e0) := fun y => Since.cell (by simp [go_sem]) (by first | (simp; done) | (simp; omega)) y
  have hb0_5 : ∀ y : Since (x.w.alloc (.cells #[.int .i64 r.id, .int .i64 r.rd, .int .i64 r.s0, .int .i64 r.s1, .int .i64 r.e0, .int .i64 r.e1, .bool r.op, .slice r.la r.legs.length r.lc, .slice r.pa r.pauses.length r.pc, .int .i64 r.fw, .int .i64 r.fp, .int .i64 r.wh, .int .i64 r.pl] 27)), y.w.cell? ⟨x.w.heap.size, 5, none⟩ = some (.int .i64 r.e1) := fun y => Since.cell (by simp [go_sem]) (by first | (simp; done) | (simp; omega)) y
  have hb0_6 : ∀ y : Since (x.w.alloc (.cells #[.int .i64 r.id, .int .i64 r.rd, .int .i64 r.s0, .int .i64 r.s1, .int .i64 r.e0, .int .i64 r.e1, .bool r.op, .slice r.la r.legs.length r.lc, .slice r.pa r.pauses.length r.pc, .int .i64 r.fw, .int .i64 r.fp, .int .i64 r.wh, .int .i64 r.pl] 27)), y.w.cell? ⟨x.w.heap.size, 6, none⟩ = some (.bool r.op) := fun y => Since.cell (by simp [go_sem]) (by first | (simp; done) | (simp; omega)) y
  have hb0_7 : ∀ y : Since (x.w.alloc (.cells #[.int .i64 r.id, .int .i64 r.rd, .int .i64 r.s0, .int .i64 r.s1, .int .i64 r.e0, .int .i64 r.e1, .bool r.op, .slice r.la r.legs.length r.lc, .slice r.pa r.pauses.length r.pc, .int .i64 r.fw, .int .i64 r.fp, .int .i64 r.wh, .int .i64 r.pl] 27)), y.w.cell? ⟨x.w.heap.size, 7, none⟩ = some (.slice r.la r.legs.length r.lc) := fun y => Since.cell (by simp [go_sem]) (by first | (simp; done) | (simp; omega)) y
  have hb0_8 : ∀ y : Since (x.w.alloc (.cells #[.int .i64 r.id, .int .i64 r.rd, .int .i64 r.s0, .int .i64 r.s1, .int .i64 r.e0, .int .i64 r.e1, .bool r.op, .slice r.la r.legs.length r.lc, .slice r.pa r.pauses.length r.pc, .int .i64 r.fw, .int .i64 r.fp, .int .i64 r.wh, .int .i64 r.pl] 27)), y.w.cell? ⟨x.w.heap.size, 8, none⟩ = some (.slice r.pa r.pauses.length r.pc) := fun y => Since.cell (by simp [go_sem]) (by first | (simp; done) | (simp; omega)) y
  have hb0_9 : ∀ y : Since (x.w.alloc (.cells #[.int .i64 r.id, .int .i64 r.rd, .int .i64 r.s0, .int .i64 r.s1, .int .i64 r.e0, .int .i64 r.e1, .bool r.op, .slice r.la r.legs.length r.lc, .slice r.pa r.pauses.length r.pc, .int .i64 r.fw, .int .i64 r.fp, .int .i64 r.wh, .int .i64 r.pl] 27)), y.w.cell? ⟨x.w.heap.size, 9, none⟩ = some (.int .i64 r.fw) := fun y => Since.cell (by simp [go_sem]) (by first | (simp; done) | (simp; omega)) y
  have hb0_10 : ∀ y : Since (x.w.alloc (.cells #[.int .i64 r.id, .int .i64 r.rd, .int .i64 r.s0, .int .i64 r.s1, .int .i64 r.e0, .int .i64 r.e1, .bool r.op, .slice r.la r.legs.length r.lc, .slice r.pa r.pauses.length r.pc, .int .i64 r.fw, .int .i64 r.fp, .int .i64 r.wh, .int .i64 r.pl] 27)), y.w.cell? ⟨x.w.heap.size, 10, none⟩ = some (.int .i64 r.fp) := fun y => Since.cell (by simp [go_sem]) (by first | (simp; done) | (simp; omega)) y
  have hb0_11 : ∀ y : Since (x.w.alloc (.cells #[.int .i64 r.id, .int .i64 r.rd, .int .i64 r.s0, .int .i64 r.s1, .int .i64 r.e0, .int .i64 r.e1, .bool r.op, .slice r.la r.legs.length r.lc, .slice r.pa r.pauses.length r.pc, .int .i64 r.fw, .int .i64 r.fp, .int .i64 r.wh, .int .i64 r.pl] 27)), y.w.cell? ⟨x.w.heap.size, 11, none⟩ = some (.int .i64 r.wh) := fun y => Since.cell (by simp [go_sem]) (by first | (simp; done) | (simp; omega)) y
  have hb0_12 : ∀ y : Since (x.w.alloc (.cells #[.int .i64 r.id, .int .i64 r.rd, .int .i64 r.s0, .int .i64 r.s1, .int .i64 r.e0, .int .i64 r.e1, .bool r.op, .slice r.la r.legs.length r.lc, .slice r.pa r.pauses.length r.pc, .int .i64 r.fw, .int .i64 r.fp, .int .i64 r.wh, .int .i64 r.pl] 27)), y.w.cell? ⟨x.w.heap.size, 12, none⟩ = some (.int .i64 r.pl) := fun y => Since.cell (by simp [go_sem]) (by first | (simp; done) | (simp; omega)) y
  have hf0 : ∀ (y : Since (x.w.alloc (.cells #[.int .i64 r.id, .int .i64 r.rd, .int .i64 r.s0, .int .i64 r.s1, .int .i64 r.e0, .int .i64 r.e1, .bool r.op, .slice r.la r.legs.length r.lc, .slice r.pa r.pauses.length r.pc, .int .i64 r.fw, .int .i64 r.fp, .int .i64 r.wh, .int .i64 r.pl] 27))) (o : Nat), y.w.frozen? ⟨x.w.heap.size, o, none⟩ = false := fun y o => Since.free (by simp [go_sem]) (by first | (simp; done) | (simp; omega)) y
  have hWup : ∃ z : Since w, (x.w.alloc (.cells #[.int .i64 r.id, .int .i64 r.rd, .int .i64 r.s0, .int .i64 r.s1, .int .i64 r.e0, .int .i64 r.e1, .bool r.op, .slice r.la r.legs.length r.lc, .slice r.pa r.pauses.length r.pc, .int .i64 r.fw, .int .i64 r.fp, .int .i64 r.wh, .int .i64 r.pl] 27)) = z.w := x.alloc _
  obtain ⟨y0, hy0⟩ := Since.refl (x.w.alloc (.cells #[.int .i64 r.id, .int .i64 r.rd, .int .i64 r.s0, .int .i64 r.s1, .int .i64 r.e0, .int .i64 r.e1, .bool r.op, .slice r.la r.legs.length r.lc, .slice r.pa r.pauses.length r.pc, .int .i64 r.fw, .int .i64 r.fp, .int .i64 r.wh, .int .i64 r.pl] 27))
  have Hbx := Lib.hid (And.intro x.b.size (show x.w.heap.size + 1 = (x.w.alloc (.cells #[.int .i64 r.id, .int .i64 r.rd, .int .i64 r.s0, .int .i64 r.s1, .int .i64 r.e0, .int .i64 r.e1, .bool r.op, .slice r.la r.legs.length r.lc, .slice r.pa r.pauses.length r.pc, .int .i64 r.fw, .int .i64 r.fp, .int .i64 r.wh, .int .i64 r.pl] 27)).heap.size from by simp))
  generalize hW : (x.w.alloc (.cells #[.int .i64 r.id, .int .i64 r.rd, .int .i64 r.s0, .int .i64 r.s1, .int .i64 r.e0, .int .i64 r.e1, .bool r.op, .slice r.la r.legs.length r.lc, .slice r.pa r.pauses.length r.pc, .int .i64 r.fw, .int .i64 r.fp, .int .i64 r.wh, .int .i64 r.pl] 27)) = W at *
  clear hW
  generalize x.w.heap.size = bx at *
  have Hup := Lib.hid (Since.up hWup)
  rw [hy0]
  clear hy0
  replace H := Lib.hid (H.out.to hWup)
  clear hWup
  have Hra := Lib.hid (fun y : Since W => ranged_calls W y r H.out)
  have Hjo := Lib.hid (fun y : Since W => joined_calls W y r H.out)
  have Hor := Lib.hid (fun y : Since W => ordered_calls W y r H.out)
  have hgd := span_guard
  have heq := span_equal r.e0 r.e1 0 0
  have HE := Lib.hid (show rideE r = if rangedB r = false then 1 else if joinedB r = false then 3 else if orderedB r = false then 9 else if stateB r = true then 12 else 0 from rfl)
  have Hst := Lib.hid (show stateB r = ((r.op && !(decide (r.e0 = 0) && decide (r.e1 = 0))) || (r.op != decide (r.wh = 3))) from rfl)
  generalize stateB r = sb at *
  generalize rangedB r = rb at *
  generalize joinedB r = jb at *
  generalize orderedB r = ob at *
  cases rb with
  | false =>
    go_wp2_with (go_at_call 52; ((with_reducible refine (Hra.out _).mono ?_); rintro _ _ ⟨rfl, y1, rfl⟩))
    go_ret
    exact ⟨ret_int (by rw [HE.out]; rfl), Hup.out _⟩
  | true =>
    cases jb with
    | false =>
      go_wp2_with (first | (go_at_call 52; ((with_reducible refine (Hra.out _).mono ?_); rintro _ _ ⟨rfl, y1, rfl⟩)) | (go_at_call 53; ((with_reducible refine (Hjo.out _).mono ?_); rintro _ _ ⟨rfl, y2, rfl⟩)))
      go_ret
      exact ⟨ret_int (by rw [HE.out]; rfl), Hup.out _⟩
    | true =>
      cases ob with
      | false =>
        go_wp2_with (first | (go_at_call 52; ((with_reducible refine (Hra.out _).mono ?_); rintro _ _ ⟨rfl, y1, rfl⟩)) | (go_at_call 53; ((with_reducible refine (Hjo.out _).mono ?_); rintro _ _ ⟨rfl, y2, rfl⟩)) | (go_at_call 54; ((with_reducible refine (Hor.out _).mono ?_); rintro _ _ ⟨rfl, y3, rfl⟩)))
        go_ret
        exact ⟨ret_int (by rw [HE.out]; rfl), Hup.out _⟩
      | true =>
        go_upto_region 7 with (first | (go_at_call 52; ((with_reducible refine (Hra.out _).mono ?_); rintro _ _ ⟨rfl, y1, rfl⟩)) | (go_at_call 53; ((with_reducible refine (Hjo.out _).mono ?_); rintro _ _ ⟨rfl, y2, rfl⟩)) | (go_at_call 54; ((with_reducible refine (Hor.out _).mono ?_); rintro _ _ ⟨rfl, y3, rfl⟩)))
        clear Hra Hjo Hor
        cases hz : (decide (r.e0 = 0) && decide (r.e1 = 0)) with
        | false =>
          rw [hz] at heq Hst
          clear hz
          by_cases hw : r.wh = 3
          · have hwb : (r.wh == 3) = true := by simpa using hw
            rw [decide_eq_true hw] at Hst
            clear hw
            cases hop : r.op with
            | false =>
              rw [hop] at Hst
              go_wp2_with fail
              go_ret
              exact ⟨ret_int (by rw [HE.out, Hst.out]; rfl), Hup.out _⟩
            | true =>
              rw [hop] at Hst
              go_wp2_with fail
              go_ret
              exact ⟨ret_int (by rw [HE.out, Hst.out]; rfl), Hup.out _⟩
          · have hwb : (r.wh == 3) = false := by simpa using hw
            rw [decide_eq_false hw] at Hst
            clear hw
            cases hop : r.op with
            | false =>
              rw [hop] at Hst
              go_wp2_with fail
              go_ret
              exact ⟨ret_int (by rw [HE.out, Hst.out]; rfl), Hup.out _⟩
            | true =>
              rw [hop] at Hst
              go_wp2_with fail
              go_ret
              exact ⟨ret_int (by rw [HE.out, Hst.out]; rfl), Hup.out _⟩
        | true =>
          rw [hz] at heq Hst
          clear hz
          by_cases hw : r.wh = 3
          · have hwb : (r.wh == 3) = true := by simpa using hw
            rw [decide_eq_true hw] at Hst
            clear hw
            cases hop : r.op with
            | false =>
              rw [hop] at Hst
              go_wp2_with fail
              go_ret
              exact ⟨ret_int (by rw [HE.out, Hst.out]; rfl), Hup.out _⟩
            | true =>
              rw [hop] at Hst
              go_wp2_with fail
              go_ret
              exact ⟨ret_int (by rw [HE.out, Hst.out]; rfl), Hup.out _⟩
          · have hwb : (r.wh == 3) = false := by simpa using hw
            rw [decide_eq_false hw] at Hst
            clear hw
            cases hop : r.op with
            | false =>
              rw [hop] at Hst
              go_wp2_with fail
              go_ret
              exact ⟨ret_int (by rw [HE.out, Hst.out]; rfl), Hup.out _⟩
            | true =>
              rw [hop] at Hst
              go_wp2_with fail
              go_ret
              exact ⟨ret_int (by rw [HE.out, Hst.out]; rfl), Hup.out _⟩
end Go.Proofs.Ytefodfpnedcodaa
/- The walks of the reference's check of a ride, sixth part: the check; short lists of rides. -/
namespace Go.Proofs.Ytefodfpnedcodaa
open Go.RowKit

set_option maxRecDepth 100000 in
set_option maxHeartbeats 8000000 in
theorem rcheck_calls (w : World) (x : Since w) (r : Ride) (h : r.At w) :
    Calls Try.prog 35 #[.agg #[.int .i64 r.id, .int .i64 r.rd, .int .i64 r.s0, .int .i64 r.s1, .int .i64 r.e0, .int .i64 r.e1, .bool r.op, .slice r.la r.legs.length r.lc, .slice r.pa r.pauses.length r.pc, .int .i64 r.fw, .int .i64 r.fp, .int .i64 r.wh, .int .i64 r.pl]] x.w fun o w' => o = .returned (.int .i64 (rideE r)) ∧ ∃ y : Since w, w' = y.w := by
  have H := Lib.hid h
  clear h
  go_enter Try.func35, Try.ntmps35
  go_upto_region 1 with fail
  have hb0_0 : ∀ y : Since (x.w.alloc (.cells #[.int .i64 r.id, .int .i64 r.rd, .int .i64 r.s0, .int .i64 r.s1, .int .i64 r.e0, .int .i64 r.e1, .bool r.op, .slice r.la r.legs.length r.lc, .slice r.pa r.pauses.length r.pc, .int .i64 r.fw, .int .i64 r.fp, .int .i64 r.wh, .int .i64 r.pl] 27)), y.w.cell? ⟨x.w.heap.size, 0, none⟩ = some (.int .i64 r.id) := fun y => Since.cell (by simp [go_sem]) (by first | (simp; done) | (simp; omega)) y
  have hb0_1 : ∀ y : Since (x.w.alloc (.cells #[.int .i64 r.id, .int .i64 r.rd, .int .i64 r.s0, .int .i64 r.s1, .int .i64 r.e0, .int .i64 r.e1, .bool r.op, .slice r.la r.legs.length r.lc, .slice r.pa r.pauses.length r.pc, .int .i64 r.fw, .int .i64 r.fp, .int .i64 r.wh, .int .i64 r.pl] 27)), y.w.cell? ⟨x.w.heap.size, 1, none⟩ = some (.int .i64 r.rd) := fun y => Since.cell (by simp [go_sem]) (by first | (simp; done) | (simp; omega)) y
  have hb0_2 : ∀ y : Since (x.w.alloc (.cells #[.int .i64 r.id, .int .i64 r.rd, .int .i64 r.s0, .int .i64 r.s1, .int .i64 r.e0, .int .i64 r.e1, .bool r.op, .slice r.la r.legs.length r.lc, .slice r.pa r.pauses.length r.pc, .int .i64 r.fw, .int .i64 r.fp, .int .i64 r.wh, .int .i64 r.pl] 27)), y.w.cell? ⟨x.w.heap.size, 2, none⟩ = some (.int .i64 r.s0) := fun y => Since.cell (by simp [go_sem]) (by first | (simp; done) | (simp; omega)) y
  have hb0_3 : ∀ y : Since (x.w.alloc (.cells #[.int .i64 r.id, .int .i64 r.rd, .int .i64 r.s0, .int .i64 r.s1, .int .i64 r.e0, .int .i64 r.e1, .bool r.op, .slice r.la r.legs.length r.lc, .slice r.pa r.pauses.length r.pc, .int .i64 r.fw, .int .i64 r.fp, .int .i64 r.wh, .int .i64 r.pl] 27)), y.w.cell? ⟨x.w.heap.size, 3, none⟩ = some (.int .i64 r.s1) := fun y => Since.cell (by simp [go_sem]) (by first | (simp; done) | (simp; omega)) y
  have hb0_4 : ∀ y : Since (x.w.alloc (.cells #[.int .i64 r.id, .int .i64 r.rd, .int .i64 r.s0, .int .i64 r.s1, .int .i64 r.e0, .int .i64 r.e1, .bool r.op, .slice r.la r.legs.length r.lc, .slice r.pa r.pauses.length r.pc, .int .i64 r.fw, .int .i64 r.fp, .int .i64 r.wh, .int .i64 r.pl] 27)), y.w.cell? ⟨x.w.heap.size, 4, none⟩ = some (.int .i64 r.e0) := fun y => Since.cell (by simp [go_sem]) (by first | (simp; done) | (simp; omega)) y
  have hb0_5 : ∀ y : Since (x.w.alloc (.cells #[.int .i64 r.id, .int .i64 r.rd, .int .i64 r.s0, .int .i64 r.s1, .int .i64 r.e0, .int .i64 r.e1, .bool r.op, .slice r.la r.legs.length r.lc, .slice r.pa r.pauses.length r.pc, .int .i64 r.fw, .int .i64 r.fp, .int .i64 r.wh, .int .i64 r.pl] 27)), y.w.cell? ⟨x.w.heap.size, 5, none⟩ = some (.int .i64 r.e1) := fun y => Since.cell (by simp [go_sem]) (by first | (simp; done) | (simp; omega)) y
  have hb0_6 : ∀ y : Since (x.w.alloc (.cells #[.int .i64 r.id, .int .i64 r.rd, .int .i64 r.s0, .int .i64 r.s1, .int .i64 r.e0, .int .i64 r.e1, .bool r.op, .slice r.la r.legs.length r.lc, .slice r.pa r.pauses.length r.pc, .int .i64 r.fw, .int .i64 r.fp, .int .i64 r.wh, .int .i64 r.pl] 27)), y.w.cell? ⟨x.w.heap.size, 6, none⟩ = some (.bool r.op) := fun y => Since.cell (by simp [go_sem]) (by first | (simp; done) | (simp; omega)) y
  have hb0_7 : ∀ y : Since (x.w.alloc (.cells #[.int .i64 r.id, .int .i64 r.rd, .int .i64 r.s0, .int .i64 r.s1, .int .i64 r.e0, .int .i64 r.e1, .bool r.op, .slice r.la r.legs.length r.lc, .slice r.pa r.pauses.length r.pc, .int .i64 r.fw, .int .i64 r.fp, .int .i64 r.wh, .int .i64 r.pl] 27)), y.w.cell? ⟨x.w.heap.size, 7, none⟩ = some (.slice r.la r.legs.length r.lc) := fun y => Since.cell (by simp [go_sem]) (by first | (simp; done) | (simp; omega)) y
  have hb0_8 : ∀ y : Since (x.w.alloc (.cells #[.int .i64 r.id, .int .i64 r.rd, .int .i64 r.s0, .int .i64 r.s1, .int .i64 r.e0, .int .i64 r.e1, .bool r.op, .slice r.la r.legs.length r.lc, .slice r.pa r.pauses.length r.pc, .int .i64 r.fw, .int .i64 r.fp, .int .i64 r.wh, .int .i64 r.pl] 27)), y.w.cell? ⟨x.w.heap.size, 8, none⟩ = some (.slice r.pa r.pauses.length r.pc) := fun y => Since.cell (by simp [go_sem]) (by first | (simp; done) | (simp; omega)) y
  have hb0_9 : ∀ y : Since (x.w.alloc (.cells #[.int .i64 r.id, .int .i64 r.rd, .int .i64 r.s0, .int .i64 r.s1, .int .i64 r.e0, .int .i64 r.e1, .bool r.op, .slice r.la r.legs.length r.lc, .slice r.pa r.pauses.length r.pc, .int .i64 r.fw, .int .i64 r.fp, .int .i64 r.wh, .int .i64 r.pl] 27)), y.w.cell? ⟨x.w.heap.size, 9, none⟩ = some (.int .i64 r.fw) := fun y => Since.cell (by simp [go_sem]) (by first | (simp; done) | (simp; omega)) y
  have hb0_10 : ∀ y : Since (x.w.alloc (.cells #[.int .i64 r.id, .int .i64 r.rd, .int .i64 r.s0, .int .i64 r.s1, .int .i64 r.e0, .int .i64 r.e1, .bool r.op, .slice r.la r.legs.length r.lc, .slice r.pa r.pauses.length r.pc, .int .i64 r.fw, .int .i64 r.fp, .int .i64 r.wh, .int .i64 r.pl] 27)), y.w.cell? ⟨x.w.heap.size, 10, none⟩ = some (.int .i64 r.fp) := fun y => Since.cell (by simp [go_sem]) (by first | (simp; done) | (simp; omega)) y
  have hb0_11 : ∀ y : Since (x.w.alloc (.cells #[.int .i64 r.id, .int .i64 r.rd, .int .i64 r.s0, .int .i64 r.s1, .int .i64 r.e0, .int .i64 r.e1, .bool r.op, .slice r.la r.legs.length r.lc, .slice r.pa r.pauses.length r.pc, .int .i64 r.fw, .int .i64 r.fp, .int .i64 r.wh, .int .i64 r.pl] 27)), y.w.cell? ⟨x.w.heap.size, 11, none⟩ = some (.int .i64 r.wh) := fun y => Since.cell (by simp [go_sem]) (by first | (simp; done) | (simp; omega)) y
  have hb0_12 : ∀ y : Since (x.w.alloc (.cells #[.int .i64 r.id, .int .i64 r.rd, .int .i64 r.s0, .int .i64 r.s1, .int .i64 r.e0, .int .i64 r.e1, .bool r.op, .slice r.la r.legs.length r.lc, .slice r.pa r.pauses.length r.pc, .int .i64 r.fw, .int .i64 r.fp, .int .i64 r.wh, .int .i64 r.pl] 27)), y.w.cell? ⟨x.w.heap.size, 12, none⟩ = some (.int .i64 r.pl) := fun y => Since.cell (by simp [go_sem]) (by first | (simp; done) | (simp; omega)) y
  have hf0 : ∀ (y : Since (x.w.alloc (.cells #[.int .i64 r.id, .int .i64 r.rd, .int .i64 r.s0, .int .i64 r.s1, .int .i64 r.e0, .int .i64 r.e1, .bool r.op, .slice r.la r.legs.length r.lc, .slice r.pa r.pauses.length r.pc, .int .i64 r.fw, .int .i64 r.fp, .int .i64 r.wh, .int .i64 r.pl] 27))) (o : Nat), y.w.frozen? ⟨x.w.heap.size, o, none⟩ = false := fun y o => Since.free (by simp [go_sem]) (by first | (simp; done) | (simp; omega)) y
  have hWup : ∃ z : Since w, (x.w.alloc (.cells #[.int .i64 r.id, .int .i64 r.rd, .int .i64 r.s0, .int .i64 r.s1, .int .i64 r.e0, .int .i64 r.e1, .bool r.op, .slice r.la r.legs.length r.lc, .slice r.pa r.pauses.length r.pc, .int .i64 r.fw, .int .i64 r.fp, .int .i64 r.wh, .int .i64 r.pl] 27)) = z.w := x.alloc _
  obtain ⟨y0, hy0⟩ := Since.refl (x.w.alloc (.cells #[.int .i64 r.id, .int .i64 r.rd, .int .i64 r.s0, .int .i64 r.s1, .int .i64 r.e0, .int .i64 r.e1, .bool r.op, .slice r.la r.legs.length r.lc, .slice r.pa r.pauses.length r.pc, .int .i64 r.fw, .int .i64 r.fp, .int .i64 r.wh, .int .i64 r.pl] 27))
  have Hbx := Lib.hid (And.intro x.b.size (show x.w.heap.size + 1 = (x.w.alloc (.cells #[.int .i64 r.id, .int .i64 r.rd, .int .i64 r.s0, .int .i64 r.s1, .int .i64 r.e0, .int .i64 r.e1, .bool r.op, .slice r.la r.legs.length r.lc, .slice r.pa r.pauses.length r.pc, .int .i64 r.fw, .int .i64 r.fp, .int .i64 r.wh, .int .i64 r.pl] 27)).heap.size from by simp))
  generalize hW : (x.w.alloc (.cells #[.int .i64 r.id, .int .i64 r.rd, .int .i64 r.s0, .int .i64 r.s1, .int .i64 r.e0, .int .i64 r.e1, .bool r.op, .slice r.la r.legs.length r.lc, .slice r.pa r.pauses.length r.pc, .int .i64 r.fw, .int .i64 r.fp, .int .i64 r.wh, .int .i64 r.pl] 27)) = W at *
  clear hW
  generalize x.w.heap.size = bx at *
  have Hup := Lib.hid (Since.up hWup)
  rw [hy0]
  clear hy0
  replace H := Lib.hid (H.out.to hWup)
  clear hWup
  have Hra := Lib.hid (fun y : Since W => rranged_calls W y r H.out)
  have Hjo := Lib.hid (fun y : Since W => rjoined_calls W y r H.out)
  have Hor := Lib.hid (fun (hj : joinedB r = true) (y : Since W) => rordered_calls W y r H.out (by unfold joinedB at hj; simp only [Bool.and_eq_true, decide_eq_true_eq] at hj; omega))
  have hgd := span_guard
  have heq := span_equal r.e0 r.e1 0 0
  have HE := Lib.hid (show rideE r = if rangedB r = false then 1 else if joinedB r = false then 3 else if orderedB r = false then 9 else if stateB r = true then 12 else 0 from rfl)
  have Hst := Lib.hid (show stateB r = ((r.op && !(decide (r.e0 = 0) && decide (r.e1 = 0))) || (r.op != decide (r.wh = 3))) from rfl)
  generalize stateB r = sb at *
  generalize rangedB r = rb at *
  generalize joinedB r = jb at *
  generalize orderedB r = ob at *
  cases rb with
  | false =>
    go_wp2_with (go_at_call 49; ((with_reducible refine (Hra.out _).mono ?_); rintro _ _ ⟨rfl, y1, rfl⟩))
    go_ret
    exact ⟨ret_int (by rw [HE.out]; rfl), Hup.out _⟩
  | true =>
    cases jb with
    | false =>
      go_wp2_with (first | (go_at_call 49; ((with_reducible refine (Hra.out _).mono ?_); rintro _ _ ⟨rfl, y1, rfl⟩)) | (go_at_call 50; ((with_reducible refine (Hjo.out _).mono ?_); rintro _ _ ⟨rfl, y2, rfl⟩)))
      go_ret
      exact ⟨ret_int (by rw [HE.out]; rfl), Hup.out _⟩
    | true =>
      cases ob with
      | false =>
        go_wp2_with (first | (go_at_call 49; ((with_reducible refine (Hra.out _).mono ?_); rintro _ _ ⟨rfl, y1, rfl⟩)) | (go_at_call 50; ((with_reducible refine (Hjo.out _).mono ?_); rintro _ _ ⟨rfl, y2, rfl⟩)) | (go_at_call 51; ((with_reducible refine (Hor.out (by trivial) _).mono ?_); rintro _ _ ⟨rfl, y3, rfl⟩)))
        go_ret
        exact ⟨ret_int (by rw [HE.out]; rfl), Hup.out _⟩
      | true =>
        go_upto_region 7 with (first | (go_at_call 49; ((with_reducible refine (Hra.out _).mono ?_); rintro _ _ ⟨rfl, y1, rfl⟩)) | (go_at_call 50; ((with_reducible refine (Hjo.out _).mono ?_); rintro _ _ ⟨rfl, y2, rfl⟩)) | (go_at_call 51; ((with_reducible refine (Hor.out (by trivial) _).mono ?_); rintro _ _ ⟨rfl, y3, rfl⟩)))
        clear Hra Hjo Hor
        cases hz : (decide (r.e0 = 0) && decide (r.e1 = 0)) with
        | false =>
          rw [hz] at heq Hst
          clear hz
          by_cases hw : r.wh = 3
          · have hwb : (r.wh == 3) = true := by simpa using hw
            rw [decide_eq_true hw] at Hst
            clear hw
            cases hop : r.op with
            | false =>
              rw [hop] at Hst
              go_wp2_with fail
              go_ret
              exact ⟨ret_int (by rw [HE.out, Hst.out]; rfl), Hup.out _⟩
            | true =>
              rw [hop] at Hst
              go_wp2_with fail
              go_ret
              exact ⟨ret_int (by rw [HE.out, Hst.out]; rfl), Hup.out _⟩
          · have hwb : (r.wh == 3) = false := by simpa using hw
            rw [decide_eq_false hw] at Hst
            clear hw
            cases hop : r.op with
            | false =>
              rw [hop] at Hst
              go_wp2_with fail
              go_ret
              exact ⟨ret_int (by rw [HE.out, Hst.out]; rfl), Hup.out _⟩
            | true =>
              rw [hop] at Hst
              go_wp2_with fail
              go_ret
              exact ⟨ret_int (by rw [HE.out, Hst.out]; rfl), Hup.out _⟩
        | true =>
          rw [hz] at heq Hst
          clear hz
          by_cases hw : r.wh = 3
          · have hwb : (r.wh == 3) = true := by simpa using hw
            rw [decide_eq_true hw] at Hst
            clear hw
            cases hop : r.op with
            | false =>
              rw [hop] at Hst
              go_wp2_with fail
              go_ret
              exact ⟨ret_int (by rw [HE.out, Hst.out]; rfl), Hup.out _⟩
            | true =>
              rw [hop] at Hst
              go_wp2_with fail
              go_ret
              exact ⟨ret_int (by rw [HE.out, Hst.out]; rfl), Hup.out _⟩
          · have hwb : (r.wh == 3) = false := by simpa using hw
            rw [decide_eq_false hw] at Hst
            clear hw
            cases hop : r.op with
            | false =>
              rw [hop] at Hst
              go_wp2_with fail
              go_ret
              exact ⟨ret_int (by rw [HE.out, Hst.out]; rfl), Hup.out _⟩
            | true =>
              rw [hop] at Hst
              go_wp2_with fail
              go_ret
              exact ⟨ret_int (by rw [HE.out, Hst.out]; rfl), Hup.out _⟩
end Go.Proofs.Ytefodfpnedcodaa
/- The library's functions that the program of windows calls, laid over its translation. -/
namespace Go.Proofs.Ytefodfpnedcodaa
open Go.Shelf Go.RowKit Go.Lib Go.Sort

def Try.sortWin_ren : Go.Shelf.Ren := ⟨fun | 6 => 64 | 15 => 69 | 14 => 68 | 28 => 79 | 29 => 80 | 20 => 71 | 21 => 72 | 22 => 73 | 23 => 74 | 24 => 75 | 25 => 76 | 26 => 77 | 27 => 78 | 46 => 81 | 47 => 82 | 48 => 83 | 49 => 84 | 50 => 85 | 57 => 86 | n => n, fun | 22 => 35 | 24 => 31 | 25 => 78 | 3 => 3 | 39 => 82 | 0 => 0 | 53 => 93 | 55 => 95 | 4 => 4 | 46 => 86 | 45 => 85 | 50 => 90 | 5 => 5 | 9 => 9 | 66 => 96 | 70 => 100 | 76 => 102 | 77 => 103 | n => n, fun | n => n⟩
theorem Try.sortWin : Go.Proofs.SlLaysF0.n6 Try.prog Try.sortWin_ren := {
  mixed := by kernel_rfl
  f6 := ⟨Try.f64.name, by decide, Try.func64.trans (congrArg some (by kernel_rfl))⟩
  f14 := ⟨Try.f68.name, by decide, Try.func68.trans (congrArg some (by kernel_rfl))⟩
  f15 := Try.func69.trans (congrArg some (by kernel_rfl))
  f20 := ⟨Try.f71.name, by decide, Try.func71.trans (congrArg some (by kernel_rfl))⟩
  f21 := ⟨Try.f72.name, by decide, Try.func72.trans (congrArg some (by kernel_rfl))⟩
  f22 := ⟨Try.f73.name, by decide, Try.func73.trans (congrArg some (by kernel_rfl))⟩
  f23 := ⟨Try.f74.name, by decide, Try.func74.trans (congrArg some (by kernel_rfl))⟩
  f24 := ⟨Try.f75.name, by decide, Try.func75.trans (congrArg some (by kernel_rfl))⟩
  f25 := ⟨Try.f76.name, by decide, Try.func76.trans (congrArg some (by kernel_rfl))⟩
  f26 := ⟨Try.f77.name, by decide, Try.func77.trans (congrArg some (by kernel_rfl))⟩
  f27 := ⟨Try.f78.name, by decide, Try.func78.trans (congrArg some (by kernel_rfl))⟩
  f28 := Try.func79.trans (congrArg some (by kernel_rfl))
  f29 := Try.func80.trans (congrArg some (by kernel_rfl))
  f46 := ⟨Try.f81.name, by decide, Try.func81.trans (congrArg some (by kernel_rfl))⟩
  f47 := Try.func82.trans (congrArg some (by kernel_rfl))
  f48 := Try.func83.trans (congrArg some (by kernel_rfl))
  f49 := ⟨Try.f84.name, by decide, Try.func84.trans (congrArg some (by kernel_rfl))⟩
  f50 := ⟨Try.f85.name, by decide, Try.func85.trans (congrArg some (by kernel_rfl))⟩
  f57 := ⟨Try.f86.name, by decide, Try.func86.trans (congrArg some (by kernel_rfl))⟩
  t0 := Try.underlying0
  a0 := Try.isAgg0
  z0 := Try.sizeOf0
  v0 := Try.zeroValue0
  t3 := Try.underlying3
  a3 := Try.isAgg3
  z3 := Try.sizeOf3
  v3 := Try.zeroValue3
  t4 := Try.underlying4
  a4 := Try.isAgg4
  z4 := Try.sizeOf4
  v4 := Try.zeroValue4
  t5 := Try.underlying5
  a5 := Try.isAgg5
  z5 := Try.sizeOf5
  v5 := Try.zeroValue5
  t9 := Try.underlying9
  a9 := Try.isAgg9
  z9 := Try.sizeOf9
  v9 := Try.zeroValue9
  t22 := Try.underlying35
  a22 := Try.isAgg35
  z22 := Try.sizeOf35
  v22 := Try.zeroValue35
  t25 := Try.underlying78
  a25 := Try.isAgg78
  z25 := Try.sizeOf78
  v25 := Try.zeroValue78
  t39 := Try.underlying82
  a39 := Try.isAgg82
  z39 := Try.sizeOf82
  v39 := Try.zeroValue82
  t45 := Try.underlying85
  a45 := Try.isAgg85
  z45 := Try.sizeOf85
  v45 := Try.zeroValue85
  t46 := Try.underlying86
  a46 := Try.isAgg86
  z46 := Try.sizeOf86
  v46 := Try.zeroValue86
  t50 := Try.underlying90
  a50 := Try.isAgg90
  z50 := Try.sizeOf90
  v50 := Try.zeroValue90
  t53 := Try.underlying93
  a53 := Try.isAgg93
  z53 := Try.sizeOf93
  v53 := Try.zeroValue93
  t55 := Try.underlying95
  a55 := Try.isAgg95
  z55 := Try.sizeOf95
  v55 := Try.zeroValue95
  t66 := Try.underlying96
  a66 := Try.isAgg96
  z66 := Try.sizeOf96
  v66 := Try.zeroValue96
  t70 := Try.underlying100
  a70 := Try.isAgg100
  z70 := Try.sizeOf100
  v70 := Try.zeroValue100
  t76 := Try.underlying102
  a76 := Try.isAgg102
  z76 := Try.sizeOf102
  v76 := Try.zeroValue102
  t77 := Try.underlying103
  a77 := Try.isAgg103
  z77 := Try.sizeOf103
  v77 := Try.zeroValue103 }
def Try.idxWin_ren : Go.Shelf.Ren := ⟨fun | 6 => 67 | n => n, fun | 22 => 35 | 23 => 31 | 25 => 67 | 3 => 3 | 0 => 0 | 4 => 4 | n => n, fun | n => n⟩
theorem Try.idxWin : Go.Proofs.SlLaysH0.n6 Try.prog Try.idxWin_ren := {
  mixed := by kernel_rfl
  f6 := ⟨Try.f67.name, by decide, Try.func67.trans (congrArg some (by kernel_rfl))⟩
  t0 := Try.underlying0
  a0 := Try.isAgg0
  z0 := Try.sizeOf0
  v0 := Try.zeroValue0
  t3 := Try.underlying3
  a3 := Try.isAgg3
  z3 := Try.sizeOf3
  v3 := Try.zeroValue3
  t4 := Try.underlying4
  a4 := Try.isAgg4
  z4 := Try.sizeOf4
  v4 := Try.zeroValue4
  t22 := Try.underlying35
  a22 := Try.isAgg35
  z22 := Try.sizeOf35
  v22 := Try.zeroValue35
  t25 := Try.underlying67
  a25 := Try.isAgg67
  z25 := Try.sizeOf67
  v25 := Try.zeroValue67 }
end Go.Proofs.Ytefodfpnedcodaa
/- Windows of moments as plain data: what a list of windows contains, normal form, what makes it: plain mathematics, no program in sight. -/
namespace Go.Proofs.Ytefodfpnedcodaa
open Go.RowKit

/-- a window: its first moment, the one behind its last -/
structure Win where
  f : Int
  t : Int
deriving DecidableEq
def Win.cs (x : Win) : List Value := [.int .i64 x.f, .int .i64 x.t]
theorem Win.len (x : Win) : x.cs.length = 2 := rfl
theorem win_one (x : Win) : ∀ u ∈ x.cs, u.oneCell' = true := by
  intro u hu
  simp [Win.cs] at hu
  rcases hu with h | h <;> subst h <;> rfl
instance : Inhabited Win := ⟨⟨0, 0⟩⟩
abbrev WinRow (w : World) (a : Option Addr) (l : List Win) : Prop := Els Win.cs 2 w a l
structure WinCells (w : World) (b o : Nat) (e : Win) : Prop where
  c0 : ∀ y : Since w, y.w.cell? ⟨b, o, none⟩ = some (.int .i64 e.f)
  c1 : ∀ y : Since w, y.w.cell? ⟨b, o + 1, none⟩ = some (.int .i64 e.t)
theorem Els.win {w : World} {a : Option Addr} {l : List Win} (h : Els Win.cs 2 w a l) {k : Nat} {x : Win} (hk : l[k]? = some x) : ∃ b off, a = some ⟨b, off, none⟩ ∧ WinCells w b (off + k * 2) x := by
  obtain ⟨b, off, ha, hb, hc⟩ := h k x hk
  refine ⟨b, off, ha, ?_⟩
  have hh : ∀ j v, x.cs[j]? = some v → ∀ y : Since w, y.w.cell? ⟨b, off + k * 2 + j, none⟩ = some v := fun j v hv => Since.cell (hc j v hv) hb
  exact ⟨hh 0 _ rfl, hh 1 _ rfl⟩
/-- a window of moments is valid -/
def vldW (x : Win) : Bool := decide (0 ≤ x.f) && decide (x.f ≤ x.t) && decide (x.t ≤ 4294944000)
theorem vldW_iff (x : Win) : vldW x = true ↔ 0 ≤ x.f ∧ x.f ≤ x.t ∧ x.t ≤ 4294944000 := by simp [vldW, and_assoc]
/-- the moment t belongs to the window -/
def inW (t : Int) (x : Win) : Bool := decide (x.f ≤ t) && decide (t < x.t)
theorem inW_iff (t : Int) (x : Win) : inW t x = true ↔ x.f ≤ t ∧ t < x.t := by simp [inW]
/-- the moment t belongs to one of the windows -/
def hasW (l : List Win) (t : Int) : Bool := l.any (inW t)
theorem hasW_iff {l : List Win} {t : Int} : hasW l t = true ↔ ∃ x ∈ l, x.f ≤ t ∧ t < x.t := by simp [hasW, List.any_eq_true, inW_iff]
theorem hasW_nil (t : Int) : hasW [] t = false := rfl
theorem hasW_cons (x : Win) (l : List Win) (t : Int) : hasW (x :: l) t = (inW t x || hasW l t) := rfl
theorem hasW_append (l m : List Win) (t : Int) : hasW (l ++ m) t = (hasW l t || hasW m t) := by simp [hasW]
theorem hasW_one (x : Win) (t : Int) : hasW [x] t = inW t x := by simp [hasW]
theorem hasW_perm {l m : List Win} (h : l.Perm m) (t : Int) : hasW l t = hasW m t := by
  rw [Bool.eq_iff_iff, hasW_iff, hasW_iff]
  constructor <;> rintro ⟨x, hx, hh⟩
  · exact ⟨x, h.mem_iff.1 hx, hh⟩
  · exact ⟨x, h.mem_iff.2 hx, hh⟩
/-- normal form -/
structure Norm (l : List Win) : Prop where
  v : ∀ x ∈ l, 0 ≤ x.f ∧ x.f < x.t ∧ x.t ≤ 4294944000
  s : l.Pairwise fun a b => a.t < b.f
theorem norm_nil : Norm [] := ⟨fun x h => (by cases h), List.Pairwise.nil⟩
theorem Norm.tail {x : Win} {l : List Win} (h : Norm (x :: l)) : Norm l := ⟨fun y hy => h.v y (by simp [hy]), (List.pairwise_cons.1 h.s).2⟩
theorem Norm.hd {x : Win} {l : List Win} (h : Norm (x :: l)) : ∀ y ∈ l, x.t < y.f := (List.pairwise_cons.1 h.s).1
theorem Norm.drop {l : List Win} (h : Norm l) (k : Nat) : Norm (l.drop k) := ⟨fun y hy => h.v y (List.mem_of_mem_drop hy), h.s.sublist (List.drop_sublist k l)⟩
theorem Norm.snoc {l : List Win} {x : Win} (h : Norm l) (hx : 0 ≤ x.f ∧ x.f < x.t ∧ x.t ≤ 4294944000) (hs : ∀ y ∈ l, y.t < x.f) : Norm (l ++ [x]) :=
  ⟨fun y hy => by
    rcases List.mem_append.1 hy with h1 | h1
    · exact h.v y h1
    · simp at h1; subst h1; exact hx, List.pairwise_append.2 ⟨h.s, by simp, fun a ha b hb => by simp at hb; subst hb; exact hs a ha⟩⟩
/-- **Lists in normal form with the same moments are equal.** -/
theorem norm_unique : ∀ {u v : List Win}, Norm u → Norm v → (∀ t, hasW u t = hasW v t) → u = v
  | [], [], _, _, _ => rfl
  | [], y :: v, _, hv, h => by
    have := h y.f
    rw [hasW_nil, hasW_cons, show inW y.f y = true from (inW_iff _ _).2 ⟨Int.le_refl _, (hv.v y (by simp)).2.1⟩] at this
    cases this
  | x :: u, [], hu, _, h => by
    have := h x.f
    rw [hasW_nil, hasW_cons, show inW x.f x = true from (inW_iff _ _).2 ⟨Int.le_refl _, (hu.v x (by simp)).2.1⟩] at this
    cases this
  | x :: u, y :: v, hu, hv, h => by
    have vx := hu.v x (by simp)
    have vy := hv.v y (by simp)
    have low : ∀ {x : Win} {u : List Win}, Norm (x :: u) → ∀ t, hasW (x :: u) t = true → x.f ≤ t := fun {x u} hu t ht => by
      obtain ⟨z, hz, h1, h2⟩ := hasW_iff.1 ht
      rcases List.mem_cons.1 hz with rfl | hz
      · exact h1
      · have := hu.hd z hz
        have := hu.v x (by simp)
        omega
    have gap : ∀ {x : Win} {u : List Win}, Norm (x :: u) → hasW (x :: u) x.t = false := fun {x u} hu => by
      cases hh : hasW (x :: u) x.t
      · rfl
      · obtain ⟨z, hz, h1, h2⟩ := hasW_iff.1 hh
        rcases List.mem_cons.1 hz with rfl | hz
        · omega
        · have := hu.hd z hz; omega
    have ins : ∀ {x : Win} {u : List Win} (t : Int), x.f ≤ t → t < x.t → hasW (x :: u) t = true := fun {x u} t h1 h2 => hasW_iff.2 ⟨x, by simp, h1, h2⟩
    have e1 : x.f = y.f := by
      have a1 := low hv x.f (by rw [← h]; exact ins _ (Int.le_refl _) vx.2.1)
      have a2 := low hu y.f (by rw [h]; exact ins _ (Int.le_refl _) vy.2.1)
      omega
    have e2 : x.t = y.t := by
      rcases Int.lt_trichotomy x.t y.t with h1 | h1 | h1
      · have := gap hu
        rw [h, ins (x := y) (u := v) x.t (by omega) h1] at this; cases this
      · exact h1
      · have := gap hv
        rw [← h, ins (x := x) (u := u) y.t (by omega) h1] at this; cases this
    have exy : x = y := by cases x; cases y; simp at e1 e2; simp [e1, e2]
    subst exy
    rw [norm_unique hu.tail hv.tail (fun t => ?_)]
    have ht := h t
    rw [hasW_cons, hasW_cons] at ht
    cases hi : inW t x
    · rw [hi, Bool.false_or, Bool.false_or] at ht; exact ht
    · obtain ⟨i1, i2⟩ := (inW_iff _ _).1 hi
      have no : ∀ {u : List Win}, Norm (x :: u) → hasW u t = false := fun {u} hu => by
        cases hh : hasW u t
        · rfl
        · obtain ⟨z, hz, h1, h2⟩ := hasW_iff.1 hh
          have := hu.hd z hz; omega
      rw [no hu, no hv]
/-- u is the normal form of the moments S -/
structure IsSet (u : List Win) (S : Int → Bool) : Prop where
  n : Norm u
  h : ∀ t, hasW u t = S t
theorem IsSet.unique {u v : List Win} {S : Int → Bool} (h : IsSet u S) (k : IsSet v S) : u = v := norm_unique h.n k.n fun t => by rw [h.h, k.h]
/-- what the joining of sorted windows keeps: 'out' is made of the windows 'done' -/
structure Mrg (done out : List Win) : Prop where
  n : Norm out
  h : ∀ t, hasW out t = hasW done t
  b : ∀ c, (∀ x ∈ done, x.f ≤ c) → ∀ v ∈ out, v.f ≤ c
theorem mrg_nil : Mrg [] [] := ⟨norm_nil, fun _ => rfl, fun _ _ v h => (by cases h)⟩
theorem Mrg.skip {done out : List Win} (h : Mrg done out) {w : Win} (he : w.f = w.t) : Mrg (done ++ [w]) out := by
  refine ⟨h.n, fun t => ?_, fun c hc v hv => h.b c (fun x hx => hc x (by simp [hx])) v hv⟩
  rw [hasW_append, hasW_one, h.h]
  have : inW t w = false := by
    cases hi : inW t w
    · rfl
    · have := (inW_iff _ _).1 hi; omega
  rw [this, Bool.or_false]
theorem Mrg.join {done o : List Win} {l w : Win} (h : Mrg done (o ++ [l])) (hw : vldW w = true) (h1 : l.f ≤ w.f) (h2 : w.f ≤ l.t) (_hs : ∀ x ∈ done, x.f ≤ w.f) : Mrg (done ++ [w]) (o ++ [⟨l.f, max l.t w.t⟩]) := by
  obtain ⟨v1, v2, v3⟩ := (vldW_iff w).1 hw
  have hl := h.n.v l (by simp)
  have hno : Norm o := ⟨fun x hx => h.n.v x (by simp [hx]), (List.pairwise_append.1 h.n.s).1⟩
  refine ⟨hno.snoc ⟨hl.1, by show l.f < max l.t w.t; omega, by show max l.t w.t ≤ _; omega⟩ fun y hy => (List.pairwise_append.1 h.n.s).2.2 y hy l (by simp), fun t => ?_, fun c hc v hv => ?_⟩
  · have := h.h t
    rw [hasW_append, hasW_one] at this ⊢
    rw [hasW_append, hasW_one, ← this, Bool.or_assoc]
    congr 1
    rw [Bool.eq_iff_iff, Bool.or_eq_true, inW_iff, inW_iff, inW_iff]
    show l.f ≤ t ∧ t < max l.t w.t ↔ _
    omega
  · rcases List.mem_append.1 hv with hv | hv
    · exact h.b c (fun x hx => hc x (by simp [hx])) v (by simp [hv])
    · simp at hv; subst hv
      exact h.b c (fun x hx => hc x (by simp [hx])) l (by simp)
theorem Mrg.new {done out : List Win} {w : Win} (h : Mrg done out) (hw : vldW w = true) (hne : w.f < w.t) (hs : ∀ v ∈ out, v.t < w.f) : Mrg (done ++ [w]) (out ++ [w]) := by
  obtain ⟨v1, v2, v3⟩ := (vldW_iff w).1 hw
  refine ⟨h.n.snoc ⟨v1, hne, v3⟩ hs, fun t => by rw [hasW_append, hasW_append, h.h], fun c hc v hv => ?_⟩
  rcases List.mem_append.1 hv with hv | hv
  · exact h.b c (fun x hx => hc x (by simp [hx])) v hv
  · simp at hv; subst hv; exact hc v (by simp)
theorem Mrg.set {done out : List Win} (h : Mrg done out) : IsSet out (hasW done) := ⟨h.n, h.h⟩
/-- the last one of a list in normal form bounds all -/
theorem norm_last {o : List Win} {l : Win} (h : Norm (o ++ [l])) {c : Int} (hc : l.t < c) : ∀ v ∈ o ++ [l], v.t < c := fun v hv => by
  rcases List.mem_append.1 hv with h1 | h1
  · have := (List.pairwise_append.1 h.s).2.2 v h1 l (by simp)
    have := h.v l (by simp)
    omega
  · simp at h1; subst h1; exact hc
/-- how many moments -/
def lenW (l : List Win) : Int := (l.map fun x => x.t - x.f).sum
theorem lenW_snoc (l : List Win) (x : Win) : lenW (l ++ [x]) = lenW l + (x.t - x.f) := by simp [lenW]
/-- some window of the list is not valid -/
def badW (l : List Win) : Bool := l.any fun x => !vldW x
theorem badW_false {l : List Win} : badW l = false ↔ ∀ x ∈ l, vldW x = true := by
  unfold badW
  rw [List.any_eq_false]
  constructor
  · intro h x hx; simpa using h x hx
  · intro h x hx; simpa using h x hx
end Go.Proofs.Ytefodfpnedcodaa
/- Common parts and differences of lists of windows, as they are made: plain mathematics, no program in sight. -/
namespace Go.Proofs.Ytefodfpnedcodaa
open Go.RowKit

/-- the common part of two windows -/
def cutW (a b : Win) : Win := ⟨max a.f b.f, min a.t b.t⟩
theorem inW_cut (a b : Win) (t : Int) : inW t (cutW a b) = (inW t a && inW t b) := by
  rw [Bool.eq_iff_iff, Bool.and_eq_true, inW_iff, inW_iff, inW_iff]
  show max a.f b.f ≤ t ∧ t < min a.t b.t ↔ _
  omega
theorem inW_no {x : Win} (h : ¬ x.f < x.t) (t : Int) : inW t x = false := by
  cases hi : inW t x
  · rfl
  · have := (inW_iff _ _).1 hi; omega
/-- w is put behind a list unless it is empty -/
def addW (out : List Win) (w : Win) : List Win := if w.f < w.t then out ++ [w] else out
theorem addW_yes {out : List Win} {w : Win} (h : w.f < w.t) : addW out w = out ++ [w] := if_pos h
theorem addW_no {out : List Win} {w : Win} (h : ¬ w.f < w.t) : addW out w = out := if_neg h
theorem hasW_add (out : List Win) (w : Win) (t : Int) : hasW (addW out w) t = (hasW out t || inW t w) := by
  unfold addW
  split
  · rw [hasW_append, hasW_one]
  · rename_i h; rw [inW_no h, Bool.or_false]
theorem norm_add {out : List Win} {w : Win} (h : Norm out) (h1 : 0 ≤ w.f) (h2 : w.t ≤ 4294944000) (hs : ∀ v ∈ out, v.t < w.f) : Norm (addW out w) := by
  unfold addW
  split
  · rename_i h3; exact h.snoc ⟨h1, h3, h2⟩ hs
  · exact h
theorem mem_add {out : List Win} {w v : Win} (h : v ∈ addW out w) : v ∈ out ∨ v = w := by
  unfold addW at h
  split at h
  · rcases List.mem_append.1 h with h | h
    · exact .inl h
    · simp at h; exact .inr h
  · exact .inl h
theorem norm_before {x : Win} {l : List Win} (h : Norm (x :: l)) {t : Int} (ht : t ≤ x.t) : hasW l t = false := by
  cases hh : hasW l t
  · rfl
  · obtain ⟨z, hz, h1, h2⟩ := hasW_iff.1 hh
    have := h.hd z hz; omega

/-- two lists are walked together: x and y are what is left of X and Y -/
structure Com (X Y x y out : List Win) : Prop where
  n : Norm out
  h : ∀ t, (hasW X t && hasW Y t) = (hasW out t || (hasW x t && hasW y t))
  s : ∀ v ∈ out, ∀ a ∈ x, ∀ b ∈ y, v.t < max a.f b.f
  nx : Norm x
  ny : Norm y
theorem com_start {X Y : List Win} (hX : Norm X) (hY : Norm Y) : Com X Y X Y [] :=
  ⟨norm_nil, fun t => by rw [hasW_nil, Bool.false_or], fun v h => (by cases h), hX, hY⟩
theorem Com.done {X Y x y out : List Win} (h : Com X Y x y out) (he : x = [] ∨ y = []) : IsSet out (fun t => hasW X t && hasW Y t) :=
  ⟨h.n, fun t => by
    rw [h.h t]
    rcases he with rfl | rfl
    · rw [hasW_nil, Bool.false_and, Bool.or_false]
    · rw [hasW_nil, Bool.and_false, Bool.or_false]⟩
theorem Com.both {X Y x y out : List Win} {a b : Win} (h : Com X Y (a :: x) (b :: y) out) : Norm (addW out (cutW a b)) := by
  have ha := h.nx.v a (by simp)
  have hb := h.ny.v b (by simp)
  exact norm_add h.n (by show 0 ≤ max a.f b.f; omega) (by show min a.t b.t ≤ _; omega) fun v hv => h.s v hv a (by simp) b (by simp)
theorem Com.left {X Y x y out : List Win} {a b : Win} (h : Com X Y (a :: x) (b :: y) out) (hlt : a.t < b.t) : Com X Y x (b :: y) (addW out (cutW a b)) := by
  refine ⟨h.both, fun t => ?_, fun v hv a' ha' b' hb' => ?_, h.nx.tail, h.ny⟩
  · rw [h.h t, hasW_add, inW_cut, hasW_cons a x]
    cases ha : inW t a
    · simp
    · have h1 := (inW_iff _ _).1 ha
      have h2 : hasW y t = false := norm_before h.ny (by omega)
      rw [hasW_cons b y, h2]
      cases inW t b <;> simp
  · rcases mem_add hv with hv | rfl
    · exact h.s v hv a' (by simp [ha']) b' hb'
    · have := h.nx.hd a' ha'
      show min a.t b.t < _
      omega
theorem Com.right {X Y x y out : List Win} {a b : Win} (h : Com X Y (a :: x) (b :: y) out) (hle : b.t ≤ a.t) : Com X Y (a :: x) y (addW out (cutW a b)) := by
  refine ⟨h.both, fun t => ?_, fun v hv a' ha' b' hb' => ?_, h.nx, h.ny.tail⟩
  · rw [h.h t, hasW_add, inW_cut, hasW_cons b y]
    cases hb : inW t b
    · simp
    · have h1 := (inW_iff _ _).1 hb
      have h2 : hasW x t = false := norm_before h.nx (by omega)
      rw [hasW_cons a x, h2]
      cases inW t a <;> simp
  · rcases mem_add hv with hv | rfl
    · exact h.s v hv a' ha' b' (by simp [hb'])
    · have := h.ny.hd b' hb'
      show min a.t b.t < _
      omega
/-- all pairs: window a against those of V, vd have been seen, vr are left -/
structure ComI (P : Int → Bool) (a : Win) (vd vr out : List Win) : Prop where
  n : Norm out
  h : ∀ t, hasW out t = (P t || (inW t a && hasW vd t))
  s : ∀ v ∈ out, v.t < a.f ∨ ((∀ b ∈ vr, v.t < b.f) ∧ v.t ≤ a.t)
theorem ComI.step {P : Int → Bool} {a b : Win} {vd vr out : List Win} (h : ComI P a vd (b :: vr) out) (ha : 0 ≤ a.f ∧ a.t ≤ 4294944000) (hV : Norm (b :: vr)) : ComI P a (vd ++ [b]) vr (addW out (cutW a b)) := by
  refine ⟨norm_add h.n (by show 0 ≤ max a.f b.f; omega) (by show min a.t b.t ≤ _; omega) fun v hv => ?_, fun t => ?_, fun v hv => ?_⟩
  · show v.t < max a.f b.f
    rcases h.s v hv with h1 | ⟨h1, _⟩
    · omega
    · have := h1 b (by simp); omega
  · rw [hasW_add, h.h, inW_cut, hasW_append, hasW_one]
    cases P t <;> cases inW t a <;> cases hasW vd t <;> simp
  · rcases mem_add hv with hv | rfl
    · rcases h.s v hv with h1 | ⟨h1, h2⟩
      · exact .inl h1
      · exact .inr ⟨fun c hc => h1 c (by simp [hc]), h2⟩
    · refine .inr ⟨fun c hc => ?_, by show min a.t b.t ≤ _; omega⟩
      have := hV.hd c hc
      show min a.t b.t < _
      omega
structure ComO (V ud ur out : List Win) : Prop where
  n : Norm out
  h : ∀ t, hasW out t = (hasW ud t && hasW V t)
  s : ∀ v ∈ out, ∀ a ∈ ur, v.t < a.f
theorem comO_start (V U : List Win) : ComO V [] U [] := ⟨norm_nil, fun t => by rw [hasW_nil]; rfl, fun v h => (by cases h)⟩
theorem ComO.enter {V ud ur out : List Win} {a : Win} (h : ComO V ud (a :: ur) out) : ComI (fun t => hasW ud t && hasW V t) a [] V out :=
  ⟨h.n, fun t => by rw [h.h, hasW_nil, Bool.and_false, Bool.or_false], fun v hv => .inl (h.s v hv a (by simp))⟩
theorem ComI.leave {V ud ur out : List Win} {a : Win} (h : ComI (fun t => hasW ud t && hasW V t) a V [] out) (hU : Norm (a :: ur)) : ComO V (ud ++ [a]) ur out := by
  refine ⟨h.n, fun t => ?_, fun v hv c hc => ?_⟩
  · rw [h.h, hasW_append, hasW_one]
    cases hasW ud t <;> cases inW t a <;> cases hasW V t <;> simp
  · have h1 := hU.hd c hc
    have h2 := hU.v a (by simp)
    rcases h.s v hv with h3 | ⟨_, h3⟩ <;> omega
theorem ComO.set {V U out : List Win} (h : ComO V U [] out) : IsSet out (fun t => hasW U t && hasW V t) := ⟨h.n, h.h⟩

/-- window w without the moments B: what is before 'at' is done -/
structure MinI (P B : Int → Bool) (w : Win) (at_ : Int) (out : List Win) : Prop where
  n : Norm out
  h : ∀ t, hasW out t = (P t || (decide (w.f ≤ t) && decide (t < min at_ w.t) && !B t))
  s : ∀ v ∈ out, v.t < at_ ∧ v.t ≤ w.t
  c : w.f ≤ at_
/-- the holes are done with, or do not reach the window -/
def Past (w : Win) (at_ : Int) (l : List Win) : Prop := ∀ c ∈ l, c.t ≤ at_ ∨ w.t ≤ c.f
theorem Past.mono {w : Win} {a b : Int} {l : List Win} (h : Past w a l) (hab : a ≤ b) : Past w b l := fun c hc => by
  rcases h c hc with h1 | h1
  · exact .inl (by omega)
  · exact .inr h1
theorem Past.snoc {w : Win} {a : Int} {l : List Win} {b : Win} (h : Past w a l) (hb : b.t ≤ a ∨ w.t ≤ b.f) : Past w a (l ++ [b]) := fun c hc => by
  rcases List.mem_append.1 hc with h1 | h1
  · exact h c h1
  · simp at h1; subst h1; exact hb
/-- no hole between 'at' and the next one -/
theorem past_free {w : Win} {at_ t : Int} {vd vr : List Win} (hp : Past w at_ vd) (h1 : at_ ≤ t) (h2 : t < w.t) (h3 : ∀ c ∈ vr, t < c.f) : hasW (vd ++ vr) t = false := by
  cases hh : hasW (vd ++ vr) t
  · rfl
  · obtain ⟨z, hz, z1, z2⟩ := hasW_iff.1 hh
    rcases List.mem_append.1 hz with hz | hz
    · rcases hp z hz with h4 | h4 <;> omega
    · have := h3 z hz; omega
theorem MinI.hole {P : Int → Bool} {w b : Win} {at_ : Int} {vd vr out : List Win} (h : MinI P (hasW (vd ++ b :: vr)) w at_ out) (hp : Past w at_ vd) (hw : 0 ≤ w.f ∧ w.t ≤ 4294944000) (hV : Norm (b :: vr)) (h1 : b.f < w.t) : MinI P (hasW (vd ++ b :: vr)) w (max at_ b.t) (addW out ⟨at_, b.f⟩) ∧ Past w (max at_ b.t) (vd ++ [b]) := by
  have hb := hV.v b (by simp)
  refine ⟨⟨norm_add h.n (by have := h.c; show 0 ≤ at_; omega) (by show b.f ≤ _; omega) fun v hv => (h.s v hv).1, fun t => ?_, fun v hv => ?_, by have := h.c; omega⟩, (hp.mono (by omega)).snoc (.inl (by omega))⟩
  · rw [hasW_add, h.h]
    have key : inW t ⟨at_, b.f⟩ = (decide (at_ ≤ t) && decide (t < min (max at_ b.t) w.t) && !hasW (vd ++ b :: vr) t) := by
      rw [Bool.eq_iff_iff, inW_iff]
      simp only [Bool.and_eq_true, decide_eq_true_eq, Bool.not_eq_true']
      constructor
      · rintro ⟨k1, k2⟩
        have k2' : t < b.f := k2
        have k1' : at_ ≤ t := k1
        refine ⟨⟨k1', by omega⟩, past_free hp k1' (by omega) fun c hc => ?_⟩
        rcases List.mem_cons.1 hc with rfl | hc
        · exact k2'
        · have := hV.hd c hc; omega
      · rintro ⟨⟨k1, k2⟩, k3⟩
        refine ⟨k1, ?_⟩
        show t < b.f
        rcases Int.lt_or_le t b.f with k4 | k4
        · exact k4
        · exfalso
          have : hasW (vd ++ b :: vr) t = true := hasW_iff.2 ⟨b, by simp, k4, by omega⟩
          rw [this] at k3; cases k3
    rw [key]
    have hc := h.c
    by_cases k : at_ ≤ t
    · rw [decide_eq_true k, decide_eq_true (show w.f ≤ t by omega)]
      have k2 : ¬ t < min at_ w.t := by omega
      rw [decide_eq_false k2]
      cases P t <;> simp
    · rw [decide_eq_false k]
      have k2 : decide (t < min at_ w.t) = decide (t < min (max at_ b.t) w.t) := by rw [decide_eq_decide]; omega
      rw [k2]
      cases P t <;> simp
  · rcases mem_add hv with hv | rfl
    · have := h.s v hv; omega
    · show b.f < _ ∧ b.f ≤ _
      omega
theorem MinI.fin {P : Int → Bool} {w : Win} {at_ : Int} {V out : List Win} (h : MinI P (hasW V) w at_ out) (hp : Past w at_ V) (hw : 0 ≤ w.f ∧ w.t ≤ 4294944000) : Norm (addW out ⟨at_, w.t⟩) ∧ (∀ t, hasW (addW out ⟨at_, w.t⟩) t = (P t || (inW t w && !hasW V t))) ∧ ∀ v ∈ addW out ⟨at_, w.t⟩, v.t ≤ w.t := by
  refine ⟨norm_add h.n (by have := h.c; show 0 ≤ at_; omega) (by exact hw.2) fun v hv => (h.s v hv).1, fun t => ?_, fun v hv => ?_⟩
  · rw [hasW_add, h.h]
    have hc := h.c
    have hi : inW t w = (decide (w.f ≤ t) && decide (t < w.t)) := rfl
    have hj : inW t ⟨at_, w.t⟩ = (decide (at_ ≤ t) && decide (t < w.t)) := rfl
    rw [hi, hj]
    by_cases k : at_ ≤ t
    · by_cases k2 : t < w.t
      · have hf := past_free (vr := []) hp k k2 (fun c hc => by cases hc)
        rw [List.append_nil] at hf
        rw [hf, decide_eq_true k, decide_eq_true k2, decide_eq_true (show w.f ≤ t by omega)]
        cases P t <;> simp
      · rw [decide_eq_false k2, decide_eq_false (show ¬ t < min at_ w.t by omega)]
        cases P t <;> simp
    · rw [decide_eq_false k, show decide (t < min at_ w.t) = decide (t < w.t) by rw [decide_eq_decide]; omega]
      cases P t <;> simp
  · rcases mem_add hv with hv | rfl
    · exact (h.s v hv).2
    · exact Int.le_refl _
structure MinO (V ud ur out : List Win) : Prop where
  n : Norm out
  h : ∀ t, hasW out t = (hasW ud t && !hasW V t)
  s : ∀ v ∈ out, ∀ a ∈ ur, v.t < a.f
theorem minO_start (V U : List Win) : MinO V [] U [] := ⟨norm_nil, fun t => by rw [hasW_nil]; rfl, fun v h => (by cases h)⟩
theorem MinO.enter {V ud ur out : List Win} {w : Win} (h : MinO V ud (w :: ur) out) (hw : w.f < w.t) : MinI (fun t => hasW ud t && !hasW V t) (hasW V) w w.f out := by
  refine ⟨h.n, fun t => ?_, fun v hv => ?_, Int.le_refl _⟩
  · rw [h.h]
    have : (decide (w.f ≤ t) && decide (t < min w.f w.t)) = false := by
      rw [Bool.and_eq_false_iff, decide_eq_false_iff_not, decide_eq_false_iff_not]; omega
    rw [this, Bool.false_and, Bool.or_false]
  · have := h.s v hv w (by simp); omega
theorem MinI.leave {V ud ur out : List Win} {w : Win} {at_ : Int} (h : MinI (fun t => hasW ud t && !hasW V t) (hasW V) w at_ out) (hp : Past w at_ V) (hU : Norm (w :: ur)) : MinO V (ud ++ [w]) ur (addW out ⟨at_, w.t⟩) := by
  have hw := hU.v w (by simp)
  obtain ⟨h1, h2, h3⟩ := h.fin hp ⟨hw.1, hw.2.2⟩
  refine ⟨h1, fun t => ?_, fun v hv a ha => ?_⟩
  · rw [h2, hasW_append, hasW_one]
    cases hasW ud t <;> cases inW t w <;> cases hasW V t <;> simp
  · have := h3 v hv
    have := hU.hd a ha
    omega
theorem MinO.set {V U out : List Win} (h : MinO V U [] out) : IsSet out (fun t => hasW U t && !hasW V t) := ⟨h.n, h.h⟩
end Go.Proofs.Ytefodfpnedcodaa
/- The certain and the possible time of a ride as plain data, and how many moments a set has: no program in sight. -/
namespace Go.Proofs.Ytefodfpnedcodaa
open Go.RowKit

/-- the error of a ride that must have ended -/
def ivE (r : Ride) : Int := if rideE r = 0 then (if r.op then 26 else 0) else rideE r
theorem rideE_zero (r : Ride) : rideE r = 0 ↔ rangedB r = true ∧ joinedB r = true ∧ orderedB r = true ∧ stateB r = false := by
  unfold rideE
  cases rangedB r <;> cases joinedB r <;> cases orderedB r <;> cases stateB r <;> simp
theorem ivE_zero (r : Ride) : ivE r = 0 ↔ rideE r = 0 ∧ r.op = false := by
  unfold ivE
  split
  · rename_i h; cases r.op <;> simp [h]
  · rename_i h; simp [h]
/-- the pauses of a ride that has ended are in order -/
structure PseOk (last e : Int) (l : List Pse) : Prop where
  le : last ≤ e
  p : ∀ p ∈ l, last ≤ p.f0 ∧ p.f0 ≤ p.t0 ∧ p.t0 ≤ e
  s : l.Pairwise fun p q => p.t0 ≤ q.f0
theorem pseOk_of : ∀ (l : List Pse) (last e : Int), psesO false e last l = true → PseOk last e l
  | [], last, e, h => ⟨by simpa [psesO] using h, fun p hp => (by cases hp), List.Pairwise.nil⟩
  | x :: l, last, e, h => by
    simp only [psesO, Bool.false_and, Bool.false_or, Bool.and_eq_true, decide_eq_true_eq] at h
    obtain ⟨h1, h2, h3⟩ := h
    have ih := pseOk_of l x.t0 e h3
    refine ⟨by have := ih.le; omega, fun p hp => ?_, List.pairwise_cons.2 ⟨fun q hq => (ih.p q hq).1, ih.s⟩⟩
    rcases List.mem_cons.1 hp with rfl | hp
    · exact ⟨h1, h2, ih.le⟩
    · have := ih.p p hp; omega
theorem chain_le : ∀ (l : List Leg) (a0 a1 e0 e1 : Int), chainL a0 a1 l e0 e1 = true → legsO false l = true → a0 ≤ e0
  | [], a0, a1, e0, e1, h, _ => by simp [chainL] at h; omega
  | x :: l, a0, a1, e0, e1, h, ho => by
    simp only [chainL, Bool.and_eq_true, decide_eq_true_eq] at h
    simp only [legsO, Bool.false_and, Bool.or_false, Bool.and_eq_true, decide_eq_true_eq] at ho
    have := chain_le l x.t0 x.t1 e0 e1 h.2 ho.2
    omega
/-- what is known of a ride that is accepted and has ended -/
structure RideOk (r : Ride) : Prop where
  s : 0 ≤ r.s0 ∧ r.s0 ≤ r.s1 ∧ r.s1 ≤ 4294943999
  e : 0 ≤ r.e0 ∧ r.e0 ≤ r.e1 ∧ r.e1 ≤ 4294943999
  se : r.s0 ≤ r.e0
  p : ∀ p ∈ r.pauses, 0 ≤ p.f0 ∧ p.f0 ≤ p.f1 ∧ p.f1 ≤ 4294943999 ∧ 0 ≤ p.t0 ∧ p.t0 ≤ p.t1 ∧ p.t1 ≤ 4294943999 ∧ r.s0 ≤ p.f0 ∧ p.f0 ≤ p.t0 ∧ p.t0 ≤ r.e0
  o : r.pauses.Pairwise fun p q => p.t0 ≤ q.f0
  pn : r.pauses.length ≤ 512
  ln : 1 ≤ r.legs.length ∧ r.legs.length ≤ 512
theorem rideOk_of {r : Ride} (h : ivE r = 0) : RideOk r := by
  obtain ⟨h, hop⟩ := (ivE_zero r).1 h
  obtain ⟨h1, h2, h3, h4⟩ := (rideE_zero r).1 h
  simp only [rangedB, headV, Bool.and_eq_true, decide_eq_true_eq, List.all_eq_true] at h1
  obtain ⟨⟨⟨⟨_, hs⟩, he⟩, hl⟩, hp⟩ := h1
  simp only [joinedB, Bool.and_eq_true, decide_eq_true_eq] at h2
  simp only [orderedB, hop, Bool.and_eq_true, Bool.or_eq_true] at h3
  have hs' := (vldS_iff _ _).1 hs
  have he' := (vldS_iff _ _).1 he
  have hse := chain_le _ _ _ _ _ h2.2 h3.1
  have hpo : PseOk r.s0 r.e0 r.pauses := by
    rcases h3.2 with h5 | h5
    · have : r.pauses = [] := by simpa using h5
      rw [this]; exact ⟨hse, fun p hp => (by cases hp), List.Pairwise.nil⟩
    · exact pseOk_of _ _ _ h5
  refine ⟨hs', he', hse, fun p hpp => ?_, hpo.s, h2.1.2, ⟨h2.1.1.1, h2.1.1.2⟩⟩
  have h6 := hp p hpp
  simp only [pseV, Bool.and_eq_true] at h6
  have h7 := (vldS_iff _ _).1 h6.1
  have h8 := (vldS_iff _ _).1 h6.2
  have h9 := hpo.p p hpp
  omega
/-- the certain window of a ride, its possible one -/
def sureW (r : Ride) : Win := if ivE r = 0 then ⟨r.s1, max r.s1 r.e0⟩ else ⟨0, 0⟩
def possW (r : Ride) : Win := if ivE r = 0 then ⟨r.s0, r.e1⟩ else ⟨0, 0⟩
def doubtV (r : Ride) : Int := if ivE r = 0 then r.e1 - r.s0 - (max r.s1 r.e0 - r.s1) else 0
/-- the windows in which a ride certainly, possibly paused: by the program, by the reference -/
def sureP (p : Pse) : Win := ⟨p.f1, max p.f1 p.t0⟩
def possP (p : Pse) : Win := ⟨p.f0, max p.f0 p.t1⟩
def sureQ (l : List Pse) : List Win := (l.filter fun p => decide (p.f1 < p.t0)).map fun p => ⟨p.f1, p.t0⟩
def possQ (l : List Pse) : List Win := l.map fun p => ⟨p.f0, p.t1⟩
theorem sureW_vld {r : Ride} (h : RideOk r) : vldW (⟨r.s1, max r.s1 r.e0⟩ : Win) = true := (vldW_iff _).2 (by
  have := h.s; have := h.e
  show 0 ≤ r.s1 ∧ r.s1 ≤ max r.s1 r.e0 ∧ max r.s1 r.e0 ≤ _
  omega)
theorem badW_one {x : Win} (h : vldW x = true) : badW [x] = false := badW_false.2 fun y hy => by simp at hy; subst hy; exact h
theorem sureP_good {r : Ride} (h : RideOk r) : badW (r.pauses.map sureP) = false := badW_false.2 fun x hx => by
  obtain ⟨p, hp, rfl⟩ := List.mem_map.1 hx
  have := h.p p hp
  refine (vldW_iff _).2 ?_
  show 0 ≤ p.f1 ∧ p.f1 ≤ max p.f1 p.t0 ∧ max p.f1 p.t0 ≤ _
  omega
theorem possP_good {r : Ride} (h : RideOk r) : badW (r.pauses.map possP) = false := badW_false.2 fun x hx => by
  obtain ⟨p, hp, rfl⟩ := List.mem_map.1 hx
  have := h.p p hp
  refine (vldW_iff _).2 ?_
  show 0 ≤ p.f0 ∧ p.f0 ≤ max p.f0 p.t1 ∧ max p.f0 p.t1 ≤ _
  omega
theorem sureQ_good {r : Ride} (h : RideOk r) : badW (sureQ r.pauses) = false := badW_false.2 fun x hx => by
  obtain ⟨p, hp, rfl⟩ := List.mem_map.1 hx
  have hp' := List.mem_filter.1 hp
  have h1 := h.p p hp'.1
  have h2 : p.f1 < p.t0 := by simpa using hp'.2
  refine (vldW_iff _).2 ?_
  show 0 ≤ p.f1 ∧ p.f1 ≤ p.t0 ∧ p.t0 ≤ _
  omega
theorem possQ_eq {r : Ride} (h : RideOk r) : possQ r.pauses = r.pauses.map possP := List.map_congr_left fun p hp => by
  have := h.p p hp
  show (⟨p.f0, p.t1⟩ : Win) = ⟨p.f0, max p.f0 p.t1⟩
  rw [show max p.f0 p.t1 = p.t1 by omega]
theorem hasW_map {α : Type} (l : List α) (f : α → Win) (t : Int) : hasW (l.map f) t = l.any (fun p => inW t (f p)) := by
  unfold hasW; rw [List.any_map]; rfl
theorem hasW_sureQ (l : List Pse) (t : Int) : hasW (sureQ l) t = hasW (l.map sureP) t := by
  unfold sureQ
  rw [Bool.eq_iff_iff, hasW_iff, hasW_iff]
  constructor
  · rintro ⟨x, hx, h1, h2⟩
    obtain ⟨p, hp, rfl⟩ := List.mem_map.1 hx
    have hp' := List.mem_filter.1 hp
    refine ⟨sureP p, List.mem_map.2 ⟨p, hp'.1, rfl⟩, h1, ?_⟩
    have h2' : t < p.t0 := h2
    show t < max p.f1 p.t0
    omega
  · rintro ⟨x, hx, h1, h2⟩
    obtain ⟨p, hp, rfl⟩ := List.mem_map.1 hx
    have h1' : p.f1 ≤ t := h1
    have h2' : t < max p.f1 p.t0 := h2
    exact ⟨⟨p.f1, p.t0⟩, List.mem_map.2 ⟨p, List.mem_filter.2 ⟨hp, decide_eq_true (by omega)⟩, rfl⟩, h1, by show t < p.t0; omega⟩
/-- the moments of Pausing, of Riding -/
def pauS (r : Ride) (t : Int) : Bool := inW t (sureW r) && hasW (r.pauses.map sureP) t
def ridS (r : Ride) (t : Int) : Bool := inW t (sureW r) && !hasW (r.pauses.map possP) t
/-- what Pausing, Riding return -/
structure SetOk (e : Int) (S : Int → Bool) (n : Nat) (c : List Win) : Prop where
  ok : e = 0 → IsSet c S
  no : e ≠ 0 → c = []
  n : c.length ≤ n
theorem SetOk.unique {e : Int} {S : Int → Bool} {n m : Nat} {u v : List Win} (h : SetOk e S n u) (k : SetOk e S m v) : u = v := by
  by_cases he : e = 0
  · exact (h.ok he).unique (k.ok he)
  · rw [h.no he, k.no he]
/-- how many moments below n a set has -/
def cnt (S : Int → Bool) : Nat → Int
  | 0 => 0
  | n + 1 => cnt S n + if S n then 1 else 0
theorem cnt_congr {S T : Int → Bool} : ∀ n : Nat, (∀ t : Int, 0 ≤ t → t < n → S t = T t) → cnt S n = cnt T n
  | 0, _ => rfl
  | n + 1, h => by
    have h1 := cnt_congr n fun t h0 h1 => h t h0 (by omega)
    have h2 := h n (by omega) (by omega)
    simp only [cnt, h1, h2]
theorem cnt_add {S A B : Int → Bool} : ∀ n : Nat, (∀ t : Int, 0 ≤ t → t < n → (S t = (A t || B t)) ∧ (A t && B t) = false) → cnt S n = cnt A n + cnt B n
  | 0, _ => rfl
  | n + 1, h => by
    have h1 := cnt_add (S := S) (A := A) (B := B) n fun t h0 h1 => h t h0 (by omega)
    obtain ⟨h2, h3⟩ := h n (by omega) (by omega)
    simp only [cnt, h1, h2]
    revert h3
    cases A n <;> cases B n <;> simp <;> omega
theorem cnt_le {S T : Int → Bool} : ∀ n : Nat, (∀ t : Int, 0 ≤ t → t < n → S t = true → T t = true) → cnt S n ≤ cnt T n
  | 0, _ => by simp [cnt]
  | n + 1, h => by
    have h1 := cnt_le (S := S) (T := T) n fun t h0 h1 => h t h0 (by omega)
    have h2 := h n (by omega) (by omega)
    simp only [cnt]
    revert h2
    cases S n <;> cases T n <;> simp <;> omega
theorem cnt_none {S : Int → Bool} : ∀ n : Nat, (∀ t : Int, 0 ≤ t → t < n → S t = false) → cnt S n = 0
  | 0, _ => rfl
  | n + 1, h => by
    have h1 := cnt_none (S := S) n fun t h0 h1 => h t h0 (by omega)
    have h2 := h n (by omega) (by omega)
    simp only [cnt, h1, h2]
    simp
theorem cnt_win (x : Win) (h0 : 0 ≤ x.f) (h1 : x.f ≤ x.t) : ∀ n : Nat, cnt (fun t => inW t x) n = min x.t n - min x.f n
  | 0 => by simp [cnt]; omega
  | n + 1 => by
    have ih := cnt_win x h0 h1 n
    simp only [cnt, ih]
    by_cases hi : inW n x = true
    · rw [if_pos hi]
      have := (inW_iff _ _).1 hi
      omega
    · rw [if_neg hi]
      have : ¬ (x.f ≤ (n : Int) ∧ (n : Int) < x.t) := fun h => hi ((inW_iff _ _).2 h)
      omega
/-- the length of a list in normal form is the number of its moments -/
theorem lenW_cnt : ∀ {u : List Win}, Norm u → lenW u = cnt (hasW u) 4294944000
  | [], _ => (cnt_none _ fun t _ _ => rfl).symm
  | x :: u, hn => by
    have hx := hn.v x (by simp)
    have e1 : lenW (x :: u) = (x.t - x.f) + lenW u := by simp [lenW]
    have h1 := cnt_win x hx.1 (by omega) 4294944000
    rw [e1, lenW_cnt hn.tail, cnt_add (S := hasW (x :: u)) (A := fun t => inW t x) (B := hasW u) _ fun t _ _ => ⟨rfl, by
      cases hi : inW t x
      · rfl
      · have := (inW_iff _ _).1 hi
        rw [norm_before hn (show t ≤ x.t by omega)]; rfl⟩, h1]
    omega
theorem IsSet.len {u : List Win} {S : Int → Bool} (h : IsSet u S) : lenW u = cnt S 4294944000 := by
  rw [lenW_cnt h.n]; exact cnt_congr _ fun t _ _ => h.h t
end Go.Proofs.Ytefodfpnedcodaa
/- Worlds with new blocks and draws, no more; comparing numbers: what the library's sort asks of a comparison. -/
namespace Go.Proofs.Ytefodfpnedcodaa
open Go.RowKit Go.Sort

/-- new blocks and draws, no more -/
def Gr (w w' : World) : Prop := ∃ (q : Nat) (os : Array Obj), w' = grow (w.drewN q) os
theorem Gr.refl (w : World) : Gr w w := ⟨0, #[], by simp [grow, World.drewN]⟩
theorem Gr.trans {a b c : World} (h : Gr a b) (k : Gr b c) : Gr a c := by
  obtain ⟨q, os, rfl⟩ := h
  obtain ⟨q', os', rfl⟩ := k
  exact ⟨q + q', os ++ os', by simp [grow, World.drewN, Nat.add_assoc, Array.append_assoc]⟩
theorem Gr.alloc (w : World) (o : Obj) : Gr w (w.alloc o) := ⟨0, #[o], by rw [alloc_eq_grow]; rfl⟩
theorem Gr.drewN (w : World) (q : Nat) : Gr w (w.drewN q) := ⟨q, #[], by rw [grow_empty]⟩
theorem Gr.since {w w' : World} (h : Gr w w') : ∃ y : Since w, w' = y.w := by
  obtain ⟨q, os, rfl⟩ := h
  exact ⟨⟨grow (w.drewN q) os, ⟨rfl, rfl, rfl, by simp [grow, World.drewN], fun b hb => by simp [grow, World.drewN, Array.getElem?_append, hb]⟩⟩, rfl⟩

structure GrW (w0 : World) where
  w : World
  g : Gr w0 w
instance (w0 : World) : Nonempty (GrW w0) := ⟨⟨w0, Gr.refl _⟩⟩
theorem wp_region_gr {P : Program} {id : Nat} {Q : Exit → Act → World → Prop} {a : Act} {w0 : World} {x : GrW w0} {l : List Oper} (hm : P.follows .mixedOrders = true) (hB : Region.lexB .any l.toArray = true)
    (h : wpQuiet P l.toArray (fun w' => ∃ y : GrW w0, w' = y.w) (fun a' => ∀ w', (∃ y : GrW w0, w' = y.w) → Q .normal a' w') l a) : (Code.region id l.toArray true).wp P Q a x.w :=
  wp_region_quiet (C := fun w' => ∃ y : GrW w0, w' = y.w) hm hB ⟨⟨_, x.g.trans (Gr.drewN x.w 1)⟩, rfl⟩ (by simpa using h)
theorem GrW.refl (w0 : World) : ∃ y : GrW w0, w0 = y.w := ⟨⟨w0, Gr.refl _⟩, rfl⟩
theorem GrW.step {w0 : World} (x : GrW w0) {w : World} (h : Gr x.w w) : ∃ y : GrW w0, w = y.w := ⟨⟨w, x.g.trans h⟩, rfl⟩
theorem GrW.cell {w0 : World} {a : Addr} {v : Value} (h : w0.cell? a = some v) (y : GrW w0) : y.w.cell? a = some v := by
  obtain ⟨z, e⟩ := y.g.since
  rw [e]
  have hb := World.block_lt_of_cell? w0 _ h
  rw [z.b.cell (p := a) hb]; exact h
theorem Gr.drew' {a b : World} (h : Gr a b) : Gr a b.drew := h.trans (Gr.drewN b 1)
theorem Gr.alloc' {a b : World} (h : Gr a b) (o : Obj) : Gr a (b.alloc o) := h.trans (Gr.alloc b o)
theorem Gr.cell {W w : World} {a : Addr} {v : Value} (h : W.cell? a = some v) (hw : Gr W w) : w.cell? a = some v := GrW.cell h ⟨w, hw⟩
/-- a number before another one -/
def ccmp (x y : Int) : Int := if x < y then -1 else if y < x then 1 else 0
theorem nan_calls (x : Int) (w : World) : Calls Try.prog 70 #[.int .i64 x] w fun e w' => e = .returned (.bool false) ∧ w = w' := by
  have h : (x != x) = false := by simp
  go_enter Try.func70, Try.ntmps70
  go_wp2_with fail
  go_ret
  exact ⟨rfl, rfl⟩
theorem ccmp_calls (x y : Int) (w : World) : Calls Try.prog 66 #[.int .i64 x, .int .i64 y] w fun e w' => e = .returned (.int .i64 (ccmp x y)) ∧ w = w' := by
  rcases (by omega : x < y ∨ (¬ x < y ∧ y < x) ∨ (¬ x < y ∧ ¬ y < x)) with h | ⟨h, h'⟩ | ⟨h, h'⟩
  · have hc := Lib.hid (show ccmp x y = -1 from by unfold ccmp; rw [if_pos h])
    go_enter Try.func66, Try.ntmps66
    go_wp2_with (go_at_call 70; refine (nan_calls _ _).mono ?_; rintro _ _ ⟨rfl, rfl⟩)
    go_ret
    exact ⟨ret_int hc.out.symm, rfl⟩
  · have hc := Lib.hid (show ccmp x y = 1 from by unfold ccmp; rw [if_neg h, if_pos h'])
    have h2 : y ≤ x := by omega
    go_enter Try.func66, Try.ntmps66
    go_wp2_with (go_at_call 70; refine (nan_calls _ _).mono ?_; rintro _ _ ⟨rfl, rfl⟩)
    go_ret
    exact ⟨ret_int hc.out.symm, rfl⟩
  · have hc := Lib.hid (show ccmp x y = 0 from by unfold ccmp; rw [if_neg h, if_neg h'])
    have h2 : y ≤ x := by omega
    have h3 : x ≤ y := by omega
    go_enter Try.func66, Try.ntmps66
    go_wp2_with (go_at_call 70; refine (nan_calls _ _).mono ?_; rintro _ _ ⟨rfl, rfl⟩)
    go_ret
    exact ⟨ret_int hc.out.symm, rfl⟩

end Go.Proofs.Ytefodfpnedcodaa
/- The walks of windows, first part: validity, comparison, search, sort. -/
namespace Go.Proofs.Ytefodfpnedcodaa
open Go.RowKit Go.Sort Go.Shelf Go.Lib

theorem vw_calls (w : World) (x : Since w) (e : Win) :
    Calls Try.prog 63 #[.agg #[.int .i64 e.f, .int .i64 e.t]] x.w fun o w' => o = .returned (.bool (vldW e)) ∧ ∃ y : Since w, w' = y.w := by
  have HG := Lib.hid (vldW_iff e)
  go_enter Try.func63, Try.ntmps63
  go_upto_region 1 with fail
  have hb0_0 : ∀ y : Since (x.w.alloc (.cells #[.int .i64 e.f, .int .i64 e.t] 31)), y.w.cell? ⟨x.w.heap.size, 0, none⟩ = some (.int .i64 e.f) := fun y => Since.cell (by simp [go_sem]) (by first | (simp; done) | (simp; omega)) y
  have hb0_1 : ∀ y : Since (x.w.alloc (.cells #[.int .i64 e.f, .int .i64 e.t] 31)), y.w.cell? ⟨x.w.heap.size, 1, none⟩ = some (.int .i64 e.t) := fun y => Since.cell (by simp [go_sem]) (by first | (simp; done) | (simp; omega)) y
  have hf0 : ∀ (y : Since (x.w.alloc (.cells #[.int .i64 e.f, .int .i64 e.t] 31))) (o : Nat), y.w.frozen? ⟨x.w.heap.size, o, none⟩ = false := fun y o => Since.free (by simp [go_sem]) (by first | (simp; done) | (simp; omega)) y
  have hWup : ∃ z : Since w, (x.w.alloc (.cells #[.int .i64 e.f, .int .i64 e.t] 31)) = z.w := x.alloc _
  obtain ⟨y0, hy0⟩ := Since.refl (x.w.alloc (.cells #[.int .i64 e.f, .int .i64 e.t] 31))
  have Hbx := Lib.hid (And.intro x.b.size (show x.w.heap.size + 1 = (x.w.alloc (.cells #[.int .i64 e.f, .int .i64 e.t] 31)).heap.size from by simp))
  generalize hW : (x.w.alloc (.cells #[.int .i64 e.f, .int .i64 e.t] 31)) = W at *
  clear hW
  generalize x.w.heap.size = bx at *
  have Hup := Lib.hid (Since.up hWup)
  rw [hy0]
  clear hy0
  clear hWup hf0
  rcases (by omega : e.f < 0 ∨ (0 ≤ e.f ∧ e.t < e.f) ∨ (0 ≤ e.f ∧ e.f ≤ e.t ∧ 4294944000 < e.t) ∨ (0 ≤ e.f ∧ e.f ≤ e.t ∧ e.t ≤ 4294944000)) with h | ⟨h, h'⟩ | ⟨h, h', h''⟩ | ⟨h, h', h''⟩
  case inr.inr.inr =>
    have Hr := Lib.hid (show vldW e = true from HG.out.2 (by omega))
    clear HG
    go_wp2_with fail
    go_ret
    exact ⟨ret_bool (by first | exact Hr.out.symm | (rw [Hr.out]; simp; omega)), Hup.out _⟩
  all_goals
    have Hr := Lib.hid (show vldW e = false by
      cases hg : vldW e
      · rfl
      · have := HG.out.1 hg; omega)
    clear HG
    go_wp2_with fail
    go_ret
    exact ⟨ret_bool (by first | exact Hr.out.symm | (rw [Hr.out]; simp; omega)), Hup.out _⟩
theorem nvw_calls (w : World) (x : Since w) (e : Win) :
    Calls Try.prog 62 #[.agg #[.int .i64 e.f, .int .i64 e.t]] x.w fun o w' => o = .returned (.bool (!vldW e)) ∧ ∃ y : Since w, w' = y.w := by
  go_enter Try.func62, Try.ntmps62
  go_upto_region 1 with fail
  have hb0_0 : ∀ y : Since (x.w.alloc (.cells #[.int .i64 e.f, .int .i64 e.t] 31)), y.w.cell? ⟨x.w.heap.size, 0, none⟩ = some (.int .i64 e.f) := fun y => Since.cell (by simp [go_sem]) (by first | (simp; done) | (simp; omega)) y
  have hb0_1 : ∀ y : Since (x.w.alloc (.cells #[.int .i64 e.f, .int .i64 e.t] 31)), y.w.cell? ⟨x.w.heap.size, 1, none⟩ = some (.int .i64 e.t) := fun y => Since.cell (by simp [go_sem]) (by first | (simp; done) | (simp; omega)) y
  have hf0 : ∀ (y : Since (x.w.alloc (.cells #[.int .i64 e.f, .int .i64 e.t] 31))) (o : Nat), y.w.frozen? ⟨x.w.heap.size, o, none⟩ = false := fun y o => Since.free (by simp [go_sem]) (by first | (simp; done) | (simp; omega)) y
  have hWup : ∃ z : Since w, (x.w.alloc (.cells #[.int .i64 e.f, .int .i64 e.t] 31)) = z.w := x.alloc _
  obtain ⟨y0, hy0⟩ := Since.refl (x.w.alloc (.cells #[.int .i64 e.f, .int .i64 e.t] 31))
  have Hbx := Lib.hid (And.intro x.b.size (show x.w.heap.size + 1 = (x.w.alloc (.cells #[.int .i64 e.f, .int .i64 e.t] 31)).heap.size from by simp))
  generalize hW : (x.w.alloc (.cells #[.int .i64 e.f, .int .i64 e.t] 31)) = W at *
  clear hW
  generalize x.w.heap.size = bx at *
  have Hup := Lib.hid (Since.up hWup)
  rw [hy0]
  clear hy0
  clear hWup hf0
  have Hc := Lib.hid (fun y : Since W => vw_calls W y e)
  cases hv : vldW e
  all_goals
    have Hv := Lib.hid hv
    rw [hv] at Hc
    clear hv
    go_wp2_with (go_at_call 63; ((with_reducible refine (Hc.out _).mono ?_); rintro _ _ ⟨rfl, y1, rfl⟩))
    go_ret
    exact ⟨ret_bool (by rw [Hv.out]; rfl), Hup.out _⟩
def wcmp (a b : Win) : Int := ccmp a.f b.f
theorem wcmp_calls (a b : Win) (w : World) : Calls Try.prog 65 #[.agg #[.int .i64 a.f, .int .i64 a.t], .agg #[.int .i64 b.f, .int .i64 b.t]] w fun e w' => e = .returned (.int .i64 (wcmp a b)) ∧ Gr w w' := by
  have Hv := Lib.hid (show wcmp a b = ccmp a.f b.f from rfl)
  have Hg := Lib.hid ((Gr.alloc w (.cells #[.int .i64 a.f, .int .i64 a.t] 31)).trans (Gr.alloc _ (.cells #[.int .i64 b.f, .int .i64 b.t] 31)))
  go_enter Try.func65, Try.ntmps65
  go_wp2_with (go_at_call 66; refine (ccmp_calls _ _ _).mono ?_; rintro _ _ ⟨rfl, rfl⟩)
  go_ret
  exact ⟨ret_int Hv.out.symm, Hg.out⟩
theorem ltOf_wcmp : ltOf wcmp = fun a b : Win => decide (a.f < b.f) := by
  funext a b
  show decide (wcmp a b < 0) = _
  unfold wcmp ccmp
  rw [decide_eq_decide]
  split
  · omega
  · split <;> omega
theorem swo_w : SWO (ltOf wcmp) := by
  rw [ltOf_wcmp]
  refine ⟨fun x => by simp, fun x y z h1 h2 => ?_, fun x y z h1 h2 => ?_⟩
  · simp at h1 h2 ⊢; omega
  · simp at h1 h2 ⊢; omega
end Go.Proofs.Ytefodfpnedcodaa
/- The walks of windows, second part: the search for a window that is not valid, the sort. -/
namespace Go.Proofs.Ytefodfpnedcodaa
open Go.RowKit Go.Sort Go.Shelf Go.Lib

theorem idxW_neg : ∀ (l : List Win) (i : Int), 0 ≤ i → (0 ≤ Lib.idxBy (fun _ (y : Win) => !vldW y) l default ↔ badW l = true) := by
  intro l _ _
  have hb : ∀ j, j < l.length → l[j]! = l.getD j default := fun j hj => by
    rw [getElem!_pos l j hj, List.getD_eq_getElem?_getD, List.getElem?_eq_getElem hj]; rfl
  by_cases hbad : badW l = true
  · refine ⟨fun _ => hbad, fun _ => ?_⟩
    have : ∀ n, n ≤ l.length → (∃ k : Nat, k < n ∧ vldW (l.getD k default) = false ∧ ∀ j, j < k → vldW (l.getD j default) = true) ∨ ∀ j, j < n → vldW (l.getD j default) = true := by
      intro n
      induction n with
      | zero => intro _; exact .inr fun j hj => by omega
      | succ n ih =>
        intro hn
        rcases ih (by omega) with ⟨k, h1, h2, h3⟩ | h
        · exact .inl ⟨k, by omega, h2, h3⟩
        · cases hv : vldW (l.getD n default)
          · exact .inl ⟨n, by omega, hv, h⟩
          · exact .inr fun j hj => by
              by_cases hjn : j < n
              · exact h j hjn
              · obtain rfl : j = n := by omega
                exact hv
    rcases this l.length (Nat.le_refl _) with ⟨k, h1, h2, h3⟩ | h
    · have := Lib.idxBy_hit (fun _ (y : Win) => !vldW y) l l.length k default h1 (Nat.le_refl _) (by rw [hb k h1, h2]; rfl) (fun j hj => by rw [hb j (by omega), h3 j hj]; rfl)
      rw [List.take_length] at this
      rw [this]; omega
    · exfalso
      have : badW l = false := badW_false.2 fun x hx => by
        obtain ⟨j, hj⟩ := List.mem_iff_getElem?.1 hx
        have := h j (List.getElem?_eq_some_iff.1 hj).1
        rw [List.getD_eq_getElem?_getD, hj] at this; exact this
      rw [this] at hbad; cases hbad
  · have hf : badW l = false := by cases h : badW l; rfl; exact (hbad h).elim
    have := Lib.idxBy_miss (fun _ (y : Win) => !vldW y) l l.length default (fun j hj => by
      rw [hb j hj, badW_false.1 hf _ (by rw [List.getD_eq_getElem?_getD, List.getElem?_eq_getElem hj]; exact List.getElem_mem _)]; rfl)
    rw [List.take_length] at this
    rw [this, hf]; simp
def idxW (l : List Win) : Int := Lib.idxBy (fun _ (y : Win) => !vldW y) l default
set_option maxHeartbeats 4000000 in
theorem idxW_calls (w : World) (x : Since w) (pa : Option Addr) (lp : List Win) (pc : Nat) (hp : WinRow w pa lp) (hpl : lp.length ≤ 9223372036854775807) :
    Calls Try.prog 67 #[.slice pa lp.length pc, .func (.func 62) #[] #[]] x.w fun o w' => o = .returned (.int .i64 (idxW lp)) ∧ ∃ y : Since w, w' = y.w := by
  by_cases hn : lp.length = 0
  · have hl : lp = [] := List.eq_nil_of_length_eq_zero hn
    subst hl
    have Hi := Lib.hid (show idxW [] = -1 from rfl)
    clear hn hp
    go_enter Try.func67, Try.ntmps67
    go_wp2_with fail
    go_loopw [8] (fun i wr => i = .int .i64 0 ∧ wr = x.w) (fun _ _ => 0)
    case atStart => exact ⟨rfl, rfl⟩
    case round =>
      obtain ⟨rfl, rfl⟩ := hrel
      go_wp2_with fail
      go_ret
      exact ⟨ret_int Hi.out.symm, _, rfl⟩
  · have eg : ∀ args w, (callFunc 62 args).run Try.prog w = .ok (.enter 62 args) w := enters_of Try.func62 (by kernel_rfl) rfl
    obtain ⟨e0, he0⟩ : ∃ e, lp[0]? = some e := ⟨_, List.getElem?_eq_getElem (by omega)⟩
    obtain ⟨b, off, rfl, hb, _⟩ := Since.els hp x 0 e0 he0
    have hc := AnyQ.slices_IndexFunc Try.idxWin 2 Try.isAgg31 Try.sizeOf31 Win.cs Win.len (fun p => !vldW p) 62 #[] eg b off lp.length pc lp x.w (fun W p hW => by
      obtain ⟨y, hy⟩ := x.step hW
      subst hy
      refine (nvw_calls x.w ⟨_, hW⟩ p).mono ?_
      rintro _ w' ⟨rfl, z, rfl⟩
      exact ⟨rfl, z.b⟩) (Nat.le_refl _) hpl hb (fun j hj i v hv => by
      rw [getElem!_pos lp j hj] at hv
      obtain ⟨b', off', he, _, hcell⟩ := Since.els hp x j _ (List.getElem?_eq_getElem hj)
      simp at he
      obtain ⟨rfl, rfl⟩ := he
      exact hcell i v hv)
    change Calls Try.prog 67 _ _ _ at hc
    refine hc.mono ?_
    rintro _ w' ⟨rfl, hb⟩
    obtain ⟨y, rfl⟩ := x.step hb
    refine ⟨?_, y, rfl⟩
    rw [List.take_length]; rfl
theorem anyW_calls (w : World) (x : Since w) (pa : Option Addr) (lp : List Win) (pc : Nat) (hp : WinRow w pa lp) (hpl : lp.length ≤ 9223372036854775807) :
    Calls Try.prog 61 #[.slice pa lp.length pc, .func (.func 62) #[] #[]] x.w fun o w' => o = .returned (.bool (badW lp)) ∧ ∃ y : Since w, w' = y.w := by
  have Hc := Lib.hid (idxW_calls w x pa lp pc hp hpl)
  have Hi := Lib.hid (show 0 ≤ idxW lp ↔ badW lp = true from idxW_neg lp 0 (by omega))
  generalize idxW lp = i at *
  by_cases h : 0 ≤ i
  · have Hr := Lib.hid (Hi.out.1 h)
    go_enter Try.func61, Try.ntmps61
    go_wp2_with fail
    refine Hc.out.mono ?_
    rintro _ _ ⟨rfl, y1, rfl⟩
    go_wp2_with fail
    go_ret
    exact ⟨ret_bool (by first | exact Hr.out.symm | (rw [Hr.out]; simp; omega)), _, rfl⟩
  · have Hr := Lib.hid (show badW lp = false by cases hb : badW lp; rfl; exact (h (Hi.out.2 hb)).elim)
    have h' : i < 0 := by omega
    clear h
    go_enter Try.func61, Try.ntmps61
    go_wp2_with fail
    refine Hc.out.mono ?_
    rintro _ _ ⟨rfl, y1, rfl⟩
    go_wp2_with fail
    go_ret
    exact ⟨ret_bool (by first | exact Hr.out.symm | (rw [Hr.out]; simp; omega)), _, rfl⟩
/-- what the sort leaves of a slice of the call's own -/
def SortWPost (w : World) (v : Value) (l : List Win) (e : Ending) (w' : World) : Prop :=
  e = .returned (.tuple #[]) ∧ w.grownBy w' v.ownBlock ∧ ∃ a cap l', v = .slice a l.length cap ∧ l.length ≤ cap ∧ l'.Perm l ∧ l'.Pairwise (fun x y : Win => x.f ≤ y.f) ∧ WinRow w' a l'
theorem sortW_calls (w : World) (base : Nat) (v : Value) (n : Nat) (l : List Win) (hown : w.ownsRow base 31 2 v n (flat Win.cs l)) (hl : l.length < 4611686018427387904) :
    Calls Try.prog 64 #[v, .func (.func 65) #[] #[]] w (SortWPost w v l) := by
  obtain ⟨rfl, a, cap, rfl, hcap, hels, hbase, hblk⟩ := own_els Win.len (by decide) hown
  by_cases h0 : l.length = 0
  · have hl0 : l = [] := List.eq_nil_of_length_eq_zero h0
    subst hl0
    have hc := AnyF.slices_SortFunc_none { Try.sortWin with } a cap (.func (.func 65) #[] #[]) w
    change Calls Try.prog 64 _ _ _ at hc
    refine hc.mono ?_
    rintro _ _ ⟨rfl, rfl⟩
    exact ⟨rfl, World.grownBy.refl _ _, a, cap, [], rfl, hcap, .nil, .nil, els_nil _ _⟩
  · obtain ⟨x, hx⟩ : ∃ x, l[0]? = some x := ⟨l[0]'(by omega), List.getElem?_eq_getElem (by omega)⟩
    obtain ⟨g, off, ha, hg, _⟩ := hels 0 x hx
    subst ha
    obtain rfl : off = 0 := by
      obtain ⟨_, ⟨hbad, _⟩ | ⟨g', cap', cur, he, _⟩⟩ := hown
      · cases hbad
      · simp at he; exact he.1.2
    have hH := own_holdsK (l := l) Win.len (by decide) hown
    have eg : ∀ args w, (callFunc 65 args).run Try.prog w = .ok (.enter 65 args) w := enters_of Try.func65 (by kernel_rfl) rfl
    have hcmp : CmpLays Try.prog 65 #[] Win.cs 2 wcmp g 0 l.toArray.size w := fun m os dk _ u v => by
      have := wcmp_calls u v (sortWorldK Win.cs 2 w g 0 m dk os)
      exact this
    have hc := AnyQ.slices_SortFunc Try.sortWin 2 Try.isAgg31 Try.sizeOf31 Win.cs Win.len win_one wcmp swo_w 65 #[] g 0 cap l.toArray w eg hcmp hH hg (by simpa using hl)
    change Calls Try.prog 64 _ _ _ at hc
    refine hc.mono ?_
    rintro _ _ ⟨rfl, d', n, os, hP, hS, rfl⟩
    obtain ⟨hsz, _, hperm⟩ := hP
    have hh := holdsK_sortWorldK_c Win.cs 2 w g 0 l.toArray d' n os hH hg hsz
    have hsz' : d'.size = l.length := by simpa using hsz
    refine ⟨rfl, grownBy_sortK _ _ _ _ _ _ _, _, cap, d'.toList, rfl, hcap, ?_, ?_, els_of_holdsK Win.len hh (Nat.lt_of_lt_of_le hg (grownBy_sortK _ _ _ _ _ _ _).size)⟩
    · have h1 : (d'.extract 0 l.toArray.size) = d' := by rw [← hsz]; exact Array.extract_size
      have h2 : (l.toArray.extract 0 l.toArray.size) = l.toArray := Array.extract_size
      rw [h1, h2] at hperm
      simpa using hperm
    · rw [List.pairwise_iff_getElem]
      intro i j hi hj hij
      have hi' : i < d'.size := by simpa using hi
      have hj' : j < d'.size := by simpa using hj
      have := hS i j (Nat.zero_le _) hij (by simp; omega)
      rw [ltOf_wcmp, getElem!_pos d' j hj', getElem!_pos d' i hi'] at this
      simp at this
      simpa using this
end Go.Proofs.Ytefodfpnedcodaa
