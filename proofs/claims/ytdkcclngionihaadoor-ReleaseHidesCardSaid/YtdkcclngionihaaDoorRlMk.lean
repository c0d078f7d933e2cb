/- Releases, the program: Exact, walked. -/
import Derived.Test.YtdkcclngionihaaDoorRlMj
set_option linter.all false
namespace Go.Proofs.YtdkcclngionihaaDoor
open Go.RowKit

/-- a release -/
structure Rel where
  f : Int
  t : Int
  each : Int
  r : Int
  c : Int
  cells : List Int
  hid : List Bool
  rows : List Int
  cols : List Int
  ws : List Int
def rel0 : Rel := ⟨0, 0, 0, 0, 0, [], [], [], [], []⟩
def RelRes (w : World) (E : Rel) (e : Int) (o : Ending) (w' : World) : Prop :=
  ∃ (a1 a2 a3 a4 a5 : Option Addr) (c1 c2 c3 c4 c5 : Nat) (y : Since w), o = .returned (.tuple #[.agg #[.int .i64 E.f, .int .i64 E.t, .int .i64 E.each, .int .i64 E.r, .int .i64 E.c, .slice a1 E.cells.length c1, .slice a2 E.hid.length c2, .slice a3 E.rows.length c3, .slice a4 E.cols.length c4, .slice a5 E.ws.length c5], .int .i64 e]) ∧ w' = y.w ∧ IntRow y.w a1 E.cells ∧ BlRow y.w a2 E.hid ∧ IntRow y.w a3 E.rows ∧ IntRow y.w a4 E.cols ∧ IntRow y.w a5 E.ws ∧ ∀ b, a1 = some b ∨ a2 = some b ∨ a3 = some b ∨ a4 = some b ∨ a5 = some b → w.heap.size ≤ b.block
theorem relres_no {w : World} {e : Int} (y : Since w) : RelRes w rel0 e (.returned (.tuple #[.agg #[.int .i64 0, .int .i64 0, .int .i64 0, .int .i64 0, .int .i64 0, .slice none 0 0, .slice none 0 0, .slice none 0 0, .slice none 0 0, .slice none 0 0], .int .i64 e])) y.w :=
  ⟨none, none, none, none, none, 0, 0, 0, 0, 0, y, rfl, rfl, row_nil' _, fun i hi => (by cases hi), row_nil' _, row_nil' _, row_nil' _, fun b hb => by rcases hb with h | h | h | h | h <;> cases h⟩
/-- what is published of the cells -/
def hidL (l : List Int) (h : List Bool) : List Int := (List.range l.length).map fun i => if bo h i = true then 0 else at0 l i
noncomputable def exE (zs : List Int) (size : Int) (R : List Ride) (f t each least width : Int) : Int := if rlE zs size R f t each ≠ 0 then rlE zs size R f t each else hideE size.toNat size.toNat (rlT zs size R f t each).l least width
noncomputable def exR (zs : List Int) (size : Int) (R : List Ride) (f t each least width : Int) : Rel := if exE zs size R f t each least width = 0 then
    match hideV size.toNat size.toNat (rlT zs size R f t each).l least width with
    | some h => ⟨f, t, each, size, size, hidL (rlT zs size R f t each).l h, h, rowL size.toNat size.toNat (rlT zs size R f t each).l (rlT zs size R f t each).l.length, colL size.toNat (rlT zs size R f t each).l (rlT zs size R f t each).l.length, []⟩
    | none => rel0
  else rel0
theorem rl_good {zs : List Int} {size : Int} {R : List Ride} {f t each : Int} (h : rlE zs size R f t each = 0) (hl : R.length ≤ 1024) :
    ∃ (n : Nat) (l : List Int), size = (n : Int) ∧ rlT zs size R f t each = ⟨n, n, l⟩ ∧ SG n n l := by
  have ht : tabE zs size R f t each = 0 := by
    unfold rlE at h
    by_cases h0 : tabE zs size R f t each = 0
    · exact h0
    · rw [if_pos h0] at h; exact absurd h h0
  obtain ⟨n, hn, hV, hG⟩ := tab_good ht hl
  refine ⟨n, _, hn, ?_, hG⟩
  unfold rlT; rw [if_pos h, hV]
/-- three new boxes in a statement that draws -/
theorem three_boxD (w : World) (vs us ts : List Value) (T U V : TypeId) : ∃ y : Since w, (((w.alloc (.cells vs.toArray T)).alloc (.cells us.toArray U)).alloc (.cells ts.toArray V)).drew = y.w ∧ BoxIs y.w w.heap.size vs ∧ BoxIs y.w (w.heap.size + 1) us ∧ BoxIs y.w (w.heap.size + 2) ts := by
  obtain ⟨y, hy⟩ : IsSince w (((w.alloc (.cells vs.toArray T)).alloc (.cells us.toArray U)).alloc (.cells ts.toArray V)).drew := IsSince.drew' (IsSince.alloc (IsSince.alloc (IsSince.alloc (IsSince.self _) _) _) _)
  have b1 := (((BoxIs.new w vs T).up (.cells us.toArray U)).up (.cells ts.toArray V)).drew
  have b2 := ((BoxIs.new (w.alloc (.cells vs.toArray T)) us U).up (.cells ts.toArray V)).drew
  have b3 := (BoxIs.new ((w.alloc (.cells vs.toArray T)).alloc (.cells us.toArray U)) ts V).drew
  rw [show (w.alloc (.cells vs.toArray T)).heap.size = w.heap.size + 1 by simp] at b2
  rw [show ((w.alloc (.cells vs.toArray T)).alloc (.cells us.toArray U)).heap.size = w.heap.size + 2 by simp] at b3
  exact ⟨y, hy, hy ▸ b1, hy ▸ b2, hy ▸ b3⟩
section
variable {w : World} {gt gr gL gR gC : Nat} {tv rv : List Value} {m : Nat} {cf : Nat → Int} {rows cols : List Int} {ah : Option Addr} {h : List Bool}
theorem XS.sets {g : Nat} (hg : gt ≠ g ∧ gr ≠ g ∧ gL ≠ g ∧ gR ≠ g ∧ gC ≠ g ∧ ∀ b, ah = some b → b.block ≠ g) : ∀ (vs : List Value) (o : Nat) (w : World), XS w gt gr gL gR gC tv rv m cf rows cols ah h → XS (w.setCells g o vs) gt gr gL gR gC tv rv m cf rows cols ah h
  | [], _, _, s => s
  | v :: vs, o, w, s => XS.sets hg vs (o + 1) (w.setCell ⟨g, o, none⟩ v) ⟨s.t.far _ _ hg.1, s.r.far _ _ hg.2.1, s.l.setOther _ (Ne.symm hg.2.2.1) _, s.a.far _ _ hg.2.2.2.1, s.b.far _ _ hg.2.2.2.2.1, s.h.set _ _ hg.2.2.2.2.2⟩
theorem XS.congr (s : XS w gt gr gL gR gC tv rv m cf rows cols ah h) {cf' : Nat → Int} {rows' cols' : List Int} (h1 : ∀ j, j < m → cf j = cf' j) (h2 : rows = rows') (h3 : cols = cols') : XS w gt gr gL gR gC tv rv m cf' rows' cols' ah h := by
  subst h2; subst h3
  exact ⟨s.t, s.r, s.l.congr h1, s.a, s.b, s.h⟩
end
theorem rowL_zero (R C : Nat) (l : List Int) : List.replicate R 0 = rowL R C l 0 := by
  refine List.ext_getElem (by simp [rowL]) fun i h1 h2 => ?_
  simp [rowL, rowF, sumF]
theorem colL_zero (C : Nat) (l : List Int) : List.replicate C 0 = colL C l 0 := by
  refine List.ext_getElem (by simp [colL]) fun i h1 h2 => ?_
  simp [colL, colF, sumF]
theorem rowL_len (R C : Nat) (l : List Int) (k : Nat) : (rowL R C l k).length = R := by simp [rowL]
theorem colL_len (C : Nat) (l : List Int) (k : Nat) : (colL C l k).length = C := by simp [colL]
theorem hidL_len (l : List Int) (h : List Bool) : (hidL l h).length = l.length := by simp [hidL]
/-- the published cells behind k of them -/
def cfK (l : List Int) (h : List Bool) (k j : Nat) : Int := if j < k ∧ bo h j = true then 0 else at0 l j
theorem cfK_self (l : List Int) (h : List Bool) (k : Nat) : cfK l h k k = at0 l k := by unfold cfK; rw [if_neg (by omega)]
theorem cfK_hid {l : List Int} {h : List Bool} {k : Nat} (hb : bo h k = true) : cfK l h (k + 1) k = 0 := by unfold cfK; rw [if_pos ⟨by omega, hb⟩]
theorem cfK_ne (l : List Int) (h : List Bool) {k j : Nat} (hj : j ≠ k) : cfK l h (k + 1) j = cfK l h k j := by
  unfold cfK
  by_cases h1 : j < k
  · simp [h1, show j < k + 1 by omega]
  · simp [h1, show ¬ j < k + 1 by omega]
theorem cfK_show {l : List Int} {h : List Bool} {k : Nat} (hb : bo h k = false) (j : Nat) : cfK l h k j = cfK l h (k + 1) j := by
  by_cases e : j = k
  · subst e; unfold cfK; rw [if_neg (by omega), if_neg (by rw [hb]; simp)]
  · exact (cfK_ne l h e).symm
theorem exact_res {w : World} {f t each : Int} {n : Nat} {l : List Int} {h : List Bool} {gt gr gL gR gC c1 ch : Nat} {tv rv : List Value} {ah : Option Addr} (Z : Since w) (hl : h.length = l.length) (hfr : w.heap.size ≤ gL ∧ w.heap.size ≤ gR ∧ w.heap.size ≤ gC ∧ ∀ b, ah = some b → w.heap.size ≤ b.block) (s : XS Z.w gt gr gL gR gC tv rv l.length (cfK l h l.length) (rowL n n l l.length) (colL n l l.length) ah h) :
    RelRes w ⟨f, t, each, n, n, hidL l h, h, rowL n n l l.length, colL n l l.length, []⟩ 0 (.returned (.tuple #[.agg #[.int .i64 f, .int .i64 t, .int .i64 each, .int .i64 (n : Int), .int .i64 (n : Int), .slice (some ⟨gL, 0, none⟩) l.length c1, .slice ah l.length ch, .slice (some ⟨gR, 0, none⟩) n n, .slice (some ⟨gC, 0, none⟩) n n, .slice none 0 0], .int .i64 0])) Z.w := by
  refine ⟨some ⟨gL, 0, none⟩, ah, some ⟨gR, 0, none⟩, some ⟨gC, 0, none⟩, none, c1, ch, n, n, 0, Z, ?_, rfl, ?_, s.h, s.a.ints, s.b.ints, row_nil' _, fun b hb => by
    rcases hb with h | h | h | h | h
    · cases h; exact hfr.1
    · exact hfr.2.2.2 b h
    · cases h; exact hfr.2.1
    · cases h; exact hfr.2.2.1
    · cases h⟩
  · simp only [hidL_len, rowL_len, colL_len, hl]; rfl
  · exact nums_row (s.l.congr (f' := fun i => if bo h i = true then 0 else at0 l i) fun j hj => by unfold cfK; simp [hj]) _ rfl
set_option linter.unusedSimpArgs false in
set_option maxRecDepth 100000 in
set_option maxHeartbeats 16000000 in
theorem exact_calls (w : World) (x : Since w) (az : Option Addr) (zs : List Int) (cz : Nat) (size : Int) (a : Option Addr) (R : List Ride) (c : Nat) (f t each least width : Int) (hz : IntRow w az zs) (hzl : zs.length ≤ 9223372036854775807) (h : RideRow w a R) (hl : R.length ≤ 1024) (hI : ∀ r ∈ R, r.fp ≤ 9223372036854775807 ∧ r.pl ≤ 9223372036854775807) :
    Calls Tryd.prog 12 #[.slice az zs.length cz, .int .i64 size, .slice a R.length c, .agg #[.int .i64 f, .int .i64 t], .int .i64 each, .int .i64 least, .int .i64 width] x.w (RelRes w (exR zs size R f t each least width) (exE zs size R f t each least width)) := by
  have HZ := Lib.hid hz
  have HR := Lib.hid h
  have HC := Lib.hid (fun (W : World) (y : Since W) hz h => rltable_calls W y az zs cz size a R c f t each hz hzl h (by omega) hI)
  have HG := Lib.hid (fun h => rl_good (zs := zs) (size := size) (R := R) (f := f) (t := t) (each := each) h hl)
  have HE := Lib.hid (show exE zs size R f t each least width = if rlE zs size R f t each ≠ 0 then rlE zs size R f t each else hideE size.toNat size.toNat (rlT zs size R f t each).l least width from rfl)
  have HT := Lib.hid (show exR zs size R f t each least width = if exE zs size R f t each least width = 0 then
    match hideV size.toNat size.toNat (rlT zs size R f t each).l least width with
    | some h => ⟨f, t, each, size, size, hidL (rlT zs size R f t each).l h, h, rowL size.toNat size.toNat (rlT zs size R f t each).l (rlT zs size R f t each).l.length, colL size.toNat (rlT zs size R f t each).l (rlT zs size R f t each).l.length, []⟩
    | none => rel0
  else rel0 from rfl)
  generalize exE zs size R f t each least width = E at *
  generalize exR zs size R f t each least width = X at *
  generalize rlE zs size R f t each = E2 at *
  generalize rlT zs size R f t each = T2 at *
  generalize zs.length = nz at *
  generalize R.length = nr at *
  clear hz h hl hzl hI
  go_enter Tryd.func12, Tryd.ntmps12
  go_upto_region 1 with fail
  have hb0_0 : ∀ y : Since ((x.w.alloc (.cells #[.int .i64 f, .int .i64 t] 25)).alloc (.cells #[.int .i64 0, .int .i64 0, .int .i64 0, .int .i64 0, .int .i64 0, .slice none 0 0, .slice none 0 0, .slice none 0 0, .slice none 0 0, .slice none 0 0] 36)), y.w.cell? ⟨x.w.heap.size, 0, none⟩ = some (.int .i64 f) := fun y => Since.cell (by simp [go_sem]) (by first | (simp; done) | (simp; omega)) y
  have hb0_1 : ∀ y : Since ((x.w.alloc (.cells #[.int .i64 f, .int .i64 t] 25)).alloc (.cells #[.int .i64 0, .int .i64 0, .int .i64 0, .int .i64 0, .int .i64 0, .slice none 0 0, .slice none 0 0, .slice none 0 0, .slice none 0 0, .slice none 0 0] 36)), y.w.cell? ⟨x.w.heap.size, 1, none⟩ = some (.int .i64 t) := fun y => Since.cell (by simp [go_sem]) (by first | (simp; done) | (simp; omega)) y
  have hf0 : ∀ (y : Since ((x.w.alloc (.cells #[.int .i64 f, .int .i64 t] 25)).alloc (.cells #[.int .i64 0, .int .i64 0, .int .i64 0, .int .i64 0, .int .i64 0, .slice none 0 0, .slice none 0 0, .slice none 0 0, .slice none 0 0, .slice none 0 0] 36))) (o : Nat), y.w.frozen? ⟨x.w.heap.size, o, none⟩ = false := fun y o => Since.free (by simp [go_sem]) (by first | (simp; done) | (simp; omega)) y
  have hb1_0 : ∀ y : Since ((x.w.alloc (.cells #[.int .i64 f, .int .i64 t] 25)).alloc (.cells #[.int .i64 0, .int .i64 0, .int .i64 0, .int .i64 0, .int .i64 0, .slice none 0 0, .slice none 0 0, .slice none 0 0, .slice none 0 0, .slice none 0 0] 36)), y.w.cell? ⟨x.w.heap.size + 1, 0, none⟩ = some (.int .i64 0) := fun y => Since.cell (by simp [go_sem]) (by first | (simp; done) | (simp; omega)) y
  have hb1_1 : ∀ y : Since ((x.w.alloc (.cells #[.int .i64 f, .int .i64 t] 25)).alloc (.cells #[.int .i64 0, .int .i64 0, .int .i64 0, .int .i64 0, .int .i64 0, .slice none 0 0, .slice none 0 0, .slice none 0 0, .slice none 0 0, .slice none 0 0] 36)), y.w.cell? ⟨x.w.heap.size + 1, 1, none⟩ = some (.int .i64 0) := fun y => Since.cell (by simp [go_sem]) (by first | (simp; done) | (simp; omega)) y
  have hb1_2 : ∀ y : Since ((x.w.alloc (.cells #[.int .i64 f, .int .i64 t] 25)).alloc (.cells #[.int .i64 0, .int .i64 0, .int .i64 0, .int .i64 0, .int .i64 0, .slice none 0 0, .slice none 0 0, .slice none 0 0, .slice none 0 0, .slice none 0 0] 36)), y.w.cell? ⟨x.w.heap.size + 1, 2, none⟩ = some (.int .i64 0) := fun y => Since.cell (by simp [go_sem]) (by first | (simp; done) | (simp; omega)) y
  have hb1_3 : ∀ y : Since ((x.w.alloc (.cells #[.int .i64 f, .int .i64 t] 25)).alloc (.cells #[.int .i64 0, .int .i64 0, .int .i64 0, .int .i64 0, .int .i64 0, .slice none 0 0, .slice none 0 0, .slice none 0 0, .slice none 0 0, .slice none 0 0] 36)), y.w.cell? ⟨x.w.heap.size + 1, 3, none⟩ = some (.int .i64 0) := fun y => Since.cell (by simp [go_sem]) (by first | (simp; done) | (simp; omega)) y
  have hb1_4 : ∀ y : Since ((x.w.alloc (.cells #[.int .i64 f, .int .i64 t] 25)).alloc (.cells #[.int .i64 0, .int .i64 0, .int .i64 0, .int .i64 0, .int .i64 0, .slice none 0 0, .slice none 0 0, .slice none 0 0, .slice none 0 0, .slice none 0 0] 36)), y.w.cell? ⟨x.w.heap.size + 1, 4, none⟩ = some (.int .i64 0) := fun y => Since.cell (by simp [go_sem]) (by first | (simp; done) | (simp; omega)) y
  have hb1_5 : ∀ y : Since ((x.w.alloc (.cells #[.int .i64 f, .int .i64 t] 25)).alloc (.cells #[.int .i64 0, .int .i64 0, .int .i64 0, .int .i64 0, .int .i64 0, .slice none 0 0, .slice none 0 0, .slice none 0 0, .slice none 0 0, .slice none 0 0] 36)), y.w.cell? ⟨x.w.heap.size + 1, 5, none⟩ = some (.slice none 0 0) := fun y => Since.cell (by simp [go_sem]) (by first | (simp; done) | (simp; omega)) y
  have hb1_6 : ∀ y : Since ((x.w.alloc (.cells #[.int .i64 f, .int .i64 t] 25)).alloc (.cells #[.int .i64 0, .int .i64 0, .int .i64 0, .int .i64 0, .int .i64 0, .slice none 0 0, .slice none 0 0, .slice none 0 0, .slice none 0 0, .slice none 0 0] 36)), y.w.cell? ⟨x.w.heap.size + 1, 6, none⟩ = some (.slice none 0 0) := fun y => Since.cell (by simp [go_sem]) (by first | (simp; done) | (simp; omega)) y
  have hb1_7 : ∀ y : Since ((x.w.alloc (.cells #[.int .i64 f, .int .i64 t] 25)).alloc (.cells #[.int .i64 0, .int .i64 0, .int .i64 0, .int .i64 0, .int .i64 0, .slice none 0 0, .slice none 0 0, .slice none 0 0, .slice none 0 0, .slice none 0 0] 36)), y.w.cell? ⟨x.w.heap.size + 1, 7, none⟩ = some (.slice none 0 0) := fun y => Since.cell (by simp [go_sem]) (by first | (simp; done) | (simp; omega)) y
  have hb1_8 : ∀ y : Since ((x.w.alloc (.cells #[.int .i64 f, .int .i64 t] 25)).alloc (.cells #[.int .i64 0, .int .i64 0, .int .i64 0, .int .i64 0, .int .i64 0, .slice none 0 0, .slice none 0 0, .slice none 0 0, .slice none 0 0, .slice none 0 0] 36)), y.w.cell? ⟨x.w.heap.size + 1, 8, none⟩ = some (.slice none 0 0) := fun y => Since.cell (by simp [go_sem]) (by first | (simp; done) | (simp; omega)) y
  have hb1_9 : ∀ y : Since ((x.w.alloc (.cells #[.int .i64 f, .int .i64 t] 25)).alloc (.cells #[.int .i64 0, .int .i64 0, .int .i64 0, .int .i64 0, .int .i64 0, .slice none 0 0, .slice none 0 0, .slice none 0 0, .slice none 0 0, .slice none 0 0] 36)), y.w.cell? ⟨x.w.heap.size + 1, 9, none⟩ = some (.slice none 0 0) := fun y => Since.cell (by simp [go_sem]) (by first | (simp; done) | (simp; omega)) y
  have hf1 : ∀ (y : Since ((x.w.alloc (.cells #[.int .i64 f, .int .i64 t] 25)).alloc (.cells #[.int .i64 0, .int .i64 0, .int .i64 0, .int .i64 0, .int .i64 0, .slice none 0 0, .slice none 0 0, .slice none 0 0, .slice none 0 0, .slice none 0 0] 36))) (o : Nat), y.w.frozen? ⟨x.w.heap.size + 1, o, none⟩ = false := fun y o => Since.free (by simp [go_sem]) (by first | (simp; done) | (simp; omega)) y
  have hWup : ∃ z : Since w, ((x.w.alloc (.cells #[.int .i64 f, .int .i64 t] 25)).alloc (.cells #[.int .i64 0, .int .i64 0, .int .i64 0, .int .i64 0, .int .i64 0, .slice none 0 0, .slice none 0 0, .slice none 0 0, .slice none 0 0, .slice none 0 0] 36)) = z.w := Since.allocs x [.cells #[.int .i64 f, .int .i64 t] 25, .cells #[.int .i64 0, .int .i64 0, .int .i64 0, .int .i64 0, .int .i64 0, .slice none 0 0, .slice none 0 0, .slice none 0 0, .slice none 0 0, .slice none 0 0] 36]
  obtain ⟨y0, hy0⟩ := Since.refl ((x.w.alloc (.cells #[.int .i64 f, .int .i64 t] 25)).alloc (.cells #[.int .i64 0, .int .i64 0, .int .i64 0, .int .i64 0, .int .i64 0, .slice none 0 0, .slice none 0 0, .slice none 0 0, .slice none 0 0, .slice none 0 0] 36))
  have Hbx := Lib.hid (And.intro x.b.size (show x.w.heap.size + 2 = ((x.w.alloc (.cells #[.int .i64 f, .int .i64 t] 25)).alloc (.cells #[.int .i64 0, .int .i64 0, .int .i64 0, .int .i64 0, .int .i64 0, .slice none 0 0, .slice none 0 0, .slice none 0 0, .slice none 0 0, .slice none 0 0] 36)).heap.size from by simp))
  generalize hW : ((x.w.alloc (.cells #[.int .i64 f, .int .i64 t] 25)).alloc (.cells #[.int .i64 0, .int .i64 0, .int .i64 0, .int .i64 0, .int .i64 0, .slice none 0 0, .slice none 0 0, .slice none 0 0, .slice none 0 0, .slice none 0 0] 36)) = W at *
  clear hW
  generalize x.w.heap.size = bx at *
  have Hup := Lib.hid (Since.up hWup)
  rw [hy0]
  clear hy0
  replace HZ := Lib.hid (HZ.out.to hWup)
  replace HR := Lib.hid (HR.out.to hWup)
  clear hWup hf0
  have H1 := Lib.hid (HC.out W y0 HZ.out HR.out)
  clear HC
  by_cases h1 : E2 = 0
  · obtain ⟨n, l, rfl, rfl, hG⟩ := HG.out h1
    have HGd := Lib.hid hG
    have hm1 := hG.len
    have hn1 : 1 ≤ n ∧ n ≤ 8 := hG.r
    have hmn : l.length = n * n := hG.n
    have hm0 : 0 < l.length := by rw [hmn]; exact Nat.mul_pos (by omega) (by omega)
    rw [if_neg (by simpa using h1), Int.toNat_natCast] at HE
    rw [Int.toNat_natCast] at HT
    dsimp only at HE HT
    have Hmn := Lib.hid hmn
    clear hG HG hmn
    rw [h1] at H1
    go_upto_region 2 with (go_at_call 30; ((with_reducible refine H1.out.mono ?_); rintro _ _ ⟨a1, c1, y1, rfl, rfl, r1, r2, r3, r4⟩))
    have HR1 := Lib.hid (show IntRow y1.w a1 l from r1)
    have HR3 := Lib.hid (show ∀ b, a1 = some b → W.heap.size ≤ b.block from r3)
    have HR4 := Lib.hid (show ∀ b, a1 = some b → ∃ g, b = ⟨g, 0, none⟩ ∧ Nums y1.w g l.length (at0 l) from r4)
    clear r1 r2 r3 r4 H1 HZ HR
    obtain ⟨b0, o0, ha1, _, _⟩ := HR1.out 0 hm0
    obtain ⟨gL, hgL, hNL⟩ := HR4.out _ ha1
    rw [hgL] at ha1
    subst ha1
    have hgW : W.heap.size ≤ gL := HR3.out _ rfl
    clear hgL
    have HNL := Lib.hid hNL
    clear hNL HR4 HR3
    have hx0 : (y1.w.alloc (.cells #[.int .i64 (n : Int), .int .i64 (n : Int), .slice (some ⟨gL, 0, none⟩) l.length c1] 31)).cell? ⟨y1.w.heap.size, 0, none⟩ = some (.int .i64 (n : Int)) := by simp [go_sem]
    have hx1 : (y1.w.alloc (.cells #[.int .i64 (n : Int), .int .i64 (n : Int), .slice (some ⟨gL, 0, none⟩) l.length c1] 31)).cell? ⟨y1.w.heap.size, 1, none⟩ = some (.int .i64 (n : Int)) := by simp [go_sem]
    have hx2 : (y1.w.alloc (.cells #[.int .i64 (n : Int), .int .i64 (n : Int), .slice (some ⟨gL, 0, none⟩) l.length c1] 31)).cell? ⟨y1.w.heap.size, 2, none⟩ = some (.slice (some ⟨gL, 0, none⟩) l.length c1) := by simp [go_sem]
    have hxf : ∀ o, (y1.w.alloc (.cells #[.int .i64 (n : Int), .int .i64 (n : Int), .slice (some ⟨gL, 0, none⟩) l.length c1] 31)).frozen? ⟨y1.w.heap.size, o, none⟩ = false := fun o => by simp [go_sem]
    have hlt0 : y1.w.heap.size < (y1.w.alloc (.cells #[.int .i64 (n : Int), .int .i64 (n : Int), .slice (some ⟨gL, 0, none⟩) l.length c1] 31)).heap.size := by simp
    have hst0 : ∃ zz : Since y1.w, (y1.w.alloc (.cells #[.int .i64 (n : Int), .int .i64 (n : Int), .slice (some ⟨gL, 0, none⟩) l.length c1] 31)) = zz.w := IsSince.alloc (IsSince.self _) _
    have hsz0 := y1.b.size
    obtain ⟨y2, e2⟩ := IsSince.alloc (IsSince.of y1) (.cells #[.int .i64 (n : Int), .int .i64 (n : Int), .slice (some ⟨gL, 0, none⟩) l.length c1] 31)
    rw [e2] at hx0 hx1 hx2 hxf hlt0 hst0 ⊢
    (replace HR1 := Lib.hid (HR1.out.to hst0); have hNL2 := HNL.out.to hst0; have hBT := BoxIs.new y1.w [.int .i64 (n : Int), .int .i64 (n : Int), .slice (some ⟨gL, 0, none⟩) l.length c1] 31; rw [e2] at hBT; have hLt : gL < y1.w.heap.size := HNL.out.lt)
    clear e2 hst0
    generalize y1.w.heap.size = gt at *
    have Hhx0 : ∀ q : Since y2.w, q.w.cell? ⟨gt, 0, none⟩ = some (.int .i64 (n : Int)) := fun q => Since.cell hx0 (by omega) q
    have Hhx1 : ∀ q : Since y2.w, q.w.cell? ⟨gt, 1, none⟩ = some (.int .i64 (n : Int)) := fun q => Since.cell hx1 (by omega) q
    have Hhx2 : ∀ q : Since y2.w, q.w.cell? ⟨gt, 2, none⟩ = some (.slice (some ⟨gL, 0, none⟩) l.length c1) := fun q => Since.cell hx2 (by omega) q
    have Hhxf : ∀ (q : Since y2.w) (o : Nat), q.w.frozen? ⟨gt, o, none⟩ = false := fun q o => Since.free (hxf o) (by omega) q
    have Hhxg := Lib.hid (And.intro hsz0 hlt0)
    clear hlt0 hsz0
    have HNL2 := Lib.hid hNL2; have HBT := Lib.hid hBT
    clear hNL2 hBT HNL Hhx0 Hhx1 Hhx2 Hhxf hx0 hx1 hx2 hxf
    have hgLt : gL ≠ gt := by omega
    have hgWt : W.heap.size ≤ gt := Hhxg.out.1
    obtain ⟨q2, hq0⟩ := Since.refl y2.w
    rw [hq0]
    clear hq0
    have HH := Lib.hid (hide_calls y2.w q2 n n l least width (some ⟨gL, 0, none⟩) c1 HR1.out HGd.out)
    have k0 := fun q : Since y2.w => (HBT.out.since q).c 0 _ rfl
    have k1 := fun q : Since y2.w => (HBT.out.since q).c 1 _ rfl
    have k2 := fun q : Since y2.w => (HBT.out.since q).c 2 _ rfl
    have HE2 := Lib.hid (show hideE n n l least width ≠ 0 → E = hideE n n l least width ∧ X = rel0 from fun hne => ⟨HE.out, by rw [HT.out, if_neg (by rw [HE.out]; exact hne)]⟩)
    have HE3 := Lib.hid (show ∀ h, hideE n n l least width = 0 → hideV n n l least width = some h → E = 0 ∧ X = ⟨f, t, each, n, n, hidL l h, h, rowL n n l l.length, colL n l l.length, []⟩ from fun h h0 hv => ⟨HE.out.trans h0, by rw [HT.out, if_pos (HE.out.trans h0), hv]⟩)
    clear HE HT
    go_upto_region 5 with (go_at_call 31; ((with_reducible refine HH.out.mono ?_); rintro _ _ ⟨ah, nh, ch, y3, rfl, rfl, hh⟩))
    have HHH := Lib.hid hh
    clear hh HH HR1 h1 Hhxg
    replace k0 := k0 y3
    replace k1 := k1 y3
    replace k2 := k2 y3
    have HN3 := Lib.hid (HNL2.out.since y3)
    have HBT3 := Lib.hid (HBT.out.since y3)
    have hlt2 := HBT.out.lt
    have hsz3 := y3.b.size
    obtain ⟨z3, h3⟩ := y2.trans y3
    have H3 := Lib.hid h3
    clear h3
    by_cases hE0 : hideE n n l least width = 0
    · obtain ⟨h, hv, hl2, rfl, hBl, hcap, hfresh⟩ := HHH.out hE0
      have HEX := Lib.hid (HE3.out h hE0 hv)
      have HBl := Lib.hid hBl; have Hfresh := Lib.hid hfresh; have Hl2 := Lib.hid hl2
      clear HE2 HE3 HHH hBl hfresh hcap hl2 hv
      rw [hE0]
      go_upto_region 7 with fail
      have w0 := Since.cellTo ⟨z3, H3.out⟩ hb0_0
      have w1 := Since.cellTo ⟨z3, H3.out⟩ hb0_1
      have i0 := fun w' (h : IsSince y3.w w') => IsSince.cell w0 h
      have i1 := fun w' (h : IsSince y3.w w') => IsSince.cell w1 h
      have j0 := fun w' (h : IsSince y3.w w') => IsSince.cell (Since.cell (HBT3.out.c 0 _ rfl) HBT3.out.lt) h
      have j1 := fun w' (h : IsSince y3.w w') => IsSince.cell (Since.cell (HBT3.out.c 1 _ rfl) HBT3.out.lt) h
      have j2 := fun w' (h : IsSince y3.w w') => IsSince.cell (Since.cell (HBT3.out.c 2 _ rfl) HBT3.out.lt) h
      have hmk := fun q : World => make1_run sIntF rfl n (by omega) (by omega) q
      clear w0 w1 k0 k1 k2
      go_cut [19] (fun s19 wr => ∃ (gr gR gC : Nat) (y5 : Since y3.w), s19 = .pointer (some ⟨gr, 0, none⟩) ∧ wr = y5.w ∧ BoxIs y5.w gR ((List.replicate n 0).map (.int .i64)) ∧ BoxIs y5.w gC ((List.replicate n 0).map (.int .i64)) ∧ BoxIs y5.w gr [.int .i64 f, .int .i64 t, .int .i64 each, .int .i64 (n : Int), .int .i64 (n : Int), .slice (some ⟨gL, 0, none⟩) l.length c1, .slice ah l.length ch, .slice (some ⟨gR, 0, none⟩) n n, .slice (some ⟨gC, 0, none⟩) n n, .slice none 0 0] ∧ gR ≠ gC ∧ gR ≠ gr ∧ gC ≠ gr ∧ y3.w.heap.size ≤ gR ∧ y3.w.heap.size ≤ gC ∧ y3.w.heap.size ≤ gr)
      case first =>
        go_region_held3 (fun w' => IsSince y3.w w') (first | assumption | exact IsSince.drew' (IsSince.self _) | exact IsSince.alloc (by assumption) _ | exact IsSince.drew' (IsSince.alloc (IsSince.self _) _) | exact IsSince.drew' (IsSince.alloc (IsSince.alloc (IsSince.self _) _) _) | exact IsSince.drew' (IsSince.alloc (IsSince.alloc (IsSince.alloc (IsSince.self _) _) _) _)) (fail)
        all_goals (go_wp2_with fail)
        all_goals go_meet
        all_goals (rw [List.map_replicate, ← List.toArray_replicate])
        all_goals
        -- SIX
        first
          | (obtain ⟨y5, h5, b1, b2, b3⟩ := three_boxD y3.w (List.replicate n (Value.int .i64 0)) (List.replicate n (Value.int .i64 0)) [.int .i64 f, .int .i64 t, .int .i64 each, .int .i64 (n : Int), .int .i64 (n : Int), .slice (some ⟨gL, 0, none⟩) l.length c1, .slice ah l.length ch, .slice (some ⟨y3.w.heap.size, 0, none⟩) n n, .slice (some ⟨y3.w.heap.size + 1, 0, none⟩) n n, .slice none 0 0] 3 3 36
             exact ⟨_, _, _, y5, rfl, h5, b1, b2, b3, by omega, by omega, by omega, by omega, by omega, by omega⟩)
          | (obtain ⟨y5, h5, b1, b2, b3⟩ := three_boxD y3.w (List.replicate n (Value.int .i64 0)) [.int .i64 f, .int .i64 t, .int .i64 each, .int .i64 (n : Int), .int .i64 (n : Int), .slice (some ⟨gL, 0, none⟩) l.length c1, .slice ah l.length ch, .slice (some ⟨y3.w.heap.size, 0, none⟩) n n, .slice (some ⟨y3.w.heap.size + 2, 0, none⟩) n n, .slice none 0 0] (List.replicate n (Value.int .i64 0)) 3 36 3
             exact ⟨_, _, _, y5, rfl, h5, b1, b3, b2, by omega, by omega, by omega, by omega, by omega, by omega⟩)
          | (obtain ⟨y5, h5, b1, b2, b3⟩ := three_boxD y3.w (List.replicate n (Value.int .i64 0)) (List.replicate n (Value.int .i64 0)) [.int .i64 f, .int .i64 t, .int .i64 each, .int .i64 (n : Int), .int .i64 (n : Int), .slice (some ⟨gL, 0, none⟩) l.length c1, .slice ah l.length ch, .slice (some ⟨y3.w.heap.size + 1, 0, none⟩) n n, .slice (some ⟨y3.w.heap.size, 0, none⟩) n n, .slice none 0 0] 3 3 36
             exact ⟨_, _, _, y5, rfl, h5, b2, b1, b3, by omega, by omega, by omega, by omega, by omega, by omega⟩)
          | (obtain ⟨y5, h5, b1, b2, b3⟩ := three_boxD y3.w (List.replicate n (Value.int .i64 0)) [.int .i64 f, .int .i64 t, .int .i64 each, .int .i64 (n : Int), .int .i64 (n : Int), .slice (some ⟨gL, 0, none⟩) l.length c1, .slice ah l.length ch, .slice (some ⟨y3.w.heap.size + 2, 0, none⟩) n n, .slice (some ⟨y3.w.heap.size, 0, none⟩) n n, .slice none 0 0] (List.replicate n (Value.int .i64 0)) 3 36 3
             exact ⟨_, _, _, y5, rfl, h5, b3, b1, b2, by omega, by omega, by omega, by omega, by omega, by omega⟩)
          | (obtain ⟨y5, h5, b1, b2, b3⟩ := three_boxD y3.w [.int .i64 f, .int .i64 t, .int .i64 each, .int .i64 (n : Int), .int .i64 (n : Int), .slice (some ⟨gL, 0, none⟩) l.length c1, .slice ah l.length ch, .slice (some ⟨y3.w.heap.size + 1, 0, none⟩) n n, .slice (some ⟨y3.w.heap.size + 2, 0, none⟩) n n, .slice none 0 0] (List.replicate n (Value.int .i64 0)) (List.replicate n (Value.int .i64 0)) 36 3 3
             exact ⟨_, _, _, y5, rfl, h5, b2, b3, b1, by omega, by omega, by omega, by omega, by omega, by omega⟩)
          | (obtain ⟨y5, h5, b1, b2, b3⟩ := three_boxD y3.w [.int .i64 f, .int .i64 t, .int .i64 each, .int .i64 (n : Int), .int .i64 (n : Int), .slice (some ⟨gL, 0, none⟩) l.length c1, .slice ah l.length ch, .slice (some ⟨y3.w.heap.size + 2, 0, none⟩) n n, .slice (some ⟨y3.w.heap.size + 1, 0, none⟩) n n, .slice none 0 0] (List.replicate n (Value.int .i64 0)) (List.replicate n (Value.int .i64 0)) 36 3 3
             exact ⟨_, _, _, y5, rfl, h5, b3, b2, b1, by omega, by omega, by omega, by omega, by omega, by omega⟩)
        -- END SIX
      case rest =>
        obtain ⟨gr, gR, gC, y5, rfl, rfl, hR5, hC5, hr5, hne1, hne2, hne3, hgR, hgC, hgr⟩ := hcut
        obtain ⟨y6, h6⟩ := y3.trans y5
        obtain ⟨z6, h7⟩ := y2.trans y6
        have hh0 : ∀ b, ah = some b → b.block < y3.w.heap.size := fun b hb => by
          obtain ⟨b3, o3, h8, h9, _⟩ := HBl.out 0 (by rw [Hl2.out]; exact hm0)
          rw [h8] at hb; cases hb; exact h9
        have hs2 := y2.b.size
        have HXD := Lib.hid (show XD W gt gr gL gR gC ah from ⟨⟨hgW, by omega, by omega⟩, ⟨Ne.symm hgLt, by omega, by omega⟩, ⟨by omega, Ne.symm hne2, Ne.symm hne3⟩, ⟨by omega, by omega, hne1⟩, fun b hb => by
          have h1 := Hfresh.out b hb
          have h2 := hh0 b hb
          exact ⟨by omega, by omega, by omega⟩⟩)
        have hXS : XS y5.w gt gr gL gR gC [.int .i64 (n : Int), .int .i64 (n : Int), .slice (some ⟨gL, 0, none⟩) l.length c1] [.int .i64 f, .int .i64 t, .int .i64 each, .int .i64 (n : Int), .int .i64 (n : Int), .slice (some ⟨gL, 0, none⟩) l.length c1, .slice ah l.length ch, .slice (some ⟨gR, 0, none⟩) n n, .slice (some ⟨gC, 0, none⟩) n n, .slice none 0 0] l.length (at0 l) (List.replicate n 0) (List.replicate n 0) ah h :=
          ⟨HBT3.out.since y5, hr5, HN3.out.since y5, hR5, hC5, Since.row HBl.out y5⟩
        rw [h6, h7] at hXS ⊢
        have HXS := Lib.hid (hXS.congr (cf' := cfK l h 0) (fun j _ => by unfold cfK; rw [if_neg (by omega)]) (rowL_zero n n l) (colL_zero n l))
        have hgo : gt ≠ bx + 1 ∧ gr ≠ bx + 1 ∧ gL ≠ bx + 1 ∧ gR ≠ bx + 1 ∧ gC ≠ bx + 1 ∧ ∀ b, ah = some b → b.block ≠ bx + 1 := by
          have h1 := Hbx.out
          have h2 := HXD.out.b
          exact ⟨by omega, by omega, by omega, by omega, by omega, fun b hb => by have := Hfresh.out b hb; omega⟩
        have Hgo := Lib.hid hgo
        have Hfr := Lib.hid (show w.heap.size ≤ gL ∧ w.heap.size ≤ gR ∧ w.heap.size ≤ gC ∧ ∀ b, ah = some b → w.heap.size ≤ b.block from ⟨by have := Hbx.out; omega, by have := Hbx.out; omega, by have := Hbx.out; omega, fun b hb => by have h1 := Hfresh.out b hb; have := Hbx.out; omega⟩)
        have HCc := Lib.hid (fun k (hk : k < l.length) => HGd.out.cell (i := k) hk)
        have HCs := Lib.hid (fun (p : Nat → Prop) [DecidablePred p] k (hk : k ≤ l.length) => part_in HGd.out.z HGd.out.s p hk)
        clear hXS h6 h7 y6 y5 hR5 hC5 hr5 hne1 hne2 hne3 hgR hgC hgr hh0 hs2 hgo HNL2 HBT HN3 HBT3 HBl H3 i0 i1 j0 j1 j2 hmk Hmn HGd hsz3 hlt2 Hfresh hE0
        go_upto_region 9 with fail
        have x2 := HXS.out.t.c 2 _ rfl
        go_upto_region 10 with fail
        clear x2
        go_loopw [61] (fun si wr => ∃ (k : Nat) (y : Since W), k ≤ l.length ∧ si = .int .i64 (k : Int) ∧ wr = y.w ∧ XS y.w gt gr gL gR gC [.int .i64 (n : Int), .int .i64 (n : Int), .slice (some ⟨gL, 0, none⟩) l.length c1] [.int .i64 f, .int .i64 t, .int .i64 each, .int .i64 (n : Int), .int .i64 (n : Int), .slice (some ⟨gL, 0, none⟩) l.length c1, .slice ah l.length ch, .slice (some ⟨gR, 0, none⟩) n n, .slice (some ⟨gC, 0, none⟩) n n, .slice none 0 0] l.length (cfK l h k) (rowL n n l k) (colL n l k) ah h) (fun si _ => l.length - (intOf si).toNat)
        case atStart => exact ⟨0, z6, by omega, rfl, rfl, HXS.out⟩
        case round =>
          clear HXS
          obtain ⟨k, y, hk, rfl, rfl, hX⟩ := hrel
          have HX := Lib.hid hX
          clear hX
          by_cases hlt : k < l.length
          · have hk0 : (0 : Int) ≤ (k : Int) := by omega
            have hkl : (k : Int) < (l.length : Int) := by omega
            obtain ⟨g1, g2, g3, g4⟩ := HCc.out k hlt
            have HCnt := Lib.hid (count_calls W y n k gt gr gL gR gC l.length _ _ _ _ _ _ _ _ c1 (cfK l h k) (rowL n n l k) (colL n l k) ah h HX.out HXD.out hlt hn1 g1 (rowL_len _ _ _ _) (colL_len _ _ _) (by rw [cfK_self]; exact ⟨g3, g4⟩) (fun r hr => by unfold rowL; rw [at0_map _ _ _ hr]; exact HCs.out (fun i => i / n = r) k (by omega)) (fun c hc => by unfold colL; rw [at0_map _ _ _ hc]; exact HCs.out (fun i => i % n = c) k (by omega)))
            clear HX
            go_upto_region 13 with (go_at_call 32; ((with_reducible refine HCnt.out.mono ?_); rintro _ _ ⟨y2, rfl, rfl, hX2⟩))
            clear HCnt
            have HX2 := Lib.hid (hX2.congr (rows' := rowL n n l (k + 1)) (cols' := colL n l (k + 1)) (fun j _ => rfl) (by rw [cfK_self]; exact rowL_step g1) (by rw [cfK_self]; exact colL_step g2))
            clear hX2
            obtain ⟨b2, o2, rfl, hb2, hc2'⟩ := HX2.out.h k (by rw [Hl2.out]; exact hlt)
            have hc2 : y2.w.cell? ⟨b2, o2 + k, none⟩ = some (.bool (bo h k)) := hc2'
            clear hc2' hb2
            cases hb : bo h k
            · rw [hb] at hc2
              have HX3 := Lib.hid (HX2.out.congr (fun j _ => cfK_show hb j) rfl rfl)
              clear HX2
              go_wp2_with fail
              go_roundw
              case rel => exact ⟨k + 1, y2, by omega, by go_num, rfl, HX3.out⟩
              case measure => simp [intOf] <;> omega
            · rw [hb] at hc2
              have HX3 := Lib.hid (HX2.out.setL HXD.out hlt 0 (cf' := cfK l h (k + 1)) (cfK_hid hb) (fun j _ hj => cfK_ne l h hj))
              have r5 := HX2.out.r.c 5 _ rfl
              have l0 := HX2.out.l.c k hlt
              have lf := HX2.out.l.f k hlt
              clear HX2
              obtain ⟨z, hz⟩ := y2.set ⟨gL, k, none⟩ HXD.out.b.1 (.int .i64 0)
              have hX4 := HX3.out
              rw [hz] at hX4
              have HX4 := Lib.hid hX4
              have Hz := Lib.hid hz
              clear hX4 HX3 hz
              go_wp2_with fail
              rw [Hz.out]
              go_roundw
              case rel => exact ⟨k + 1, z, by omega, by go_num, rfl, HX4.out⟩
              case measure => simp [intOf] <;> omega
          · obtain rfl : k = l.length := by omega
            have HPO := Lib.hid (fun (Z : Since w) s => by rw [HEX.out.1, HEX.out.2]; exact exact_res (f := f) (t := t) (each := each) (c1 := c1) (ch := ch) Z Hl2.out Hfr.out s : ∀ (Z : Since w), XS Z.w gt gr gL gR gC [.int .i64 (n : Int), .int .i64 (n : Int), .slice (some ⟨gL, 0, none⟩) l.length c1] [.int .i64 f, .int .i64 t, .int .i64 each, .int .i64 (n : Int), .int .i64 (n : Int), .slice (some ⟨gL, 0, none⟩) l.length c1, .slice ah l.length ch, .slice (some ⟨gR, 0, none⟩) n n, .slice (some ⟨gC, 0, none⟩) n n, .slice none 0 0] l.length (cfK l h l.length) (rowL n n l l.length) (colL n l l.length) ah h → RelRes w X E (.returned (.tuple #[.agg #[.int .i64 f, .int .i64 t, .int .i64 each, .int .i64 (n : Int), .int .i64 (n : Int), .slice (some ⟨gL, 0, none⟩) l.length c1, .slice ah l.length ch, .slice (some ⟨gR, 0, none⟩) n n, .slice (some ⟨gC, 0, none⟩) n n, .slice none 0 0], .int .i64 0])) Z.w)
            have r0 := HX.out.r.c 0 _ rfl
            have r1 := HX.out.r.c 1 _ rfl
            have r2 := HX.out.r.c 2 _ rfl
            have r3 := HX.out.r.c 3 _ rfl
            have r4 := HX.out.r.c 4 _ rfl
            have r5 := HX.out.r.c 5 _ rfl
            have r6 := HX.out.r.c 6 _ rfl
            have r7 := HX.out.r.c 7 _ rfl
            have r8 := HX.out.r.c 8 _ rfl
            have r9 := HX.out.r.c 9 _ rfl
            clear HEX HCs HCc
            go_wp2_with fail
            have hsm : ∀ j, j < 10 → (y.w.cell? ⟨bx + 1, j, none⟩).isSome = true := fun j hj => by
              match j, hj with
              | 0, _ => rw [hb1_0 y]; rfl
              | 1, _ => rw [hb1_1 y]; rfl
              | 2, _ => rw [hb1_2 y]; rfl
              | 3, _ => rw [hb1_3 y]; rfl
              | 4, _ => rw [hb1_4 y]; rfl
              | 5, _ => rw [hb1_5 y]; rfl
              | 6, _ => rw [hb1_6 y]; rfl
              | 7, _ => rw [hb1_7 y]; rfl
              | 8, _ => rw [hb1_8 y]; rfl
              | 9, _ => rw [hb1_9 y]; rfl
            obtain ⟨Z, hz, hc⟩ := set_many y (g := bx + 1) [.int .i64 f, .int .i64 t, .int .i64 each, .int .i64 (n : Int), .int .i64 (n : Int), .slice (some ⟨gL, 0, none⟩) l.length c1, .slice ah l.length ch, .slice (some ⟨gR, 0, none⟩) n n, .slice (some ⟨gC, 0, none⟩) n n, .slice none 0 0] hsm (Hup.out y) (by have := Hbx.out; omega)
            have hXZ := XS.sets Hgo.out [.int .i64 f, .int .i64 t, .int .i64 each, .int .i64 (n : Int), .int .i64 (n : Int), .slice (some ⟨gL, 0, none⟩) l.length c1, .slice ah l.length ch, .slice (some ⟨gR, 0, none⟩) n n, .slice (some ⟨gC, 0, none⟩) n n, .slice none 0 0] 0 y.w HX.out
            rw [hz] at hXZ
            simp only [World.setCells, Nat.reduceAdd] at hz
            rw [hz]
            have HPZ := Lib.hid (HPO.out Z hXZ)
            clear hXZ HPO HX hz
            have hc0 := hc 0 _ rfl
            have hc1 := hc 1 _ rfl
            have hc2 := hc 2 _ rfl
            have hc3 := hc 3 _ rfl
            have hc4 := hc 4 _ rfl
            have hc5 := hc 5 _ rfl
            have hc6 := hc 6 _ rfl
            have hc7 := hc 7 _ rfl
            have hc8 := hc 8 _ rfl
            have hc9 := hc 9 _ rfl
            exact bodyPost_ret (v := .tuple #[.agg #[.int .i64 f, .int .i64 t, .int .i64 each, .int .i64 (n : Int), .int .i64 (n : Int), .slice (some ⟨gL, 0, none⟩) l.length c1, .slice ah l.length ch, .slice (some ⟨gR, 0, none⟩) n n, .slice (some ⟨gC, 0, none⟩) n n, .slice none 0 0], .int .i64 0]) (by simp [results, Tryd.results12, go_sem, hc0, hc1, hc2, hc3, hc4, hc5, hc6, hc7, hc8, hc9]) rfl HPZ.out
    · obtain ⟨e1, e2⟩ := HE2.out hE0
      have HP := Lib.hid (fun y : Since w => show RelRes w X E (.returned (.tuple #[.agg #[.int .i64 0, .int .i64 0, .int .i64 0, .int .i64 0, .int .i64 0, .slice none 0 0, .slice none 0 0, .slice none 0 0, .slice none 0 0, .slice none 0 0], .int .i64 (hideE n n l least width)])) y.w from by rw [e1, e2]; exact relres_no y)
      clear e1 e2 HE2 HE3 HHH HNL2 HBT HN3 HBT3
      generalize hideE n n l least width = E4 at *
      rw [H3.out]
      go_wp2_with fail
      have hsm : ∀ j, j < 10 → (z3.w.cell? ⟨bx + 1, j, none⟩).isSome = true := fun j hj => by
        match j, hj with
        | 0, _ => rw [hb1_0 z3]; rfl
        | 1, _ => rw [hb1_1 z3]; rfl
        | 2, _ => rw [hb1_2 z3]; rfl
        | 3, _ => rw [hb1_3 z3]; rfl
        | 4, _ => rw [hb1_4 z3]; rfl
        | 5, _ => rw [hb1_5 z3]; rfl
        | 6, _ => rw [hb1_6 z3]; rfl
        | 7, _ => rw [hb1_7 z3]; rfl
        | 8, _ => rw [hb1_8 z3]; rfl
        | 9, _ => rw [hb1_9 z3]; rfl
      obtain ⟨Z, hz, hc⟩ := set_many z3 (g := bx + 1) [.int .i64 0, .int .i64 0, .int .i64 0, .int .i64 0, .int .i64 0, .slice none 0 0, .slice none 0 0, .slice none 0 0, .slice none 0 0, .slice none 0 0] hsm (Hup.out z3) (by have := Hbx.out; omega)
      simp only [World.setCells, Nat.reduceAdd] at hz
      rw [hz]
      have hc0 := hc 0 _ rfl
      have hc1 := hc 1 _ rfl
      have hc2 := hc 2 _ rfl
      have hc3 := hc 3 _ rfl
      have hc4 := hc 4 _ rfl
      have hc5 := hc 5 _ rfl
      have hc6 := hc 6 _ rfl
      have hc7 := hc 7 _ rfl
      have hc8 := hc 8 _ rfl
      have hc9 := hc 9 _ rfl
      exact bodyPost_ret (v := .tuple #[.agg #[.int .i64 0, .int .i64 0, .int .i64 0, .int .i64 0, .int .i64 0, .slice none 0 0, .slice none 0 0, .slice none 0 0, .slice none 0 0, .slice none 0 0], .int .i64 E4]) (by simp [results, Tryd.results12, go_sem, hc0, hc1, hc2, hc3, hc4, hc5, hc6, hc7, hc8, hc9]) rfl (HP.out Z)
  · have hE : E = E2 := by rw [HE.out, if_pos h1]
    have hX : X = rel0 := by rw [HT.out, if_neg (by rw [hE]; exact h1)]
    have HP := Lib.hid (fun y : Since w => show RelRes w X E (.returned (.tuple #[.agg #[.int .i64 0, .int .i64 0, .int .i64 0, .int .i64 0, .int .i64 0, .slice none 0 0, .slice none 0 0, .slice none 0 0, .slice none 0 0, .slice none 0 0], .int .i64 E2])) y.w from by rw [hE, hX]; exact relres_no y)
    clear hE hX HE HT HG
    go_upto_region 2 with (go_at_call 30; ((with_reducible refine H1.out.mono ?_); rintro _ _ ⟨a1, c1, y1, rfl, rfl, r1, r2, r3, r4⟩))
    clear r1 r2 r3 r4
    have hx0 : (y1.w.alloc (.cells #[.int .i64 T2.r, .int .i64 T2.c, .slice a1 T2.l.length c1] 31)).cell? ⟨y1.w.heap.size, 0, none⟩ = some (.int .i64 T2.r) := by simp [go_sem]
    have hx1 : (y1.w.alloc (.cells #[.int .i64 T2.r, .int .i64 T2.c, .slice a1 T2.l.length c1] 31)).cell? ⟨y1.w.heap.size, 1, none⟩ = some (.int .i64 T2.c) := by simp [go_sem]
    have hx2 : (y1.w.alloc (.cells #[.int .i64 T2.r, .int .i64 T2.c, .slice a1 T2.l.length c1] 31)).cell? ⟨y1.w.heap.size, 2, none⟩ = some (.slice a1 T2.l.length c1) := by simp [go_sem]
    have hxf : ∀ o, (y1.w.alloc (.cells #[.int .i64 T2.r, .int .i64 T2.c, .slice a1 T2.l.length c1] 31)).frozen? ⟨y1.w.heap.size, o, none⟩ = false := fun o => by simp [go_sem]
    have hlt0 : y1.w.heap.size < (y1.w.alloc (.cells #[.int .i64 T2.r, .int .i64 T2.c, .slice a1 T2.l.length c1] 31)).heap.size := by simp
    have hst0 : ∃ zz : Since y1.w, (y1.w.alloc (.cells #[.int .i64 T2.r, .int .i64 T2.c, .slice a1 T2.l.length c1] 31)) = zz.w := IsSince.alloc (IsSince.self _) _
    have hsz0 := y1.b.size
    obtain ⟨y2, e2⟩ := IsSince.alloc (IsSince.of y1) (.cells #[.int .i64 T2.r, .int .i64 T2.c, .slice a1 T2.l.length c1] 31)
    rw [e2] at hx0 hx1 hx2 hxf hlt0 hst0 ⊢
    skip
    clear e2 hst0
    generalize y1.w.heap.size = gt at *
    have Hhx0 : ∀ q : Since y2.w, q.w.cell? ⟨gt, 0, none⟩ = some (.int .i64 T2.r) := fun q => Since.cell hx0 (by omega) q
    have Hhx1 : ∀ q : Since y2.w, q.w.cell? ⟨gt, 1, none⟩ = some (.int .i64 T2.c) := fun q => Since.cell hx1 (by omega) q
    have Hhx2 : ∀ q : Since y2.w, q.w.cell? ⟨gt, 2, none⟩ = some (.slice a1 T2.l.length c1) := fun q => Since.cell hx2 (by omega) q
    have Hhxf : ∀ (q : Since y2.w) (o : Nat), q.w.frozen? ⟨gt, o, none⟩ = false := fun q o => Since.free (hxf o) (by omega) q
    have Hhxg := Lib.hid (And.intro hsz0 hlt0)
    clear hlt0 hsz0
    go_wp2_with fail
    have hsm : ∀ j, j < 10 → (y2.w.cell? ⟨bx + 1, j, none⟩).isSome = true := fun j hj => by
      match j, hj with
      | 0, _ => rw [hb1_0 y2]; rfl
      | 1, _ => rw [hb1_1 y2]; rfl
      | 2, _ => rw [hb1_2 y2]; rfl
      | 3, _ => rw [hb1_3 y2]; rfl
      | 4, _ => rw [hb1_4 y2]; rfl
      | 5, _ => rw [hb1_5 y2]; rfl
      | 6, _ => rw [hb1_6 y2]; rfl
      | 7, _ => rw [hb1_7 y2]; rfl
      | 8, _ => rw [hb1_8 y2]; rfl
      | 9, _ => rw [hb1_9 y2]; rfl
    obtain ⟨Z, hz, hc⟩ := set_many y2 (g := bx + 1) [.int .i64 0, .int .i64 0, .int .i64 0, .int .i64 0, .int .i64 0, .slice none 0 0, .slice none 0 0, .slice none 0 0, .slice none 0 0, .slice none 0 0] hsm (Hup.out y2) (by have := Hbx.out; omega)
    simp only [World.setCells, Nat.reduceAdd] at hz
    rw [hz]
    have hc0 := hc 0 _ rfl
    have hc1 := hc 1 _ rfl
    have hc2 := hc 2 _ rfl
    have hc3 := hc 3 _ rfl
    have hc4 := hc 4 _ rfl
    have hc5 := hc 5 _ rfl
    have hc6 := hc 6 _ rfl
    have hc7 := hc 7 _ rfl
    have hc8 := hc 8 _ rfl
    have hc9 := hc 9 _ rfl
    exact bodyPost_ret (v := .tuple #[.agg #[.int .i64 0, .int .i64 0, .int .i64 0, .int .i64 0, .int .i64 0, .slice none 0 0, .slice none 0 0, .slice none 0 0, .slice none 0 0, .slice none 0 0], .int .i64 E2]) (by simp [results, Tryd.results12, go_sem, hc0, hc1, hc2, hc3, hc4, hc5, hc6, hc7, hc8, hc9]) rfl (HP.out Z)
end Go.Proofs.YtdkcclngionihaaDoor
/- Releases: weights of noise, plain; lists compared by the reference, walked. -/
namespace Go.Proofs.YtdkcclngionihaaDoor
open Go.RowKit

theorem chk_inv {t : Tab} (h : chkE t = 0) : (1 ≤ t.r ∧ t.r ≤ 8) ∧ (1 ≤ t.c ∧ t.c ≤ 8) ∧ (t.l.length : Int) = t.r * t.c ∧ ∀ i, i < t.l.length → -1000000 ≤ at0 t.l i ∧ at0 t.l i ≤ 1000000 := by
  unfold chkE at h
  by_cases h1 : t.r < 1 ∨ 8 < t.r ∨ t.c < 1 ∨ 8 < t.c
  · rw [if_pos h1] at h; cases h
  · rw [if_neg h1] at h
    by_cases h2 : (t.l.length : Int) ≠ t.r * t.c
    · rw [if_pos h2] at h; cases h
    · rw [if_neg h2] at h
      by_cases h3 : t.l.any (fun n => decide (n < -1000000) || decide (1000000 < n)) = true
      · rw [if_pos h3] at h; cases h
      · refine ⟨by omega, by omega, by omega, fun i hi => ?_⟩
        have h4 : at0 t.l i ∈ t.l := by
          unfold at0
          rw [List.getD_eq_getElem?_getD, List.getElem?_eq_getElem hi]
          exact List.getElem_mem hi
        by_cases h5 : at0 t.l i < -1000000 ∨ 1000000 < at0 t.l i
        · exact absurd (List.any_eq_true.2 ⟨_, h4, by simpa using h5⟩) h3
        · omega
theorem chk_len64 {t : Tab} (h : chkE t = 0) : t.l.length ≤ 64 := by
  obtain ⟨h1, h2, h3, _⟩ := chk_inv h
  have h4 : t.r * t.c ≤ 8 * 8 := Int.mul_le_mul h1.2 h2.2 (by omega) (by decide)
  omega
noncomputable def chE (A T : Tab) (N : List Int) : Int := if chkE A ≠ 0 then chkE A else if chkE T ≠ 0 then chkE T else if A.r ≠ T.r ∨ A.c ≠ T.c then 3 else check N
noncomputable def chL (A T : Tab) (N : List Int) : List Int := (List.range T.l.length).map fun i => weight N (at0 A.l i - at0 T.l i)
noncomputable def chV (A T : Tab) (N : List Int) : List Int := open Classical in if chE A T N = 0 then chL A T N else []
/-- weights of the call's own and an error -/
def ChRes (w : World) (L : List Int) (e : Int) (o : Ending) (w' : World) : Prop := ∃ (a : Option Addr) (c : Nat) (y : Since w), o = .returned (.tuple #[.slice a L.length c, .int .i64 e]) ∧ w' = y.w ∧ IntRow y.w a L
theorem chres_no {w : World} {A T : Tab} {N : List Int} {e : Int} (h : chE A T N = e) (he : e ≠ 0) (y : Since w) : ChRes w (chV A T N) (chE A T N) (.returned (.tuple #[.slice none 0 0, .int .i64 e])) y.w := by
  have : chV A T N = [] := by unfold chV; rw [if_neg (by rw [h]; exact he)]
  rw [this, h]
  exact ⟨none, 0, y, rfl, rfl, row_nil' _⟩
theorem chres_yes {w : World} {A T : Tab} {N : List Int} (h : chE A T N = 0) (y : Since w) {g n : Nat} {L : List Int} (hL : L = chL A T N) (hn : L.length = n) (hb : BoxIs y.w g (L.map (.int .i64))) : ChRes w (chV A T N) (chE A T N) (.returned (.tuple #[.slice (some ⟨g, 0, none⟩) n n, .int .i64 0])) y.w := by
  have : chV A T N = chL A T N := by unfold chV; rw [if_pos h]
  rw [this, h, ← hL]
  exact ⟨_, n, y, by rw [hn], rfl, hb.ints⟩
theorem at0_extS {l m : List Int} (hl : l.length = m.length) (h : ∀ i, i < l.length → at0 l i = at0 m i) : l = m := by
  apply List.ext_getElem hl
  intro i h1 h2
  have := h i h1
  unfold at0 at this
  simpa [List.getD_eq_getElem?_getD, h1, h2] using this

set_option maxHeartbeats 1000000 in
theorem rints_calls (w : World) (x : Since w) (a b : Option Addr) (l m : List Int) (c d : Nat) (hl : l.length ≤ 9223372036854775807) (hm : m.length ≤ 9223372036854775807) (hr : IntRow w a l) (hr' : IntRow w b m) :
    Calls Tryd.prog 18 #[.slice a l.length c, .slice b m.length d] x.w fun e w' => e = .returned (.bool (decide (l = m))) ∧ ∃ y : Since w, w' = y.w := by
  by_cases hlen : l.length = m.length
  · have hne : ((l.length : Int) != (m.length : Int)) = false := by simp; omega
    have hle : l.length ≤ m.length := by omega
    have Hlen := Lib.hid hlen; clear hlen
    go_enter Tryd.func18, Tryd.ntmps18
    go_wp2_with fail
    go_loopw [5] (fun i wr => ∃ k : Nat, k ≤ l.length ∧ i = .int .i64 k ∧ (∀ j, j < k → at0 l j = at0 m j) ∧ ∃ y : Since w, wr = y.w) (fun i _ => l.length - (intOf i).toNat)
    case atStart => exact ⟨0, by omega, rfl, fun j hj => by omega, _, rfl⟩
    case round =>
      obtain ⟨k, hk, rfl, hok, y, rfl⟩ := hrel
      have Hok := Lib.hid hok; clear hok
      by_cases hlt : k < l.length
      · obtain ⟨b1, off1, rfl, _, _⟩ := hr k hlt
        obtain ⟨b2, off2, rfl, _, _⟩ := hr' k (by omega)
        have hcell : ∀ y : Since w, y.w.cell? ⟨b1, off1 + k, none⟩ = some (.int .i64 (at0 l k)) := Since.at hr k hlt
        have hcell' : ∀ y : Since w, y.w.cell? ⟨b2, off2 + k, none⟩ = some (.int .i64 (at0 m k)) := Since.at hr' k (by omega)
        have hk0 : (0 : Int) ≤ (k : Int) := by omega
        have hkl : (k : Int) < (l.length : Int) := by omega
        have hkm : (k : Int) < (m.length : Int) := by omega
        clear hr hr'
        by_cases he : at0 l k = at0 m k
        · have hb : (at0 l k != at0 m k) = false := by simpa using he
          have He := Lib.hid he; clear he
          go_wp2_with fail
          refine wp_region_since (by kernel_rfl) (by kernel_rfl) ?_
          repeat (go_big_quiet_step (fail))
          refine wpQuiet_nil ?_
          rintro _ ⟨y, rfl⟩
          go_wp2_with fail
          go_roundw
          case rel => exact ⟨k + 1, by omega, by go_num, fun j hj => by
            by_cases hjk : j < k
            · exact Hok.out j hjk
            · obtain rfl : j = k := by omega
              exact He.out, _, rfl⟩
          case measure => simp [intOf]; omega
        · have hb : (at0 l k != at0 m k) = true := by simpa using he
          have hno : decide (l = m) = false := decide_eq_false fun h => he (by rw [h])
          have He := Lib.hid he; clear he
          go_wp2_with fail
          refine wp_region_since (by kernel_rfl) (by kernel_rfl) ?_
          repeat (go_big_quiet_step (fail))
          refine wpQuiet_nil ?_
          rintro _ ⟨y, rfl⟩
          go_wp2_with fail
          go_ret
          exact ⟨ret_bool hno.symm, _, rfl⟩
      · have hyes : decide (l = m) = true := decide_eq_true (at0_extS Hlen.out fun i hi => Hok.out i (by omega))
        go_wp2_with fail
        go_ret
        exact ⟨ret_bool hyes.symm, _, rfl⟩
  · have hne : ((l.length : Int) != (m.length : Int)) = true := by simp; omega
    have hno : decide (l = m) = false := decide_eq_false fun h => hlen (by rw [h])
    have Hlen := Lib.hid hlen; clear hlen
    go_enter Tryd.func18, Tryd.ntmps18
    go_wp2_with fail
    go_ret
    exact ⟨ret_bool hno.symm, _, rfl⟩
end Go.Proofs.YtdkcclngionihaaDoor
/- The weights of the noise of a release, walked (the program). Written by mkc1.py. -/
namespace Go.Proofs.YtdkcclngionihaaDoor
open Go.RowKit

theorem intrel_ne {a b : Int} (h : a ≠ b) : (a != b) = true := by simpa using h
theorem intrel_eq {a b : Int} (h : a = b) : (a != b) = false := by simpa using h
set_option linter.unusedSimpArgs false in
set_option maxRecDepth 100000 in
set_option maxHeartbeats 8000000 in
theorem chances_calls (w : World) (x : Since w) (hs : Signs w) (f t each : Int) (A T : Tab) (N : List Int) (a1 a2 a3 a4 a5 a6 : Option Addr) (c1 n2 c2 n3 c3 n4 c4 c5 c6 : Nat) (h1 : IntRow w a1 A.l) (h5 : IntRow w a5 N) (h6 : IntRow w a6 T.l) (hl1 : A.l.length ≤ 9223372036854775807) (hl5 : N.length ≤ 9223372036854775807) (hl6 : T.l.length ≤ 9223372036854775807) :
    Calls Tryd.prog 16 #[.agg #[.int .i64 f, .int .i64 t, .int .i64 each, .int .i64 A.r, .int .i64 A.c, .slice a1 A.l.length c1, .slice a2 n2 c2, .slice a3 n3 c3, .slice a4 n4 c4, .slice a5 N.length c5], .agg #[.int .i64 T.r, .int .i64 T.c, .slice a6 T.l.length c6]] x.w (ChRes w (chV A T N) (chE A T N)) := by
  have HAr := Lib.hid h1; have HNr := Lib.hid h5; have HTr := Lib.hid h6; have Hsg := Lib.hid hs
  have Hlen := Lib.hid (And.intro hl1 (And.intro hl5 hl6))
  have HE := Lib.hid (show chE A T N = if chkE A ≠ 0 then chkE A else if chkE T ≠ 0 then chkE T else if A.r ≠ T.r ∨ A.c ≠ T.c then 3 else check N from rfl)
  have HNo := Lib.hid (fun e (h : chE A T N = e) (he : e ≠ 0) (y : Since w) => chres_no h he y)
  have HYes := Lib.hid (fun (h : chE A T N = 0) (y : Since w) g n L => chres_yes (A := A) (T := T) (N := N) h y (g := g) (n := n) (L := L))
  generalize ChRes w (chV A T N) (chE A T N) = PO at *
  generalize chE A T N = E at *
  clear h1 h5 h6 hs hl1 hl5 hl6
  go_enter Tryd.func16, Tryd.ntmps16
  go_upto_region 1 with fail
  have hb0_0 : ∀ y : Since ((x.w.alloc (.cells #[.int .i64 f, .int .i64 t, .int .i64 each, .int .i64 A.r, .int .i64 A.c, .slice a1 A.l.length c1, .slice a2 n2 c2, .slice a3 n3 c3, .slice a4 n4 c4, .slice a5 N.length c5] 36)).alloc (.cells #[.int .i64 T.r, .int .i64 T.c, .slice a6 T.l.length c6] 31)), y.w.cell? ⟨x.w.heap.size, 0, none⟩ = some (.int .i64 f) := fun y => Since.cell (by simp [go_sem]) (by first | (simp; done) | (simp; omega)) y
  have hb0_1 : ∀ y : Since ((x.w.alloc (.cells #[.int .i64 f, .int .i64 t, .int .i64 each, .int .i64 A.r, .int .i64 A.c, .slice a1 A.l.length c1, .slice a2 n2 c2, .slice a3 n3 c3, .slice a4 n4 c4, .slice a5 N.length c5] 36)).alloc (.cells #[.int .i64 T.r, .int .i64 T.c, .slice a6 T.l.length c6] 31)), y.w.cell? ⟨x.w.heap.size, 1, none⟩ = some (.int .i64 t) := fun y => Since.cell (by simp [go_sem]) (by first | (simp; done) | (simp; omega)) y
  have hb0_2 : ∀ y : Since ((x.w.alloc (.cells #[.int .i64 f, .int .i64 t, .int .i64 each, .int .i64 A.r, .int .i64 A.c, .slice a1 A.l.length c1, .slice a2 n2 c2, .slice a3 n3 c3, .slice a4 n4 c4, .slice a5 N.length c5] 36)).alloc (.cells #[.int .i64 T.r, .int .i64 T.c, .slice a6 T.l.length c6] 31)), y.w.cell? ⟨x.w.heap.size, 2, none⟩ = some (.int .i64 each) := fun y => Since.cell (by simp [go_sem]) (by first | (simp; done) | (simp; omega)) y
  have hb0_3 : ∀ y : Since ((x.w.alloc (.cells #[.int .i64 f, .int .i64 t, .int .i64 each, .int .i64 A.r, .int .i64 A.c, .slice a1 A.l.length c1, .slice a2 n2 c2, .slice a3 n3 c3, .slice a4 n4 c4, .slice a5 N.length c5] 36)).alloc (.cells #[.int .i64 T.r, .int .i64 T.c, .slice a6 T.l.length c6] 31)), y.w.cell? ⟨x.w.heap.size, 3, none⟩ = some (.int .i64 A.r) := fun y => Since.cell (by simp [go_sem]) (by first | (simp; done) | (simp; omega)) y
  have hb0_4 : ∀ y : Since ((x.w.alloc (.cells #[.int .i64 f, .int .i64 t, .int .i64 each, .int .i64 A.r, .int .i64 A.c, .slice a1 A.l.length c1, .slice a2 n2 c2, .slice a3 n3 c3, .slice a4 n4 c4, .slice a5 N.length c5] 36)).alloc (.cells #[.int .i64 T.r, .int .i64 T.c, .slice a6 T.l.length c6] 31)), y.w.cell? ⟨x.w.heap.size, 4, none⟩ = some (.int .i64 A.c) := fun y => Since.cell (by simp [go_sem]) (by first | (simp; done) | (simp; omega)) y
  have hb0_5 : ∀ y : Since ((x.w.alloc (.cells #[.int .i64 f, .int .i64 t, .int .i64 each, .int .i64 A.r, .int .i64 A.c, .slice a1 A.l.length c1, .slice a2 n2 c2, .slice a3 n3 c3, .slice a4 n4 c4, .slice a5 N.length c5] 36)).alloc (.cells #[.int .i64 T.r, .int .i64 T.c, .slice a6 T.l.length c6] 31)), y.w.cell? ⟨x.w.heap.size, 5, none⟩ = some (.slice a1 A.l.length c1) := fun y => Since.cell (by simp [go_sem]) (by first | (simp; done) | (simp; omega)) y
  have hb0_6 : ∀ y : Since ((x.w.alloc (.cells #[.int .i64 f, .int .i64 t, .int .i64 each, .int .i64 A.r, .int .i64 A.c, .slice a1 A.l.length c1, .slice a2 n2 c2, .slice a3 n3 c3, .slice a4 n4 c4, .slice a5 N.length c5] 36)).alloc (.cells #[.int .i64 T.r, .int .i64 T.c, .slice a6 T.l.length c6] 31)), y.w.cell? ⟨x.w.heap.size, 6, none⟩ = some (.slice a2 n2 c2) := fun y => Since.cell (by simp [go_sem]) (by first | (simp; done) | (simp; omega)) y
  have hb0_7 : ∀ y : Since ((x.w.alloc (.cells #[.int .i64 f, .int .i64 t, .int .i64 each, .int .i64 A.r, .int .i64 A.c, .slice a1 A.l.length c1, .slice a2 n2 c2, .slice a3 n3 c3, .slice a4 n4 c4, .slice a5 N.length c5] 36)).alloc (.cells #[.int .i64 T.r, .int .i64 T.c, .slice a6 T.l.length c6] 31)), y.w.cell? ⟨x.w.heap.size, 7, none⟩ = some (.slice a3 n3 c3) := fun y => Since.cell (by simp [go_sem]) (by first | (simp; done) | (simp; omega)) y
  have hb0_8 : ∀ y : Since ((x.w.alloc (.cells #[.int .i64 f, .int .i64 t, .int .i64 each, .int .i64 A.r, .int .i64 A.c, .slice a1 A.l.length c1, .slice a2 n2 c2, .slice a3 n3 c3, .slice a4 n4 c4, .slice a5 N.length c5] 36)).alloc (.cells #[.int .i64 T.r, .int .i64 T.c, .slice a6 T.l.length c6] 31)), y.w.cell? ⟨x.w.heap.size, 8, none⟩ = some (.slice a4 n4 c4) := fun y => Since.cell (by simp [go_sem]) (by first | (simp; done) | (simp; omega)) y
  have hb0_9 : ∀ y : Since ((x.w.alloc (.cells #[.int .i64 f, .int .i64 t, .int .i64 each, .int .i64 A.r, .int .i64 A.c, .slice a1 A.l.length c1, .slice a2 n2 c2, .slice a3 n3 c3, .slice a4 n4 c4, .slice a5 N.length c5] 36)).alloc (.cells #[.int .i64 T.r, .int .i64 T.c, .slice a6 T.l.length c6] 31)), y.w.cell? ⟨x.w.heap.size, 9, none⟩ = some (.slice a5 N.length c5) := fun y => Since.cell (by simp [go_sem]) (by first | (simp; done) | (simp; omega)) y
  have hf0 : ∀ (y : Since ((x.w.alloc (.cells #[.int .i64 f, .int .i64 t, .int .i64 each, .int .i64 A.r, .int .i64 A.c, .slice a1 A.l.length c1, .slice a2 n2 c2, .slice a3 n3 c3, .slice a4 n4 c4, .slice a5 N.length c5] 36)).alloc (.cells #[.int .i64 T.r, .int .i64 T.c, .slice a6 T.l.length c6] 31))) (o : Nat), y.w.frozen? ⟨x.w.heap.size, o, none⟩ = false := fun y o => Since.free (by simp [go_sem]) (by first | (simp; done) | (simp; omega)) y
  have hb1_0 : ∀ y : Since ((x.w.alloc (.cells #[.int .i64 f, .int .i64 t, .int .i64 each, .int .i64 A.r, .int .i64 A.c, .slice a1 A.l.length c1, .slice a2 n2 c2, .slice a3 n3 c3, .slice a4 n4 c4, .slice a5 N.length c5] 36)).alloc (.cells #[.int .i64 T.r, .int .i64 T.c, .slice a6 T.l.length c6] 31)), y.w.cell? ⟨x.w.heap.size + 1, 0, none⟩ = some (.int .i64 T.r) := fun y => Since.cell (by simp [go_sem]) (by first | (simp; done) | (simp; omega)) y
  have hb1_1 : ∀ y : Since ((x.w.alloc (.cells #[.int .i64 f, .int .i64 t, .int .i64 each, .int .i64 A.r, .int .i64 A.c, .slice a1 A.l.length c1, .slice a2 n2 c2, .slice a3 n3 c3, .slice a4 n4 c4, .slice a5 N.length c5] 36)).alloc (.cells #[.int .i64 T.r, .int .i64 T.c, .slice a6 T.l.length c6] 31)), y.w.cell? ⟨x.w.heap.size + 1, 1, none⟩ = some (.int .i64 T.c) := fun y => Since.cell (by simp [go_sem]) (by first | (simp; done) | (simp; omega)) y
  have hb1_2 : ∀ y : Since ((x.w.alloc (.cells #[.int .i64 f, .int .i64 t, .int .i64 each, .int .i64 A.r, .int .i64 A.c, .slice a1 A.l.length c1, .slice a2 n2 c2, .slice a3 n3 c3, .slice a4 n4 c4, .slice a5 N.length c5] 36)).alloc (.cells #[.int .i64 T.r, .int .i64 T.c, .slice a6 T.l.length c6] 31)), y.w.cell? ⟨x.w.heap.size + 1, 2, none⟩ = some (.slice a6 T.l.length c6) := fun y => Since.cell (by simp [go_sem]) (by first | (simp; done) | (simp; omega)) y
  have hf1 : ∀ (y : Since ((x.w.alloc (.cells #[.int .i64 f, .int .i64 t, .int .i64 each, .int .i64 A.r, .int .i64 A.c, .slice a1 A.l.length c1, .slice a2 n2 c2, .slice a3 n3 c3, .slice a4 n4 c4, .slice a5 N.length c5] 36)).alloc (.cells #[.int .i64 T.r, .int .i64 T.c, .slice a6 T.l.length c6] 31))) (o : Nat), y.w.frozen? ⟨x.w.heap.size + 1, o, none⟩ = false := fun y o => Since.free (by simp [go_sem]) (by first | (simp; done) | (simp; omega)) y
  have hWup : ∃ z : Since w, ((x.w.alloc (.cells #[.int .i64 f, .int .i64 t, .int .i64 each, .int .i64 A.r, .int .i64 A.c, .slice a1 A.l.length c1, .slice a2 n2 c2, .slice a3 n3 c3, .slice a4 n4 c4, .slice a5 N.length c5] 36)).alloc (.cells #[.int .i64 T.r, .int .i64 T.c, .slice a6 T.l.length c6] 31)) = z.w := Since.allocs x [.cells #[.int .i64 f, .int .i64 t, .int .i64 each, .int .i64 A.r, .int .i64 A.c, .slice a1 A.l.length c1, .slice a2 n2 c2, .slice a3 n3 c3, .slice a4 n4 c4, .slice a5 N.length c5] 36, .cells #[.int .i64 T.r, .int .i64 T.c, .slice a6 T.l.length c6] 31]
  obtain ⟨y0, hy0⟩ := Since.refl ((x.w.alloc (.cells #[.int .i64 f, .int .i64 t, .int .i64 each, .int .i64 A.r, .int .i64 A.c, .slice a1 A.l.length c1, .slice a2 n2 c2, .slice a3 n3 c3, .slice a4 n4 c4, .slice a5 N.length c5] 36)).alloc (.cells #[.int .i64 T.r, .int .i64 T.c, .slice a6 T.l.length c6] 31))
  have Hbx := Lib.hid (And.intro x.b.size (show x.w.heap.size + 2 = ((x.w.alloc (.cells #[.int .i64 f, .int .i64 t, .int .i64 each, .int .i64 A.r, .int .i64 A.c, .slice a1 A.l.length c1, .slice a2 n2 c2, .slice a3 n3 c3, .slice a4 n4 c4, .slice a5 N.length c5] 36)).alloc (.cells #[.int .i64 T.r, .int .i64 T.c, .slice a6 T.l.length c6] 31)).heap.size from by simp))
  generalize hW : ((x.w.alloc (.cells #[.int .i64 f, .int .i64 t, .int .i64 each, .int .i64 A.r, .int .i64 A.c, .slice a1 A.l.length c1, .slice a2 n2 c2, .slice a3 n3 c3, .slice a4 n4 c4, .slice a5 N.length c5] 36)).alloc (.cells #[.int .i64 T.r, .int .i64 T.c, .slice a6 T.l.length c6] 31)) = W at *
  clear hW
  generalize x.w.heap.size = bx at *
  have Hup := Lib.hid (Since.up hWup)
  rw [hy0]
  clear hy0
  replace HAr := Lib.hid (HAr.out.to hWup)
  replace HNr := Lib.hid (HNr.out.to hWup)
  replace HTr := Lib.hid (HTr.out.to hWup)
  replace Hsg := Lib.hid (Hsg.out.to hWup)
  clear hWup hf0 hf1
  have HNo2 := Lib.hid (show ∀ e, E = e → e ≠ 0 → ∀ z : Since W, PO (.returned (.tuple #[.slice none 0 0, .int .i64 e])) z.w from fun e h he z => by obtain ⟨z2, hz⟩ := Hup.out z; rw [hz]; exact HNo.out e h he z2)
  have HA := Lib.hid (show chkE A ≠ 0 → ∀ z : Since W, PO (.returned (.tuple #[.slice none 0 0, .int .i64 (chkE A)])) z.w from fun h => HNo2.out _ (by rw [HE.out, if_pos h]) h)
  have HT := Lib.hid (show chkE A = 0 → chkE T ≠ 0 → ∀ z : Since W, PO (.returned (.tuple #[.slice none 0 0, .int .i64 (chkE T)])) z.w from fun h0 h => HNo2.out _ (by rw [HE.out, if_neg (by rw [h0]; simp), if_pos h]) h)
  obtain ⟨OKJ, hOKJ⟩ : ∃ p : Nat → Prop, p 0 ∧ (chkE A = 0 → p 1) ∧ (p 1 → chkE T = 0 → p 2) ∧ (p 1 → chkE A = 0) ∧ (p 2 → chkE A = 0 ∧ chkE T = 0) :=
    ⟨fun n => (1 ≤ n → chkE A = 0) ∧ (2 ≤ n → chkE T = 0), ⟨fun h => by omega, fun h => by omega⟩, fun h => ⟨fun _ => h, fun h => by omega⟩, fun h1 h => ⟨fun _ => h1.1 (by omega), fun _ => h⟩, fun h => h.1 (by omega), fun h => ⟨h.1 (by omega), h.2 (by omega)⟩⟩
  have HOK := Lib.hid hOKJ
  clear hOKJ
  go_upto_region 2 with fail
  have hx0 : (y0.w.alloc (.cells #[.int .i64 A.r, .int .i64 A.c, .slice a1 A.l.length c1, .int .i64 T.r, .int .i64 T.c, .slice a6 T.l.length c6] 31)).cell? ⟨y0.w.heap.size, 0, none⟩ = some (.int .i64 A.r) := by simp [go_sem]
  have hx1 : (y0.w.alloc (.cells #[.int .i64 A.r, .int .i64 A.c, .slice a1 A.l.length c1, .int .i64 T.r, .int .i64 T.c, .slice a6 T.l.length c6] 31)).cell? ⟨y0.w.heap.size, 1, none⟩ = some (.int .i64 A.c) := by simp [go_sem]
  have hx2 : (y0.w.alloc (.cells #[.int .i64 A.r, .int .i64 A.c, .slice a1 A.l.length c1, .int .i64 T.r, .int .i64 T.c, .slice a6 T.l.length c6] 31)).cell? ⟨y0.w.heap.size, 2, none⟩ = some (.slice a1 A.l.length c1) := by simp [go_sem]
  have hx3 : (y0.w.alloc (.cells #[.int .i64 A.r, .int .i64 A.c, .slice a1 A.l.length c1, .int .i64 T.r, .int .i64 T.c, .slice a6 T.l.length c6] 31)).cell? ⟨y0.w.heap.size, 3, none⟩ = some (.int .i64 T.r) := by simp [go_sem]
  have hx4 : (y0.w.alloc (.cells #[.int .i64 A.r, .int .i64 A.c, .slice a1 A.l.length c1, .int .i64 T.r, .int .i64 T.c, .slice a6 T.l.length c6] 31)).cell? ⟨y0.w.heap.size, 4, none⟩ = some (.int .i64 T.c) := by simp [go_sem]
  have hx5 : (y0.w.alloc (.cells #[.int .i64 A.r, .int .i64 A.c, .slice a1 A.l.length c1, .int .i64 T.r, .int .i64 T.c, .slice a6 T.l.length c6] 31)).cell? ⟨y0.w.heap.size, 5, none⟩ = some (.slice a6 T.l.length c6) := by simp [go_sem]
  have hxf : ∀ o, (y0.w.alloc (.cells #[.int .i64 A.r, .int .i64 A.c, .slice a1 A.l.length c1, .int .i64 T.r, .int .i64 T.c, .slice a6 T.l.length c6] 31)).frozen? ⟨y0.w.heap.size, o, none⟩ = false := fun o => by simp [go_sem]
  have hlt0 : y0.w.heap.size < (y0.w.alloc (.cells #[.int .i64 A.r, .int .i64 A.c, .slice a1 A.l.length c1, .int .i64 T.r, .int .i64 T.c, .slice a6 T.l.length c6] 31)).heap.size := by simp
  have hst0 : ∃ zz : Since y0.w, (y0.w.alloc (.cells #[.int .i64 A.r, .int .i64 A.c, .slice a1 A.l.length c1, .int .i64 T.r, .int .i64 T.c, .slice a6 T.l.length c6] 31)) = zz.w := IsSince.alloc (IsSince.self _) _
  have hsz0 := y0.b.size
  obtain ⟨y1, e2⟩ := IsSince.alloc (IsSince.of y0) (.cells #[.int .i64 A.r, .int .i64 A.c, .slice a1 A.l.length c1, .int .i64 T.r, .int .i64 T.c, .slice a6 T.l.length c6] 31)
  rw [e2] at hx0 hx1 hx2 hx3 hx4 hx5 hxf hlt0 hst0 ⊢
  skip
  clear e2 hst0
  generalize y0.w.heap.size = gs at *
  have Hhx0 : ∀ q : Since y1.w, q.w.cell? ⟨gs, 0, none⟩ = some (.int .i64 A.r) := fun q => Since.cell hx0 (by omega) q
  have Hhx1 : ∀ q : Since y1.w, q.w.cell? ⟨gs, 1, none⟩ = some (.int .i64 A.c) := fun q => Since.cell hx1 (by omega) q
  have Hhx2 : ∀ q : Since y1.w, q.w.cell? ⟨gs, 2, none⟩ = some (.slice a1 A.l.length c1) := fun q => Since.cell hx2 (by omega) q
  have Hhx3 : ∀ q : Since y1.w, q.w.cell? ⟨gs, 3, none⟩ = some (.int .i64 T.r) := fun q => Since.cell hx3 (by omega) q
  have Hhx4 : ∀ q : Since y1.w, q.w.cell? ⟨gs, 4, none⟩ = some (.int .i64 T.c) := fun q => Since.cell hx4 (by omega) q
  have Hhx5 : ∀ q : Since y1.w, q.w.cell? ⟨gs, 5, none⟩ = some (.slice a6 T.l.length c6) := fun q => Since.cell hx5 (by omega) q
  have Hhxf : ∀ (q : Since y1.w) (o : Nat), q.w.frozen? ⟨gs, o, none⟩ = false := fun q o => Since.free (hxf o) (by omega) q
  have Hhxg := Lib.hid (And.intro hsz0 hlt0)
  clear hlt0 hsz0
  clear hx0 hx1 hx2 hx3 hx4 hx5 Hhxf Hhxg hxf
  go_loopw [18] (fun si wr => ∃ (j : Nat) (y : Since y1.w), j ≤ 2 ∧ si = .int .i64 (j : Int) ∧ wr = y.w ∧ OKJ j) (fun si _ => 2 - (intOf si).toNat)
  case atStart => exact ⟨0, Since.self _, by omega, rfl, rfl, HOK.out.1⟩
  case round =>
    obtain ⟨j, y, hj, rfl, rfl, hn⟩ := hrel
    by_cases hlt : j < 2
    · obtain rfl | rfl : j = 0 ∨ j = 1 := by omega
      · rw [show (((0 : Nat)) : Int) = 0 from rfl]
        have HN := Lib.hid (show chkE A ≠ 0 → ∀ z : Since W, PO (.returned (.tuple #[.slice none 0 0, .int .i64 (chkE A)])) z.w from fun hA => HA.out hA)
        have HS := Lib.hid (show chkE A = 0 → OKJ 1 from HOK.out.2.1)
        clear hn
        go_upto_region 4 with fail
        have hy0 : (y.w.alloc (.cells #[.int .i64 A.r, .int .i64 A.c, .slice a1 A.l.length c1] 31)).cell? ⟨y.w.heap.size, 0, none⟩ = some (.int .i64 A.r) := by simp [go_sem]
        have hy1 : (y.w.alloc (.cells #[.int .i64 A.r, .int .i64 A.c, .slice a1 A.l.length c1] 31)).cell? ⟨y.w.heap.size, 1, none⟩ = some (.int .i64 A.c) := by simp [go_sem]
        have hy2 : (y.w.alloc (.cells #[.int .i64 A.r, .int .i64 A.c, .slice a1 A.l.length c1] 31)).cell? ⟨y.w.heap.size, 2, none⟩ = some (.slice a1 A.l.length c1) := by simp [go_sem]
        have hyf : ∀ o, (y.w.alloc (.cells #[.int .i64 A.r, .int .i64 A.c, .slice a1 A.l.length c1] 31)).frozen? ⟨y.w.heap.size, o, none⟩ = false := fun o => by simp [go_sem]
        have hlt0 : y.w.heap.size < (y.w.alloc (.cells #[.int .i64 A.r, .int .i64 A.c, .slice a1 A.l.length c1] 31)).heap.size := by simp
        have hst0 : ∃ zz : Since y.w, (y.w.alloc (.cells #[.int .i64 A.r, .int .i64 A.c, .slice a1 A.l.length c1] 31)) = zz.w := IsSince.alloc (IsSince.self _) _
        have hsz0 := y.b.size
        obtain ⟨y2, e2⟩ := IsSince.alloc (IsSince.of y) (.cells #[.int .i64 A.r, .int .i64 A.c, .slice a1 A.l.length c1] 31)
        rw [e2] at hy0 hy1 hy2 hyf hlt0 hst0 ⊢
        skip
        clear e2 hst0
        generalize y.w.heap.size = gt at *
        have Hhy0 : ∀ q : Since y2.w, q.w.cell? ⟨gt, 0, none⟩ = some (.int .i64 A.r) := fun q => Since.cell hy0 (by omega) q
        have Hhy1 : ∀ q : Since y2.w, q.w.cell? ⟨gt, 1, none⟩ = some (.int .i64 A.c) := fun q => Since.cell hy1 (by omega) q
        have Hhy2 : ∀ q : Since y2.w, q.w.cell? ⟨gt, 2, none⟩ = some (.slice a1 A.l.length c1) := fun q => Since.cell hy2 (by omega) q
        have Hhyf : ∀ (q : Since y2.w) (o : Nat), q.w.frozen? ⟨gt, o, none⟩ = false := fun q o => Since.free (hyf o) (by omega) q
        have Hhyg := Lib.hid (And.intro hsz0 hlt0)
        clear hlt0 hsz0
        obtain ⟨z2, hz2⟩ := y1.trans y2
        have HC := Lib.hid (tcheck_calls y2.w (Since.self y2.w) A a1 c1 ((HAr.out.to ⟨y1, rfl⟩).to ⟨y2, rfl⟩) (by have := Hlen.out; omega))
        change Code.wp _ _ _ _ (Since.self y2.w).w
        clear HA HT hy0 hy1 hy2 Hhyf Hhyg hyf
        go_upto_region 5 with (go_at_call 36; ((with_reducible refine HC.out.mono ?_); rintro _ _ ⟨rfl, y3, rfl⟩))
        clear HC
        obtain ⟨z3, hz3⟩ := y2.trans y3
        have Hz3 := Lib.hid hz3
        clear hz3 hz2
        by_cases h0 : chkE A = 0
        · have HS2 := Lib.hid (HS.out h0)
          rw [h0, Hz3.out]
          clear HN HS h0
          go_wp2_with fail
          go_roundw
          case rel => exact ⟨1, z3, by omega, by go_num, rfl, HS2.out⟩
          case measure => simp [intOf] <;> omega
        · obtain ⟨z4, hz4⟩ := y1.trans z3
          have HN2 := Lib.hid (hz4 ▸ HN.out h0 z4)
          rw [Hz3.out]
          clear HN HS hz4
          generalize chkE A = e at *
          go_wp2_with fail
          exact HN2.out
      · rw [show (((1 : Nat)) : Int) = 1 from rfl]
        have HN := Lib.hid (show chkE T ≠ 0 → ∀ z : Since W, PO (.returned (.tuple #[.slice none 0 0, .int .i64 (chkE T)])) z.w from fun hT => HT.out (HOK.out.2.2.2.1 hn) hT)
        have HS := Lib.hid (show chkE T = 0 → OKJ 2 from HOK.out.2.2.1 hn)
        clear hn
        go_upto_region 4 with fail
        have hy0 : (y.w.alloc (.cells #[.int .i64 T.r, .int .i64 T.c, .slice a6 T.l.length c6] 31)).cell? ⟨y.w.heap.size, 0, none⟩ = some (.int .i64 T.r) := by simp [go_sem]
        have hy1 : (y.w.alloc (.cells #[.int .i64 T.r, .int .i64 T.c, .slice a6 T.l.length c6] 31)).cell? ⟨y.w.heap.size, 1, none⟩ = some (.int .i64 T.c) := by simp [go_sem]
        have hy2 : (y.w.alloc (.cells #[.int .i64 T.r, .int .i64 T.c, .slice a6 T.l.length c6] 31)).cell? ⟨y.w.heap.size, 2, none⟩ = some (.slice a6 T.l.length c6) := by simp [go_sem]
        have hyf : ∀ o, (y.w.alloc (.cells #[.int .i64 T.r, .int .i64 T.c, .slice a6 T.l.length c6] 31)).frozen? ⟨y.w.heap.size, o, none⟩ = false := fun o => by simp [go_sem]
        have hlt0 : y.w.heap.size < (y.w.alloc (.cells #[.int .i64 T.r, .int .i64 T.c, .slice a6 T.l.length c6] 31)).heap.size := by simp
        have hst0 : ∃ zz : Since y.w, (y.w.alloc (.cells #[.int .i64 T.r, .int .i64 T.c, .slice a6 T.l.length c6] 31)) = zz.w := IsSince.alloc (IsSince.self _) _
        have hsz0 := y.b.size
        obtain ⟨y2, e2⟩ := IsSince.alloc (IsSince.of y) (.cells #[.int .i64 T.r, .int .i64 T.c, .slice a6 T.l.length c6] 31)
        rw [e2] at hy0 hy1 hy2 hyf hlt0 hst0 ⊢
        skip
        clear e2 hst0
        generalize y.w.heap.size = gt at *
        have Hhy0 : ∀ q : Since y2.w, q.w.cell? ⟨gt, 0, none⟩ = some (.int .i64 T.r) := fun q => Since.cell hy0 (by omega) q
        have Hhy1 : ∀ q : Since y2.w, q.w.cell? ⟨gt, 1, none⟩ = some (.int .i64 T.c) := fun q => Since.cell hy1 (by omega) q
        have Hhy2 : ∀ q : Since y2.w, q.w.cell? ⟨gt, 2, none⟩ = some (.slice a6 T.l.length c6) := fun q => Since.cell hy2 (by omega) q
        have Hhyf : ∀ (q : Since y2.w) (o : Nat), q.w.frozen? ⟨gt, o, none⟩ = false := fun q o => Since.free (hyf o) (by omega) q
        have Hhyg := Lib.hid (And.intro hsz0 hlt0)
        clear hlt0 hsz0
        obtain ⟨z2, hz2⟩ := y1.trans y2
        have HC := Lib.hid (tcheck_calls y2.w (Since.self y2.w) T a6 c6 ((HTr.out.to ⟨y1, rfl⟩).to ⟨y2, rfl⟩) (by have := Hlen.out; omega))
        change Code.wp _ _ _ _ (Since.self y2.w).w
        clear HA HT hy0 hy1 hy2 Hhyf Hhyg hyf
        go_upto_region 5 with (go_at_call 36; ((with_reducible refine HC.out.mono ?_); rintro _ _ ⟨rfl, y3, rfl⟩))
        clear HC
        obtain ⟨z3, hz3⟩ := y2.trans y3
        have Hz3 := Lib.hid hz3
        clear hz3 hz2
        by_cases h0 : chkE T = 0
        · have HS2 := Lib.hid (HS.out h0)
          rw [h0, Hz3.out]
          clear HN HS h0
          go_wp2_with fail
          go_roundw
          case rel => exact ⟨2, z3, by omega, by go_num, rfl, HS2.out⟩
          case measure => simp [intOf] <;> omega
        · obtain ⟨z4, hz4⟩ := y1.trans z3
          have HN2 := Lib.hid (hz4 ▸ HN.out h0 z4)
          rw [Hz3.out]
          clear HN HS hz4
          generalize chkE T = e at *
          go_wp2_with fail
          exact HN2.out
    · obtain rfl : j = 2 := by omega
      obtain ⟨hA0, hT0⟩ := HOK.out.2.2.2.2 hn
      have HE2 := Lib.hid (show E = if A.r ≠ T.r ∨ A.c ≠ T.c then 3 else check N by rw [HE.out, if_neg (by rw [hA0]; simp), if_neg (by rw [hT0]; simp)])
      have HiA := Lib.hid (chk_inv hA0)
      have HiT := Lib.hid (chk_inv hT0)
      have hT64 := chk_len64 hT0
      have hA64 := chk_len64 hA0
      obtain ⟨z1, hz1⟩ := y1.trans y
      rw [hz1]
      clear HA HT HE HOK hn hA0 hT0 Hhx0 Hhx1 Hhx2 Hhx3 Hhx4 Hhx5 hz1 hj
      by_cases hr : A.r = T.r
      · by_cases hc : A.c = T.c
        · have HE3 := Lib.hid (show E = check N by rw [HE2.out, if_neg (by rw [hr, hc]; simp)])
          have HlA := Lib.hid (show A.l.length = T.l.length from by have h1 := HiA.out.2.2.1; have h2 := HiT.out.2.2.1; rw [hr, hc, ← h2] at h1; omega)
          have hr' := intrel_eq hr
          have hc' := intrel_eq hc
          have HCk := Lib.hid (fun z : Since W => ncheck_calls W z a5 N c5 Hlen.out.2.1 HNr.out)
          have Hr := Lib.hid hr; have Hc := Lib.hid hc
          clear hr hc HE2
          go_upto_region 11 with (go_at_call 37; ((with_reducible refine (HCk.out _).mono ?_); rintro _ _ ⟨rfl, z2, rfl⟩))
          clear hr' hc'
          by_cases h0 : check N = 0
          · have HY2 := Lib.hid (show ∀ (z : Since W) (g : Nat) (L : List Int), L = chL A T N → BoxIs z.w g (L.map (.int .i64)) → PO (.returned (.tuple #[.slice (some ⟨g, 0, none⟩) T.l.length T.l.length, .int .i64 0])) z.w from fun z g L hL hb => by
              obtain ⟨z2, hz⟩ := Hup.out z
              rw [hz] at hb ⊢
              exact HYes.out (HE3.out.trans h0) z2 g _ L hL (by rw [hL]; simp [chL]) hb)
            rw [h0]
            have hmk := fun q : World => make1_run sIntF rfl T.l.length (by omega) (by omega) q
            clear HNo HNo2 HYes HE3 h0 HCk
            go_upto_region 14 with fail
            clear hmk
            obtain ⟨z3, hz3⟩ := z2.alloc (.cells (List.replicate T.l.length (Value.int .i64 0)).toArray 3)
            have hb := BoxIs.new z2.w (List.replicate T.l.length (Value.int .i64 0)) 3
            have hgO : W.heap.size ≤ z2.w.heap.size := z2.b.size
            rw [List.toArray_replicate] at hz3 hb
            rw [hz3] at hb ⊢
            have HB := Lib.hid (show BoxIs z3.w z2.w.heap.size ((List.replicate T.l.length 0).map (.int .i64)) by rw [List.map_replicate]; exact hb)
            clear hb hz3
            generalize z2.w.heap.size = gO at *
            go_upto_region 15 with fail
            go_loopw [55] (fun si wr => ∃ (k : Nat) (L : List Int) (z : Since W), k ≤ T.l.length ∧ si = .int .i64 (k : Int) ∧ wr = z.w ∧ L.length = T.l.length ∧ BoxIs z.w gO (L.map (.int .i64)) ∧ ∀ j, j < k → at0 L j = weight N (at0 A.l j - at0 T.l j)) (fun si _ => T.l.length - (intOf si).toNat)
            case atStart => exact ⟨0, _, z3, by omega, rfl, rfl, by simp, HB.out, fun j hj => by omega⟩
            case round =>
              clear HB
              obtain ⟨k, L, z, hk, rfl, rfl, hl, hB, hw⟩ := hrel
              have HB := Lib.hid hB; have Hl := Lib.hid hl; have Hw := Lib.hid hw
              clear hB hl hw
              by_cases hlt : k < T.l.length
              · have hk0 : (0 : Int) ≤ (k : Int) := by omega
                have hkl : (k : Int) < (T.l.length : Int) := by omega
                have hkA : (k : Int) < (A.l.length : Int) := by have := HlA.out; omega
                obtain ⟨b1, o1, rfl, hb1, hc1'⟩ := HTr.out k hlt
                have f0 : z.w.cell? ⟨b1, o1 + k, none⟩ = some (.int .i64 (at0 T.l k)) := Since.cell hc1' hb1 z
                obtain ⟨b2, o2, rfl, hb2, hc2'⟩ := HAr.out k (by have := HlA.out; omega)
                have f1 : ∀ q : Since W, q.w.cell? ⟨b2, o2 + k, none⟩ = some (.int .i64 (at0 A.l k)) := fun q => Since.cell hc2' hb2 q
                have f1' := Since.cellTo ⟨z, rfl⟩ f1
                clear hb1 hc1' hb2 hc2' f1
                obtain ⟨u1, u2⟩ := HiA.out.2.2.2 k (by have := HlA.out; omega)
                obtain ⟨u3, u4⟩ := HiT.out.2.2.2 k hlt
                have HWt := Lib.hid (fun q : Since z.w => weight_calls z.w q (Hsg.out.to ⟨z, rfl⟩) a5 N c5 (at0 A.l k - at0 T.l k) ⟨by omega, by omega⟩ Hlen.out.2.1 (HNr.out.to ⟨z, rfl⟩))
                have HSt := Lib.hid (fun (q : Since z.w) (v : Int) (hv : v = weight N (at0 A.l k - at0 T.l k)) => show ∃ z5 : Since W, q.w.setCell ⟨gO, k, none⟩ (.int .i64 v) = z5.w ∧ (L.set k v).length = T.l.length ∧ BoxIs z5.w gO ((L.set k v).map (.int .i64)) ∧ ∀ j, j < k + 1 → at0 (L.set k v) j = weight N (at0 A.l j - at0 T.l j) from by
                  obtain ⟨z4, h4⟩ := z.trans q
                  obtain ⟨z5, h5⟩ := z4.set ⟨gO, k, none⟩ hgO (.int .i64 v)
                  have hb := (HB.out.since q).setI (i := k) (by rw [Hl.out]; exact hlt) v
                  rw [h4, h5] at hb
                  refine ⟨z5, by rw [h4, h5], by rw [List.length_set]; exact Hl.out, hb, fun j hj => ?_⟩
                  by_cases e : j = k
                  · subst e
                    unfold at0 at *
                    rw [List.getD_eq_getElem?_getD, List.getElem?_set_self (by rw [Hl.out]; exact hlt)]
                    exact hv
                  · have := Hw.out j (by omega)
                    unfold at0 at *
                    rw [List.getD_eq_getElem?_getD, List.getElem?_set_ne (Ne.symm e), ← List.getD_eq_getElem?_getD]
                    exact this)
                generalize hwv : weight N (at0 A.l k - at0 T.l k) = wv at *
                have ws : IntKind.i64.wrap (at0 A.l k - at0 T.l k) = at0 A.l k - at0 T.l k := IntWalk.i64_in _ (by omega)
                have q0 := HB.out.atI (i := k) (by rw [Hl.out]; exact hlt)
                have HBl := Lib.hid (fun q : Since z.w => HB.out.since q)
                clear HB Hw hwv
                generalize at0 A.l k = ea at *
                generalize at0 T.l k = et at *
                go_upto_region 17 with fail
                have b5 := Since.cellTo ⟨z, rfl⟩ hb0_5
                have b9 := Since.cellTo ⟨z, rfl⟩ hb0_9
                have i5 := fun w' (h : IsSince z.w w') => IsSince.cell b5 h
                have i9 := fun w' (h : IsSince z.w w') => IsSince.cell b9 h
                have j0 := fun w' (h : IsSince z.w w') => IsSince.cell f1' h
                have g0 := fun w' (h : IsSince z.w w') => IsSince.cell (Since.cell q0 (HBl.out (Since.self _)).lt) h
                have g1 := fun w' (h : IsSince z.w w') => show w'.frozen? ⟨gO, k, none⟩ = false from by obtain ⟨q, rfl⟩ := h; exact (HBl.out q).f k
                refine wp_region_M (fun w' => IsSince z.w w') 14 (by kernel_rfl) (IsSince.drew' (IsSince.self _)) (fun hS => ?_)
                refine wpAnyM_takeU (i := 0) (v := ?_) rfl (by kernel_rfl) (by kernel_rfl) (by kernel_rfl) (by kernel_rfl) (fun _ _ _ h => h) hS (Or.inl ⟨by rfl, ?_⟩) ?_
                rotate_left
                · (intro w hSw; (try dsimp only at hSw); go_split_ands; go_simp; try (with_reducible rfl))
                (try simp only [Act.put, List.setIfInBounds_toArray, List.set_cons_zero, List.set_cons_succ])
                refine wpAnyM_takeU (i := 1) (v := ?_) rfl (by kernel_rfl) (by kernel_rfl) (by kernel_rfl) (by kernel_rfl) (fun _ _ _ h => h) hS (Or.inl ⟨by rfl, ?_⟩) ?_
                rotate_left
                · (intro w hSw; (try dsimp only at hSw); go_split_ands; go_simp; try (with_reducible rfl))
                (try simp only [Act.put, List.setIfInBounds_toArray, List.set_cons_zero, List.set_cons_succ])
                refine wpAnyM_takeU (i := 2) (v := ?_) rfl (by kernel_rfl) (by kernel_rfl) (by kernel_rfl) (by kernel_rfl) (fun _ _ _ h => h) hS (Or.inl ⟨by rfl, ?_⟩) ?_
                rotate_left
                · (intro w hSw; (try dsimp only at hSw); go_split_ands; go_simp; try (with_reducible rfl))
                (try simp only [Act.put, List.setIfInBounds_toArray, List.set_cons_zero, List.set_cons_succ])
                refine wpAnyM_takeU (i := 3) (v := ?_) rfl (by kernel_rfl) (by kernel_rfl) (by kernel_rfl) (by kernel_rfl) (fun _ _ _ h => h) hS (Or.inl ⟨by rfl, ?_⟩) ?_
                rotate_left
                · (intro w hSw; (try dsimp only at hSw); go_split_ands; go_simp; try (with_reducible rfl))
                (try simp only [Act.put, List.setIfInBounds_toArray, List.set_cons_zero, List.set_cons_succ])
                refine wpAnyM_takeU (i := 4) (v := ?_) rfl (by kernel_rfl) (by kernel_rfl) (by kernel_rfl) (by kernel_rfl) (fun _ _ _ h => h) hS (Or.inl ⟨by rfl, ?_⟩) ?_
                rotate_left
                · (intro w hSw; (try dsimp only at hSw); go_split_ands; go_simp; try (with_reducible rfl))
                (try simp only [Act.put, List.setIfInBounds_toArray, List.set_cons_zero, List.set_cons_succ])
                refine wpAnyM_takeU (i := 5) (v := ?_) rfl (by kernel_rfl) (by kernel_rfl) (by kernel_rfl) (by kernel_rfl) (fun _ _ _ h => h) hS (Or.inl ⟨by rfl, ?_⟩) ?_
                rotate_left
                · (intro w hSw; (try dsimp only at hSw); go_split_ands; go_simp; try (with_reducible rfl))
                (try simp only [Act.put, List.setIfInBounds_toArray, List.set_cons_zero, List.set_cons_succ])
                refine wpAnyM_takeU (i := 6) (v := ?_) rfl (by kernel_rfl) (by kernel_rfl) (by kernel_rfl) (by kernel_rfl) (fun _ _ _ h => h) hS (Or.inl ⟨by rfl, ?_⟩) ?_
                rotate_left
                · (intro w hSw; (try dsimp only at hSw); go_split_ands; go_simp; try (with_reducible rfl))
                (try simp only [Act.put, List.setIfInBounds_toArray, List.set_cons_zero, List.set_cons_succ])
                refine wpAnyM_takeU (i := 7) (v := ?_) rfl (by kernel_rfl) (by kernel_rfl) (by kernel_rfl) (by kernel_rfl) (fun _ _ _ h => h) hS (Or.inl ⟨by rfl, ?_⟩) ?_
                rotate_left
                · (intro w hSw; (try dsimp only at hSw); go_split_ands; go_simp; try (with_reducible rfl))
                (try simp only [Act.put, List.setIfInBounds_toArray, List.set_cons_zero, List.set_cons_succ])
                refine wpAnyM_takeU (i := 8) (v := ?_) rfl (by kernel_rfl) (by kernel_rfl) (by kernel_rfl) (by kernel_rfl) (fun _ _ _ h => h) hS (Or.inl ⟨by rfl, ?_⟩) ?_
                rotate_left
                · (intro w hSw; (try dsimp only at hSw); go_split_ands; go_simp; try (with_reducible rfl))
                (try simp only [Act.put, List.setIfInBounds_toArray, List.set_cons_zero, List.set_cons_succ])
                refine wpAnyM_takeU (i := 9) (v := ?_) rfl (by kernel_rfl) (by kernel_rfl) (by kernel_rfl) (by kernel_rfl) (fun _ _ _ h => h) hS (Or.inl ⟨by rfl, ?_⟩) ?_
                rotate_left
                · (intro w hSw; (try dsimp only at hSw); go_split_ands; go_simp; try (with_reducible rfl))
                (try simp only [Act.put, List.setIfInBounds_toArray, List.set_cons_zero, List.set_cons_succ])
                refine wpAnyM_takeU (i := 10) (v := ?_) rfl (by kernel_rfl) (by kernel_rfl) (by kernel_rfl) (by kernel_rfl) (fun _ _ _ h => h) hS (Or.inl ⟨by rfl, ?_⟩) ?_
                rotate_left
                · (intro w hSw; (try dsimp only at hSw); go_split_ands; go_simp; try (with_reducible rfl))
                (try simp only [Act.put, List.setIfInBounds_toArray, List.set_cons_zero, List.set_cons_succ])
                refine wpAnyM_takeU (i := 11) (v := ?_) rfl (by kernel_rfl) (by kernel_rfl) (by kernel_rfl) (by kernel_rfl) (fun _ _ _ h => h) hS (Or.inl ⟨by rfl, ?_⟩) ?_
                rotate_left
                · (intro w hSw; (try dsimp only at hSw); go_split_ands; go_simp; try (with_reducible rfl))
                (try simp only [Act.put, List.setIfInBounds_toArray, List.set_cons_zero, List.set_cons_succ])
                refine wpAnyM_one (i := 12) (by kernel_rfl) rfl (fun K hK => ?_)
                (go_simp; obtain ⟨q, hq⟩ := hS; rw [hq]; (with_reducible refine (HWt.out q).mono ?_); rintro _ _ ⟨rfl, q2, rfl⟩)
                refine hK.out _ _ (Or.inr (IsSince.of q2)) (fun hS' => ?_)
                replace hS := hS'.resolve_left (by decide)
                clear hK K hS'
                (try simp only [Act.put, List.setIfInBounds_toArray, List.set_cons_zero, List.set_cons_succ])
                refine wpAnyM_takeU (i := 13) (v := ?_) rfl (by kernel_rfl) (by kernel_rfl) (by kernel_rfl) (by kernel_rfl) (fun _ _ _ h => h) hS (Or.inl ⟨by rfl, ?_⟩) ?_
                rotate_left
                · (intro w hSw; (try dsimp only at hSw); go_split_ands; go_simp; try (with_reducible rfl))
                (try simp only [Act.put, List.setIfInBounds_toArray, List.set_cons_zero, List.set_cons_succ])
                refine wpAnyM_one (i := 14) (by kernel_rfl) rfl (fun K hK => ?_)
                go_simp
                refine hK.out _ _ (Or.inl rfl) (fun _ => ?_)
                clear hK K hS
                (try simp only [Act.put, List.setIfInBounds_toArray, List.set_cons_zero, List.set_cons_succ])
                refine wpAnyM_done (by kernel_rfl) ?_
                obtain ⟨z5, h5, h6, h7, h8⟩ := HSt.out q2 wv rfl
                have H6 := Lib.hid h6; have H7 := Lib.hid h7; have H8 := Lib.hid h8
                rw [h5]
                clear h5 h6 h7 h8 HSt HWt HBl i5 i9 j0 g0 g1 b5 b9 ws q0
                go_wp2_with fail
                go_roundw
                case rel => exact ⟨k + 1, _, z5, by omega, by go_num, rfl, H6.out, H7.out, H8.out⟩
                case measure => simp [intOf] <;> omega
              · obtain rfl : k = T.l.length := by omega
                have HL := Lib.hid (show L = chL A T N from at0_extS (by rw [Hl.out]; simp [chL]) fun i hi => by
                  have hi' : i < T.l.length := by rw [← Hl.out]; exact hi
                  unfold chL
                  rw [Hw.out i hi', at0_map _ _ _ hi'])
                have HP := Lib.hid (HY2.out z gO L HL.out HB.out)
                clear HY2 HL Hw
                go_wp2_with fail
                exact HP.out
          · have HN2 := Lib.hid (HNo2.out _ HE3.out h0)
            clear HNo HNo2 HYes HE3 HCk
            generalize check N = e at *
            go_wp2_with fail
            exact HN2.out z2
        · have HN2 := Lib.hid (HNo2.out 3 (by rw [HE2.out, if_pos (Or.inr hc)]) (by decide))
          have hr' := intrel_eq hr
          have hc' := intrel_ne hc
          clear hr hc HE2 HNo HNo2 HYes
          go_wp2_with fail
          exact HN2.out z1
      · have HN2 := Lib.hid (HNo2.out 3 (by rw [HE2.out, if_pos (Or.inl hr)]) (by decide))
        have hr' := intrel_ne hr
        clear hr HE2 HNo HNo2 HYes
        go_wp2_with fail
        exact HN2.out z1
end Go.Proofs.YtdkcclngionihaaDoor
/- Alike releases, walked (the program). -/
namespace Go.Proofs.YtdkcclngionihaaDoor
open Go.RowKit

theorem pow_in {n : Int} (h1 : 1 ≤ n) (h2 : n ≤ 1024) : ∀ k : Nat, k ≤ 3 → 1 ≤ n ^ k ∧ n ^ k ≤ 1073741824 ∧ (k = 0 → n ^ k = 1) := fun k hk => by
  have m2 : 1 * 1 ≤ n * n ∧ n * n ≤ 1024 * 1024 := ⟨Int.mul_le_mul h1 h1 (by decide) (by omega), Int.mul_le_mul h2 h2 (by omega) (by decide)⟩
  have m3 : 1 * 1 ≤ n * n * n ∧ n * n * n ≤ 1048576 * 1024 := ⟨Int.mul_le_mul (by omega) h1 (by decide) (by omega), Int.mul_le_mul (by omega) h2 (by omega) (by decide)⟩
  obtain rfl | rfl | rfl | rfl : k = 0 ∨ k = 1 ∨ k = 2 ∨ k = 3 := by omega
  · simp
  · rw [Int.pow_succ, Int.pow_zero]; refine ⟨by omega, by omega, fun h => by cases h⟩
  · rw [Int.pow_succ, Int.pow_succ, Int.pow_zero, Int.one_mul]; refine ⟨by omega, by omega, fun h => by cases h⟩
  · rw [Int.pow_succ, Int.pow_succ, Int.pow_succ, Int.pow_zero, Int.one_mul]; refine ⟨by omega, by omega, fun h => by cases h⟩
set_option maxRecDepth 100000 in
set_option maxHeartbeats 4000000 in
theorem rlpower_calls (w : World) (x : Since w) (n : Int) (k : Nat) (h1 : 1 ≤ n) (h2 : n ≤ 1024) (hk : k ≤ 3) :
    Calls Tryd.prog 42 #[.int .i64 n, .int .i64 (k : Int)] x.w fun o w' => o = .returned (.int .i64 (n ^ k)) ∧ ∃ y : Since w, w' = y.w := by
  have HP := Lib.hid (pow_in h1 h2)
  go_enter Tryd.func42, Tryd.ntmps42
  go_upto_region 3 with fail
  go_loopw [5, 7] (fun p si wr => ∃ j : Nat, j ≤ k ∧ p = .int .i64 (n ^ j) ∧ si = .int .i64 (j : Int) ∧ wr = x.w) (fun _ si _ => k - (intOf si).toNat)
  case atStart => exact ⟨0, by omega, by rw [Int.pow_zero], rfl, rfl⟩
  case round =>
    obtain ⟨j, hj, rfl, rfl, rfl⟩ := hrel
    by_cases hlt : j < k
    · have hj0 : (0 : Int) ≤ (j : Int) := by omega
      have hjk : (j : Int) < (k : Int) := by omega
      have p1 := (HP.out (j + 1) (by omega)).1
      have p2 := (HP.out (j + 1) (by omega)).2.1
      have Hn := Lib.hid (Int.pow_succ n j)
      rw [Hn.out] at p1 p2
      generalize n ^ j = P at *
      have ws : IntKind.i64.wrap (P * n) = P * n := IntWalk.i64_in _ (by omega)
      go_wp2_with fail
      go_roundw
      case rel => exact ⟨j + 1, by omega, by rw [Hn.out], by go_num, by first | trivial | rfl⟩
      case measure => simp [intOf] <;> omega
    · obtain rfl : j = k := by omega
      go_wp2_with fail
      go_ret
      exact ⟨rfl, x, rfl⟩
/-- a cell fits the ratio -/
def okC (num den a b w v : Int) : Bool := decide ((a - b).natAbs ≤ 3) && (decide (den ^ (a - b).natAbs * w ≤ num ^ (a - b).natAbs * v) && decide (den ^ (a - b).natAbs * v ≤ num ^ (a - b).natAbs * w))
def alOk (A T U : Tab) (N : List Int) (num den : Int) : Prop := chE A T N = 0 ∧ chE A U N = 0 ∧ 1 ≤ den ∧ den ≤ num ∧ num ≤ 1024
noncomputable def alC (A T U : Tab) (N : List Int) (num den : Int) (i : Nat) : Bool := okC num den (at0 T.l i) (at0 U.l i) (weight N (at0 A.l i - at0 T.l i)) (weight N (at0 A.l i - at0 U.l i))
noncomputable def alB (A T U : Tab) (N : List Int) (num den : Int) : Bool := open Classical in if alOk A T U N num den ∧ ∀ i, i < T.l.length → alC A T U N num den i = true then true else false
theorem alB_no {A T U : Tab} {N : List Int} {num den : Int} (h : ¬ alOk A T U N num den) : alB A T U N num den = false := by unfold alB; exact if_neg fun h' => h h'.1
theorem alB_cell {A T U : Tab} {N : List Int} {num den : Int} {i : Nat} (hi : i < T.l.length) (h : alC A T U N num den i = false) : alB A T U N num den = false := by
  unfold alB
  exact if_neg fun h' => by
    have := h'.2 i hi
    rw [h] at this; cases this
theorem alB_yes {A T U : Tab} {N : List Int} {num den : Int} (h : alOk A T U N num den) (hc : ∀ i, i < T.l.length → alC A T U N num den i = true) : alB A T U N num den = true := by unfold alB; exact if_pos ⟨h, hc⟩
theorem chE_inv {A T : Tab} {N : List Int} (h : chE A T N = 0) : chkE A = 0 ∧ chkE T = 0 ∧ A.r = T.r ∧ A.c = T.c ∧ check N = 0 := by
  unfold chE at h
  by_cases h1 : chkE A = 0
  · rw [if_neg (by rw [h1]; simp)] at h
    by_cases h2 : chkE T = 0
    · rw [if_neg (by rw [h2]; simp)] at h
      by_cases h3 : A.r ≠ T.r ∨ A.c ≠ T.c
      · rw [if_pos h3] at h; cases h
      · rw [if_neg h3] at h
        exact ⟨h1, h2, by omega, by omega, h⟩
    · rw [if_pos h2] at h; exact absurd h h2
  · rw [if_pos h1] at h; exact absurd h h1
theorem chE_len {A T : Tab} {N : List Int} (h : chE A T N = 0) : A.l.length = T.l.length ∧ T.l.length ≤ 64 := by
  obtain ⟨h1, h2, h3, h4, _⟩ := chE_inv h
  have a := (chk_inv h1).2.2.1
  have b := (chk_inv h2).2.2.1
  rw [h3, h4, ← b] at a
  exact ⟨by omega, chk_len64 h2⟩
theorem chV_at {A T : Tab} {N : List Int} (h : chE A T N = 0) : (chV A T N).length = T.l.length ∧ ∀ i, i < T.l.length → at0 (chV A T N) i = weight N (at0 A.l i - at0 T.l i) := by
  have : chV A T N = chL A T N := by unfold chV; rw [if_pos h]
  rw [this]
  exact ⟨by simp [chL], fun i hi => by unfold chL; rw [at0_map _ _ _ hi]⟩
theorem weight_in (N : List Int) (v : Int) : 0 ≤ weight N v ∧ weight N v ≤ 16777216 := by
  by_cases h : Good N
  · rw [weight_good h]; exact wt_bd h v
  · rw [weight_bad h]; exact ⟨Int.le_refl _, by decide⟩
theorem mul_in {a b : Int} (h1 : 0 ≤ a) (h2 : a ≤ 1073741824) (h3 : 0 ≤ b) (h4 : b ≤ 16777216) : 0 ≤ a * b ∧ a * b ≤ 18014398509481984 := by
  have := mul_bd (a := a) (b := b) (A := 1073741824) (B := 16777216) h1 h2 h3 h4
  omega
theorem abs_max (a b : Int) : max (a - b) (b - a) = ((a - b).natAbs : Int) := by omega
set_option linter.unusedSimpArgs false in
set_option maxRecDepth 100000 in
set_option maxHeartbeats 16000000 in
theorem alike_calls (w : World) (x : Since w) (hs : Signs w) (f t each : Int) (A T U : Tab) (N : List Int) (num den : Int) (a1 a2 a3 a4 a5 a6 a7 : Option Addr) (c1 n2 c2 n3 c3 n4 c4 c5 c6 c7 : Nat) (h1 : IntRow w a1 A.l) (h5 : IntRow w a5 N) (h6 : IntRow w a6 T.l) (h7 : IntRow w a7 U.l) (hl1 : A.l.length ≤ 9223372036854775807) (hl5 : N.length ≤ 9223372036854775807) (hl6 : T.l.length ≤ 9223372036854775807) (hl7 : U.l.length ≤ 9223372036854775807) :
    Calls Tryd.prog 19 #[.agg #[.int .i64 f, .int .i64 t, .int .i64 each, .int .i64 A.r, .int .i64 A.c, .slice a1 A.l.length c1, .slice a2 n2 c2, .slice a3 n3 c3, .slice a4 n4 c4, .slice a5 N.length c5], .agg #[.int .i64 T.r, .int .i64 T.c, .slice a6 T.l.length c6], .agg #[.int .i64 U.r, .int .i64 U.c, .slice a7 U.l.length c7], .agg #[.int .i64 num, .int .i64 den]] x.w fun o w' => o = .returned (.bool (alB A T U N num den)) ∧ ∃ y : Since w, w' = y.w := by
  have HTr := Lib.hid h6; have HUr := Lib.hid h7
  have HC1 := Lib.hid (fun (W : World) (y : Since W) hs h1 h5 h6 => chances_calls W y hs f t each A T N a1 a2 a3 a4 a5 a6 c1 n2 c2 n3 c3 n4 c4 c5 c6 h1 h5 h6 hl1 hl5 hl6)
  have HC2 := Lib.hid (fun (W : World) (y : Since W) hs h1 h5 h6 => chances_calls W y hs f t each A U N a1 a2 a3 a4 a5 a7 c1 n2 c2 n3 c3 n4 c4 c5 c7 h1 h5 h6 hl1 hl5 hl7)
  have HN := Lib.hid (fun h => alB_no (A := A) (T := T) (U := U) (N := N) (num := num) (den := den) h)
  have HCell := Lib.hid (fun i hi h => alB_cell (A := A) (T := T) (U := U) (N := N) (num := num) (den := den) (i := i) hi h)
  have HYes := Lib.hid (fun h hc => alB_yes (A := A) (T := T) (U := U) (N := N) (num := num) (den := den) h hc)
  have HAr := Lib.hid h1; have HNr := Lib.hid h5; have Hsg := Lib.hid hs
  generalize alB A T U N num den = B at *
  clear h1 h5 h6 h7 hs hl1 hl5 hl6 hl7
  go_enter Tryd.func19, Tryd.ntmps19
  go_upto_region 1 with fail
  have hb0_0 : ∀ y : Since ((((x.w.alloc (.cells #[.int .i64 f, .int .i64 t, .int .i64 each, .int .i64 A.r, .int .i64 A.c, .slice a1 A.l.length c1, .slice a2 n2 c2, .slice a3 n3 c3, .slice a4 n4 c4, .slice a5 N.length c5] 36)).alloc (.cells #[.int .i64 T.r, .int .i64 T.c, .slice a6 T.l.length c6] 31)).alloc (.cells #[.int .i64 U.r, .int .i64 U.c, .slice a7 U.l.length c7] 31)).alloc (.cells #[.int .i64 num, .int .i64 den] 50)), y.w.cell? ⟨x.w.heap.size, 0, none⟩ = some (.int .i64 f) := fun y => Since.cell (by simp [go_sem]) (by first | (simp; done) | (simp; omega)) y
  have hb0_1 : ∀ y : Since ((((x.w.alloc (.cells #[.int .i64 f, .int .i64 t, .int .i64 each, .int .i64 A.r, .int .i64 A.c, .slice a1 A.l.length c1, .slice a2 n2 c2, .slice a3 n3 c3, .slice a4 n4 c4, .slice a5 N.length c5] 36)).alloc (.cells #[.int .i64 T.r, .int .i64 T.c, .slice a6 T.l.length c6] 31)).alloc (.cells #[.int .i64 U.r, .int .i64 U.c, .slice a7 U.l.length c7] 31)).alloc (.cells #[.int .i64 num, .int .i64 den] 50)), y.w.cell? ⟨x.w.heap.size, 1, none⟩ = some (.int .i64 t) := fun y => Since.cell (by simp [go_sem]) (by first | (simp; done) | (simp; omega)) y
  have hb0_2 : ∀ y : Since ((((x.w.alloc (.cells #[.int .i64 f, .int .i64 t, .int .i64 each, .int .i64 A.r, .int .i64 A.c, .slice a1 A.l.length c1, .slice a2 n2 c2, .slice a3 n3 c3, .slice a4 n4 c4, .slice a5 N.length c5] 36)).alloc (.cells #[.int .i64 T.r, .int .i64 T.c, .slice a6 T.l.length c6] 31)).alloc (.cells #[.int .i64 U.r, .int .i64 U.c, .slice a7 U.l.length c7] 31)).alloc (.cells #[.int .i64 num, .int .i64 den] 50)), y.w.cell? ⟨x.w.heap.size, 2, none⟩ = some (.int .i64 each) := fun y => Since.cell (by simp [go_sem]) (by first | (simp; done) | (simp; omega)) y
  have hb0_3 : ∀ y : Since ((((x.w.alloc (.cells #[.int .i64 f, .int .i64 t, .int .i64 each, .int .i64 A.r, .int .i64 A.c, .slice a1 A.l.length c1, .slice a2 n2 c2, .slice a3 n3 c3, .slice a4 n4 c4, .slice a5 N.length c5] 36)).alloc (.cells #[.int .i64 T.r, .int .i64 T.c, .slice a6 T.l.length c6] 31)).alloc (.cells #[.int .i64 U.r, .int .i64 U.c, .slice a7 U.l.length c7] 31)).alloc (.cells #[.int .i64 num, .int .i64 den] 50)), y.w.cell? ⟨x.w.heap.size, 3, none⟩ = some (.int .i64 A.r) := fun y => Since.cell (by simp [go_sem]) (by first | (simp; done) | (simp; omega)) y
  have hb0_4 : ∀ y : Since ((((x.w.alloc (.cells #[.int .i64 f, .int .i64 t, .int .i64 each, .int .i64 A.r, .int .i64 A.c, .slice a1 A.l.length c1, .slice a2 n2 c2, .slice a3 n3 c3, .slice a4 n4 c4, .slice a5 N.length c5] 36)).alloc (.cells #[.int .i64 T.r, .int .i64 T.c, .slice a6 T.l.length c6] 31)).alloc (.cells #[.int .i64 U.r, .int .i64 U.c, .slice a7 U.l.length c7] 31)).alloc (.cells #[.int .i64 num, .int .i64 den] 50)), y.w.cell? ⟨x.w.heap.size, 4, none⟩ = some (.int .i64 A.c) := fun y => Since.cell (by simp [go_sem]) (by first | (simp; done) | (simp; omega)) y
  have hb0_5 : ∀ y : Since ((((x.w.alloc (.cells #[.int .i64 f, .int .i64 t, .int .i64 each, .int .i64 A.r, .int .i64 A.c, .slice a1 A.l.length c1, .slice a2 n2 c2, .slice a3 n3 c3, .slice a4 n4 c4, .slice a5 N.length c5] 36)).alloc (.cells #[.int .i64 T.r, .int .i64 T.c, .slice a6 T.l.length c6] 31)).alloc (.cells #[.int .i64 U.r, .int .i64 U.c, .slice a7 U.l.length c7] 31)).alloc (.cells #[.int .i64 num, .int .i64 den] 50)), y.w.cell? ⟨x.w.heap.size, 5, none⟩ = some (.slice a1 A.l.length c1) := fun y => Since.cell (by simp [go_sem]) (by first | (simp; done) | (simp; omega)) y
  have hb0_6 : ∀ y : Since ((((x.w.alloc (.cells #[.int .i64 f, .int .i64 t, .int .i64 each, .int .i64 A.r, .int .i64 A.c, .slice a1 A.l.length c1, .slice a2 n2 c2, .slice a3 n3 c3, .slice a4 n4 c4, .slice a5 N.length c5] 36)).alloc (.cells #[.int .i64 T.r, .int .i64 T.c, .slice a6 T.l.length c6] 31)).alloc (.cells #[.int .i64 U.r, .int .i64 U.c, .slice a7 U.l.length c7] 31)).alloc (.cells #[.int .i64 num, .int .i64 den] 50)), y.w.cell? ⟨x.w.heap.size, 6, none⟩ = some (.slice a2 n2 c2) := fun y => Since.cell (by simp [go_sem]) (by first | (simp; done) | (simp; omega)) y
  have hb0_7 : ∀ y : Since ((((x.w.alloc (.cells #[.int .i64 f, .int .i64 t, .int .i64 each, .int .i64 A.r, .int .i64 A.c, .slice a1 A.l.length c1, .slice a2 n2 c2, .slice a3 n3 c3, .slice a4 n4 c4, .slice a5 N.length c5] 36)).alloc (.cells #[.int .i64 T.r, .int .i64 T.c, .slice a6 T.l.length c6] 31)).alloc (.cells #[.int .i64 U.r, .int .i64 U.c, .slice a7 U.l.length c7] 31)).alloc (.cells #[.int .i64 num, .int .i64 den] 50)), y.w.cell? ⟨x.w.heap.size, 7, none⟩ = some (.slice a3 n3 c3) := fun y => Since.cell (by simp [go_sem]) (by first | (simp; done) | (simp; omega)) y
  have hb0_8 : ∀ y : Since ((((x.w.alloc (.cells #[.int .i64 f, .int .i64 t, .int .i64 each, .int .i64 A.r, .int .i64 A.c, .slice a1 A.l.length c1, .slice a2 n2 c2, .slice a3 n3 c3, .slice a4 n4 c4, .slice a5 N.length c5] 36)).alloc (.cells #[.int .i64 T.r, .int .i64 T.c, .slice a6 T.l.length c6] 31)).alloc (.cells #[.int .i64 U.r, .int .i64 U.c, .slice a7 U.l.length c7] 31)).alloc (.cells #[.int .i64 num, .int .i64 den] 50)), y.w.cell? ⟨x.w.heap.size, 8, none⟩ = some (.slice a4 n4 c4) := fun y => Since.cell (by simp [go_sem]) (by first | (simp; done) | (simp; omega)) y
  have hb0_9 : ∀ y : Since ((((x.w.alloc (.cells #[.int .i64 f, .int .i64 t, .int .i64 each, .int .i64 A.r, .int .i64 A.c, .slice a1 A.l.length c1, .slice a2 n2 c2, .slice a3 n3 c3, .slice a4 n4 c4, .slice a5 N.length c5] 36)).alloc (.cells #[.int .i64 T.r, .int .i64 T.c, .slice a6 T.l.length c6] 31)).alloc (.cells #[.int .i64 U.r, .int .i64 U.c, .slice a7 U.l.length c7] 31)).alloc (.cells #[.int .i64 num, .int .i64 den] 50)), y.w.cell? ⟨x.w.heap.size, 9, none⟩ = some (.slice a5 N.length c5) := fun y => Since.cell (by simp [go_sem]) (by first | (simp; done) | (simp; omega)) y
  have hf0 : ∀ (y : Since ((((x.w.alloc (.cells #[.int .i64 f, .int .i64 t, .int .i64 each, .int .i64 A.r, .int .i64 A.c, .slice a1 A.l.length c1, .slice a2 n2 c2, .slice a3 n3 c3, .slice a4 n4 c4, .slice a5 N.length c5] 36)).alloc (.cells #[.int .i64 T.r, .int .i64 T.c, .slice a6 T.l.length c6] 31)).alloc (.cells #[.int .i64 U.r, .int .i64 U.c, .slice a7 U.l.length c7] 31)).alloc (.cells #[.int .i64 num, .int .i64 den] 50))) (o : Nat), y.w.frozen? ⟨x.w.heap.size, o, none⟩ = false := fun y o => Since.free (by simp [go_sem]) (by first | (simp; done) | (simp; omega)) y
  have hb1_0 : ∀ y : Since ((((x.w.alloc (.cells #[.int .i64 f, .int .i64 t, .int .i64 each, .int .i64 A.r, .int .i64 A.c, .slice a1 A.l.length c1, .slice a2 n2 c2, .slice a3 n3 c3, .slice a4 n4 c4, .slice a5 N.length c5] 36)).alloc (.cells #[.int .i64 T.r, .int .i64 T.c, .slice a6 T.l.length c6] 31)).alloc (.cells #[.int .i64 U.r, .int .i64 U.c, .slice a7 U.l.length c7] 31)).alloc (.cells #[.int .i64 num, .int .i64 den] 50)), y.w.cell? ⟨x.w.heap.size + 1, 0, none⟩ = some (.int .i64 T.r) := fun y => Since.cell (by simp [go_sem]) (by first | (simp; done) | (simp; omega)) y
  have hb1_1 : ∀ y : Since ((((x.w.alloc (.cells #[.int .i64 f, .int .i64 t, .int .i64 each, .int .i64 A.r, .int .i64 A.c, .slice a1 A.l.length c1, .slice a2 n2 c2, .slice a3 n3 c3, .slice a4 n4 c4, .slice a5 N.length c5] 36)).alloc (.cells #[.int .i64 T.r, .int .i64 T.c, .slice a6 T.l.length c6] 31)).alloc (.cells #[.int .i64 U.r, .int .i64 U.c, .slice a7 U.l.length c7] 31)).alloc (.cells #[.int .i64 num, .int .i64 den] 50)), y.w.cell? ⟨x.w.heap.size + 1, 1, none⟩ = some (.int .i64 T.c) := fun y => Since.cell (by simp [go_sem]) (by first | (simp; done) | (simp; omega)) y
  have hb1_2 : ∀ y : Since ((((x.w.alloc (.cells #[.int .i64 f, .int .i64 t, .int .i64 each, .int .i64 A.r, .int .i64 A.c, .slice a1 A.l.length c1, .slice a2 n2 c2, .slice a3 n3 c3, .slice a4 n4 c4, .slice a5 N.length c5] 36)).alloc (.cells #[.int .i64 T.r, .int .i64 T.c, .slice a6 T.l.length c6] 31)).alloc (.cells #[.int .i64 U.r, .int .i64 U.c, .slice a7 U.l.length c7] 31)).alloc (.cells #[.int .i64 num, .int .i64 den] 50)), y.w.cell? ⟨x.w.heap.size + 1, 2, none⟩ = some (.slice a6 T.l.length c6) := fun y => Since.cell (by simp [go_sem]) (by first | (simp; done) | (simp; omega)) y
  have hf1 : ∀ (y : Since ((((x.w.alloc (.cells #[.int .i64 f, .int .i64 t, .int .i64 each, .int .i64 A.r, .int .i64 A.c, .slice a1 A.l.length c1, .slice a2 n2 c2, .slice a3 n3 c3, .slice a4 n4 c4, .slice a5 N.length c5] 36)).alloc (.cells #[.int .i64 T.r, .int .i64 T.c, .slice a6 T.l.length c6] 31)).alloc (.cells #[.int .i64 U.r, .int .i64 U.c, .slice a7 U.l.length c7] 31)).alloc (.cells #[.int .i64 num, .int .i64 den] 50))) (o : Nat), y.w.frozen? ⟨x.w.heap.size + 1, o, none⟩ = false := fun y o => Since.free (by simp [go_sem]) (by first | (simp; done) | (simp; omega)) y
  have hb2_0 : ∀ y : Since ((((x.w.alloc (.cells #[.int .i64 f, .int .i64 t, .int .i64 each, .int .i64 A.r, .int .i64 A.c, .slice a1 A.l.length c1, .slice a2 n2 c2, .slice a3 n3 c3, .slice a4 n4 c4, .slice a5 N.length c5] 36)).alloc (.cells #[.int .i64 T.r, .int .i64 T.c, .slice a6 T.l.length c6] 31)).alloc (.cells #[.int .i64 U.r, .int .i64 U.c, .slice a7 U.l.length c7] 31)).alloc (.cells #[.int .i64 num, .int .i64 den] 50)), y.w.cell? ⟨x.w.heap.size + 2, 0, none⟩ = some (.int .i64 U.r) := fun y => Since.cell (by simp [go_sem]) (by first | (simp; done) | (simp; omega)) y
  have hb2_1 : ∀ y : Since ((((x.w.alloc (.cells #[.int .i64 f, .int .i64 t, .int .i64 each, .int .i64 A.r, .int .i64 A.c, .slice a1 A.l.length c1, .slice a2 n2 c2, .slice a3 n3 c3, .slice a4 n4 c4, .slice a5 N.length c5] 36)).alloc (.cells #[.int .i64 T.r, .int .i64 T.c, .slice a6 T.l.length c6] 31)).alloc (.cells #[.int .i64 U.r, .int .i64 U.c, .slice a7 U.l.length c7] 31)).alloc (.cells #[.int .i64 num, .int .i64 den] 50)), y.w.cell? ⟨x.w.heap.size + 2, 1, none⟩ = some (.int .i64 U.c) := fun y => Since.cell (by simp [go_sem]) (by first | (simp; done) | (simp; omega)) y
  have hb2_2 : ∀ y : Since ((((x.w.alloc (.cells #[.int .i64 f, .int .i64 t, .int .i64 each, .int .i64 A.r, .int .i64 A.c, .slice a1 A.l.length c1, .slice a2 n2 c2, .slice a3 n3 c3, .slice a4 n4 c4, .slice a5 N.length c5] 36)).alloc (.cells #[.int .i64 T.r, .int .i64 T.c, .slice a6 T.l.length c6] 31)).alloc (.cells #[.int .i64 U.r, .int .i64 U.c, .slice a7 U.l.length c7] 31)).alloc (.cells #[.int .i64 num, .int .i64 den] 50)), y.w.cell? ⟨x.w.heap.size + 2, 2, none⟩ = some (.slice a7 U.l.length c7) := fun y => Since.cell (by simp [go_sem]) (by first | (simp; done) | (simp; omega)) y
  have hf2 : ∀ (y : Since ((((x.w.alloc (.cells #[.int .i64 f, .int .i64 t, .int .i64 each, .int .i64 A.r, .int .i64 A.c, .slice a1 A.l.length c1, .slice a2 n2 c2, .slice a3 n3 c3, .slice a4 n4 c4, .slice a5 N.length c5] 36)).alloc (.cells #[.int .i64 T.r, .int .i64 T.c, .slice a6 T.l.length c6] 31)).alloc (.cells #[.int .i64 U.r, .int .i64 U.c, .slice a7 U.l.length c7] 31)).alloc (.cells #[.int .i64 num, .int .i64 den] 50))) (o : Nat), y.w.frozen? ⟨x.w.heap.size + 2, o, none⟩ = false := fun y o => Since.free (by simp [go_sem]) (by first | (simp; done) | (simp; omega)) y
  have hb3_0 : ∀ y : Since ((((x.w.alloc (.cells #[.int .i64 f, .int .i64 t, .int .i64 each, .int .i64 A.r, .int .i64 A.c, .slice a1 A.l.length c1, .slice a2 n2 c2, .slice a3 n3 c3, .slice a4 n4 c4, .slice a5 N.length c5] 36)).alloc (.cells #[.int .i64 T.r, .int .i64 T.c, .slice a6 T.l.length c6] 31)).alloc (.cells #[.int .i64 U.r, .int .i64 U.c, .slice a7 U.l.length c7] 31)).alloc (.cells #[.int .i64 num, .int .i64 den] 50)), y.w.cell? ⟨x.w.heap.size + 3, 0, none⟩ = some (.int .i64 num) := fun y => Since.cell (by simp [go_sem]) (by first | (simp; done) | (simp; omega)) y
  have hb3_1 : ∀ y : Since ((((x.w.alloc (.cells #[.int .i64 f, .int .i64 t, .int .i64 each, .int .i64 A.r, .int .i64 A.c, .slice a1 A.l.length c1, .slice a2 n2 c2, .slice a3 n3 c3, .slice a4 n4 c4, .slice a5 N.length c5] 36)).alloc (.cells #[.int .i64 T.r, .int .i64 T.c, .slice a6 T.l.length c6] 31)).alloc (.cells #[.int .i64 U.r, .int .i64 U.c, .slice a7 U.l.length c7] 31)).alloc (.cells #[.int .i64 num, .int .i64 den] 50)), y.w.cell? ⟨x.w.heap.size + 3, 1, none⟩ = some (.int .i64 den) := fun y => Since.cell (by simp [go_sem]) (by first | (simp; done) | (simp; omega)) y
  have hf3 : ∀ (y : Since ((((x.w.alloc (.cells #[.int .i64 f, .int .i64 t, .int .i64 each, .int .i64 A.r, .int .i64 A.c, .slice a1 A.l.length c1, .slice a2 n2 c2, .slice a3 n3 c3, .slice a4 n4 c4, .slice a5 N.length c5] 36)).alloc (.cells #[.int .i64 T.r, .int .i64 T.c, .slice a6 T.l.length c6] 31)).alloc (.cells #[.int .i64 U.r, .int .i64 U.c, .slice a7 U.l.length c7] 31)).alloc (.cells #[.int .i64 num, .int .i64 den] 50))) (o : Nat), y.w.frozen? ⟨x.w.heap.size + 3, o, none⟩ = false := fun y o => Since.free (by simp [go_sem]) (by first | (simp; done) | (simp; omega)) y
  have hWup : ∃ z : Since w, ((((x.w.alloc (.cells #[.int .i64 f, .int .i64 t, .int .i64 each, .int .i64 A.r, .int .i64 A.c, .slice a1 A.l.length c1, .slice a2 n2 c2, .slice a3 n3 c3, .slice a4 n4 c4, .slice a5 N.length c5] 36)).alloc (.cells #[.int .i64 T.r, .int .i64 T.c, .slice a6 T.l.length c6] 31)).alloc (.cells #[.int .i64 U.r, .int .i64 U.c, .slice a7 U.l.length c7] 31)).alloc (.cells #[.int .i64 num, .int .i64 den] 50)) = z.w := Since.allocs x [.cells #[.int .i64 f, .int .i64 t, .int .i64 each, .int .i64 A.r, .int .i64 A.c, .slice a1 A.l.length c1, .slice a2 n2 c2, .slice a3 n3 c3, .slice a4 n4 c4, .slice a5 N.length c5] 36, .cells #[.int .i64 T.r, .int .i64 T.c, .slice a6 T.l.length c6] 31, .cells #[.int .i64 U.r, .int .i64 U.c, .slice a7 U.l.length c7] 31, .cells #[.int .i64 num, .int .i64 den] 50]
  obtain ⟨y0, hy0⟩ := Since.refl ((((x.w.alloc (.cells #[.int .i64 f, .int .i64 t, .int .i64 each, .int .i64 A.r, .int .i64 A.c, .slice a1 A.l.length c1, .slice a2 n2 c2, .slice a3 n3 c3, .slice a4 n4 c4, .slice a5 N.length c5] 36)).alloc (.cells #[.int .i64 T.r, .int .i64 T.c, .slice a6 T.l.length c6] 31)).alloc (.cells #[.int .i64 U.r, .int .i64 U.c, .slice a7 U.l.length c7] 31)).alloc (.cells #[.int .i64 num, .int .i64 den] 50))
  have Hbx := Lib.hid (And.intro x.b.size (show x.w.heap.size + 4 = ((((x.w.alloc (.cells #[.int .i64 f, .int .i64 t, .int .i64 each, .int .i64 A.r, .int .i64 A.c, .slice a1 A.l.length c1, .slice a2 n2 c2, .slice a3 n3 c3, .slice a4 n4 c4, .slice a5 N.length c5] 36)).alloc (.cells #[.int .i64 T.r, .int .i64 T.c, .slice a6 T.l.length c6] 31)).alloc (.cells #[.int .i64 U.r, .int .i64 U.c, .slice a7 U.l.length c7] 31)).alloc (.cells #[.int .i64 num, .int .i64 den] 50)).heap.size from by simp))
  generalize hW : ((((x.w.alloc (.cells #[.int .i64 f, .int .i64 t, .int .i64 each, .int .i64 A.r, .int .i64 A.c, .slice a1 A.l.length c1, .slice a2 n2 c2, .slice a3 n3 c3, .slice a4 n4 c4, .slice a5 N.length c5] 36)).alloc (.cells #[.int .i64 T.r, .int .i64 T.c, .slice a6 T.l.length c6] 31)).alloc (.cells #[.int .i64 U.r, .int .i64 U.c, .slice a7 U.l.length c7] 31)).alloc (.cells #[.int .i64 num, .int .i64 den] 50)) = W at *
  clear hW
  generalize x.w.heap.size = bx at *
  have Hup := Lib.hid (Since.up hWup)
  rw [hy0]
  clear hy0
  replace HAr := Lib.hid (HAr.out.to hWup)
  replace HNr := Lib.hid (HNr.out.to hWup)
  replace HTr := Lib.hid (HTr.out.to hWup)
  replace HUr := Lib.hid (HUr.out.to hWup)
  replace Hsg := Lib.hid (Hsg.out.to hWup)
  clear hWup hf0 hf1 hf2 hf3
  have H1 := Lib.hid (HC1.out W y0 Hsg.out HAr.out HNr.out HTr.out)
  clear HC1
  go_upto_region 2 with (go_at_call 16; ((with_reducible refine H1.out.mono ?_); rintro _ _ ⟨a8, c8, y1, rfl, rfl, r8⟩))
  have HV := Lib.hid r8
  replace hb0_0 := Since.cellTo ⟨y1, rfl⟩ hb0_0
  replace hb0_1 := Since.cellTo ⟨y1, rfl⟩ hb0_1
  replace hb0_2 := Since.cellTo ⟨y1, rfl⟩ hb0_2
  replace hb0_3 := Since.cellTo ⟨y1, rfl⟩ hb0_3
  replace hb0_4 := Since.cellTo ⟨y1, rfl⟩ hb0_4
  replace hb0_5 := Since.cellTo ⟨y1, rfl⟩ hb0_5
  replace hb0_6 := Since.cellTo ⟨y1, rfl⟩ hb0_6
  replace hb0_7 := Since.cellTo ⟨y1, rfl⟩ hb0_7
  replace hb0_8 := Since.cellTo ⟨y1, rfl⟩ hb0_8
  replace hb0_9 := Since.cellTo ⟨y1, rfl⟩ hb0_9
  replace hb1_0 := Since.cellTo ⟨y1, rfl⟩ hb1_0
  replace hb1_1 := Since.cellTo ⟨y1, rfl⟩ hb1_1
  replace hb1_2 := Since.cellTo ⟨y1, rfl⟩ hb1_2
  replace hb2_0 := Since.cellTo ⟨y1, rfl⟩ hb2_0
  replace hb2_1 := Since.cellTo ⟨y1, rfl⟩ hb2_1
  replace hb2_2 := Since.cellTo ⟨y1, rfl⟩ hb2_2
  replace hb3_0 := Since.cellTo ⟨y1, rfl⟩ hb3_0
  replace hb3_1 := Since.cellTo ⟨y1, rfl⟩ hb3_1
  obtain ⟨q1, hq0⟩ := Since.refl y1.w
  rw [hq0]
  clear hq0
  have H2 := Lib.hid (HC2.out y1.w q1 (Hsg.out.to ⟨y1, rfl⟩) (HAr.out.to ⟨y1, rfl⟩) (HNr.out.to ⟨y1, rfl⟩) (HUr.out.to ⟨y1, rfl⟩))
  clear H1 r8 HC2
  go_upto_region 3 with (go_at_call 16; ((with_reducible refine H2.out.mono ?_); rintro _ _ ⟨a9, c9, y2, rfl, rfl, r9⟩))
  have HX := Lib.hid r9
  clear H2 r9
  have HU2 := Lib.hid (fun q : Since y2.w => show ∃ z : Since w, q.w = z.w from by obtain ⟨z, hz⟩ := y2.trans q; obtain ⟨z3, hz3⟩ := y1.trans z; rw [hz, hz3]; exact Hup.out z3)
  by_cases hok : alOk A T U N num den
  · obtain ⟨e1, e2, d1, d2, d3⟩ := hok
    have HCe := Lib.hid (fun i hi h => HCell.out i hi h)
    have HYe := Lib.hid (HYes.out ⟨e1, e2, d1, d2, d3⟩)
    obtain ⟨l1, l2⟩ := chE_len e1
    obtain ⟨l3, l4⟩ := chE_len e2
    obtain ⟨v1, v2⟩ := chV_at e1
    obtain ⟨v3, v4⟩ := chV_at e2
    have HiT := Lib.hid (chk_inv (chE_inv e1).2.1).2.2.2
    have HiU := Lib.hid (chk_inv (chE_inv e2).2.1).2.2.2
    rw [e1, e2]
    have Hv1 := Lib.hid v1; have Hv2 := Lib.hid v2; have Hv3 := Lib.hid v3; have Hv4 := Lib.hid v4
    have HVr := Lib.hid (show Row y2.w a8 T.l.length (fun i => .int .i64 (at0 (chV A T N) i)) from v1 ▸ Since.row HV.out y2)
    have HXr := Lib.hid (show Row y2.w a9 U.l.length (fun i => .int .i64 (at0 (chV A U N) i)) from v3 ▸ HX.out)
    have HTr2 := Lib.hid ((HTr.out.to ⟨y1, rfl⟩).to ⟨y2, rfl⟩)
    have HUr2 := Lib.hid ((HUr.out.to ⟨y1, rfl⟩).to ⟨y2, rfl⟩)
    rw [v1, v3]
    replace hb0_0 := Since.cellTo ⟨y2, rfl⟩ hb0_0
    replace hb0_1 := Since.cellTo ⟨y2, rfl⟩ hb0_1
    replace hb0_2 := Since.cellTo ⟨y2, rfl⟩ hb0_2
    replace hb0_3 := Since.cellTo ⟨y2, rfl⟩ hb0_3
    replace hb0_4 := Since.cellTo ⟨y2, rfl⟩ hb0_4
    replace hb0_5 := Since.cellTo ⟨y2, rfl⟩ hb0_5
    replace hb0_6 := Since.cellTo ⟨y2, rfl⟩ hb0_6
    replace hb0_7 := Since.cellTo ⟨y2, rfl⟩ hb0_7
    replace hb0_8 := Since.cellTo ⟨y2, rfl⟩ hb0_8
    replace hb0_9 := Since.cellTo ⟨y2, rfl⟩ hb0_9
    replace hb1_0 := Since.cellTo ⟨y2, rfl⟩ hb1_0
    replace hb1_1 := Since.cellTo ⟨y2, rfl⟩ hb1_1
    replace hb1_2 := Since.cellTo ⟨y2, rfl⟩ hb1_2
    replace hb2_0 := Since.cellTo ⟨y2, rfl⟩ hb2_0
    replace hb2_1 := Since.cellTo ⟨y2, rfl⟩ hb2_1
    replace hb2_2 := Since.cellTo ⟨y2, rfl⟩ hb2_2
    replace hb3_0 := Since.cellTo ⟨y2, rfl⟩ hb3_0
    replace hb3_1 := Since.cellTo ⟨y2, rfl⟩ hb3_1
    obtain ⟨q2, hq0⟩ := Since.refl y2.w
    rw [hq0]
    clear hq0
    have hm64 : T.l.length ≤ 64 := l2
    have hmu : U.l.length = T.l.length := by omega
    rw [hmu] at HXr ⊢
    have Hmu := Lib.hid hmu
    clear e1 e2 v1 v2 v3 v4 HN HCell HYes l1 l3 l2 l4 hmu HV HX HTr HUr HAr HNr Hsg
    go_upto_region 6 with fail
    go_loopw [54] (fun si wr => ∃ (k : Nat) (y : Since y2.w), k ≤ T.l.length ∧ si = .int .i64 (k : Int) ∧ wr = y.w ∧ ∀ j, j < k → alC A T U N num den j = true) (fun si _ => T.l.length - (intOf si).toNat)
    case atStart => exact ⟨0, q2, by omega, rfl, rfl, fun j hj => by omega⟩
    case round =>
      obtain ⟨k, y, hk, rfl, rfl, hn⟩ := hrel
      have Hn := Lib.hid hn
      clear hn
      by_cases hlt : k < T.l.length
      · have hk0 : (0 : Int) ≤ (k : Int) := by omega
        have hkl : (k : Int) < (T.l.length : Int) := by omega
        have hku : (k : Int) < (U.l.length : Int) := by have := Hmu.out; omega
        obtain ⟨b1, o1, rfl, hb1, hc1'⟩ := HTr2.out k hlt
        have f0 : ∀ q : Since y2.w, q.w.cell? ⟨b1, o1 + k, none⟩ = some (.int .i64 (at0 T.l k)) := fun q => Since.cell hc1' hb1 q
        obtain ⟨b2, o2, rfl, hb2, hc2'⟩ := HUr2.out k (by have := Hmu.out; omega)
        have f1 : ∀ q : Since y2.w, q.w.cell? ⟨b2, o2 + k, none⟩ = some (.int .i64 (at0 U.l k)) := fun q => Since.cell hc2' hb2 q
        obtain ⟨b3, o3, rfl, hb3, hc3'⟩ := HVr.out k hlt
        have f2 : ∀ q : Since y2.w, q.w.cell? ⟨b3, o3 + k, none⟩ = some (.int .i64 (at0 (chV A T N) k)) := fun q => Since.cell hc3' hb3 q
        obtain ⟨b4, o4, rfl, hb4, hc4'⟩ := HXr.out k hlt
        have f3 : ∀ q : Since y2.w, q.w.cell? ⟨b4, o4 + k, none⟩ = some (.int .i64 (at0 (chV A U N) k)) := fun q => Since.cell hc4' hb4 q
        clear hb1 hc1' hb2 hc2' hb3 hc3' hb4 hc4'
        rw [Hv2.out k hlt] at f2
        rw [Hv4.out k (by have := Hmu.out; omega)] at f3
        obtain ⟨u1, u2⟩ := HiT.out k hlt
        obtain ⟨u3, u4⟩ := HiU.out k (by have := Hmu.out; omega)
        obtain ⟨u5, u6⟩ := weight_in N (at0 A.l k - at0 T.l k)
        obtain ⟨u7, u8⟩ := weight_in N (at0 A.l k - at0 U.l k)
        have HC := Lib.hid (HCe.out k hlt)
        have HD := Lib.hid (show alC A T U N num den k = okC num den (at0 T.l k) (at0 U.l k) (weight N (at0 A.l k - at0 T.l k)) (weight N (at0 A.l k - at0 U.l k)) from rfl)
        have Hst := Lib.hid (fun (hp : alC A T U N num den k = true) q (hq : q < k + 1) => show alC A T U N num den q = true from by
          by_cases e : q = k
          · rw [e]; exact hp
          · exact Hn.out q (by omega))
        generalize alC A T U N num den k = CC at *
        generalize weight N (at0 A.l k - at0 T.l k) = wv at *
        generalize weight N (at0 A.l k - at0 U.l k) = vv at *
        generalize at0 T.l k = ea at *
        generalize at0 U.l k = eb at *
        have ws1 : IntKind.i64.wrap (ea - eb) = ea - eb := IntWalk.i64_in _ (by omega)
        have ws2 : IntKind.i64.wrap (eb - ea) = eb - ea := IntWalk.i64_in _ (by omega)
        replace hb0_0 := Since.cellTo ⟨y, rfl⟩ hb0_0
        replace hb0_1 := Since.cellTo ⟨y, rfl⟩ hb0_1
        replace hb0_2 := Since.cellTo ⟨y, rfl⟩ hb0_2
        replace hb0_3 := Since.cellTo ⟨y, rfl⟩ hb0_3
        replace hb0_4 := Since.cellTo ⟨y, rfl⟩ hb0_4
        replace hb0_5 := Since.cellTo ⟨y, rfl⟩ hb0_5
        replace hb0_6 := Since.cellTo ⟨y, rfl⟩ hb0_6
        replace hb0_7 := Since.cellTo ⟨y, rfl⟩ hb0_7
        replace hb0_8 := Since.cellTo ⟨y, rfl⟩ hb0_8
        replace hb0_9 := Since.cellTo ⟨y, rfl⟩ hb0_9
        replace hb1_0 := Since.cellTo ⟨y, rfl⟩ hb1_0
        replace hb1_1 := Since.cellTo ⟨y, rfl⟩ hb1_1
        replace hb1_2 := Since.cellTo ⟨y, rfl⟩ hb1_2
        replace hb2_0 := Since.cellTo ⟨y, rfl⟩ hb2_0
        replace hb2_1 := Since.cellTo ⟨y, rfl⟩ hb2_1
        replace hb2_2 := Since.cellTo ⟨y, rfl⟩ hb2_2
        replace hb3_0 := Since.cellTo ⟨y, rfl⟩ hb3_0
        replace hb3_1 := Since.cellTo ⟨y, rfl⟩ hb3_1
        replace f0 := Since.cellTo ⟨y, rfl⟩ f0
        replace f1 := Since.cellTo ⟨y, rfl⟩ f1
        replace f2 := Since.cellTo ⟨y, rfl⟩ f2
        replace f3 := Since.cellTo ⟨y, rfl⟩ f3
        change Code.wp _ _ _ _ (Since.self y.w).w
        go_upto_region 8 with fail
        refine wp_region_since (by kernel_rfl) (by kernel_rfl) ?_
        repeat (go_big_quiet_step (fail))
        refine wpQuiet_nil ?_
        rintro _ ⟨z1, rfl⟩
        rw [abs_max]
        have HK := Lib.hid (show okC num den ea eb wv vv = (decide ((ea - eb).natAbs ≤ 3) && (decide (den ^ (ea - eb).natAbs * wv ≤ num ^ (ea - eb).natAbs * vv) && decide (den ^ (ea - eb).natAbs * vv ≤ num ^ (ea - eb).natAbs * wv))) from rfl)
        have HUp := Lib.hid (fun q : Since y.w => show ∃ z : Since y2.w, q.w = z.w from y.trans q)
        clear ws1 ws2
        generalize (ea - eb).natAbs = K at *
        by_cases hK : K ≤ 3
        · have HPn := Lib.hid (pow_in (show 1 ≤ num by omega) (by omega) K hK)
          have HPd := Lib.hid (pow_in (show 1 ≤ den by omega) (by omega) K hK)
          have HP1 := Lib.hid (fun z : Since y.w => rlpower_calls y.w z num K (by omega) (by omega) hK)
          have HP2 := Lib.hid (fun z : Since y.w => rlpower_calls y.w z den K (by omega) (by omega) hK)
          obtain ⟨p1, p2, _⟩ := HPn.out
          obtain ⟨p3, p4, _⟩ := HPd.out
          have HK2 := Lib.hid (show CC = (decide (den ^ K * wv ≤ num ^ K * vv) && decide (den ^ K * vv ≤ num ^ K * wv)) by rw [HD.out, HK.out, decide_eq_true hK, Bool.true_and])
          clear HPn HPd HK HD
          generalize num ^ K = P at *
          generalize den ^ K = D at *
          have hK3 : ¬ (3 : Int) < (K : Int) := by omega
          go_upto_region 11 with fail
          refine wp_region_since (by kernel_rfl) (by kernel_rfl) ?_
          repeat (go_big_quiet_step ((first | (go_at_call 42; (with_reducible exact HP1.out _)) | (go_at_call 42; (with_reducible exact HP2.out _)))))
          refine wpQuiet_nil ?_
          rintro _ ⟨z2, rfl⟩
          obtain ⟨m1, m2⟩ := mul_in (show 0 ≤ D by omega) p4 u5 u6
          obtain ⟨m3, m4⟩ := mul_in (show 0 ≤ P by omega) p2 u7 u8
          obtain ⟨m5, m6⟩ := mul_in (show 0 ≤ D by omega) p4 u7 u8
          obtain ⟨m7, m8⟩ := mul_in (show 0 ≤ P by omega) p2 u5 u6
          have ws1 : IntKind.i64.wrap (D * wv) = D * wv := IntWalk.i64_in _ (by omega)
          have ws2 : IntKind.i64.wrap (P * vv) = P * vv := IntWalk.i64_in _ (by omega)
          have ws3 : IntKind.i64.wrap (D * vv) = D * vv := IntWalk.i64_in _ (by omega)
          have ws4 : IntKind.i64.wrap (P * wv) = P * wv := IntWalk.i64_in _ (by omega)
          clear m1 m2 m3 m4 m5 m6 m7 m8
          by_cases c1 : P * vv < D * wv
          · have hd1 : decide (P * vv < D * wv) = true := decide_eq_true c1
            have HB := Lib.hid (HC.out (by rw [HK2.out, decide_eq_false (by omega)]; rfl))
            clear c1 HK2 HC Hst HCe HYe HP1 HP2
            go_upto_region 12 with fail
            refine wp_region_since (by kernel_rfl) (by kernel_rfl) ?_
            repeat (go_big_quiet_step (fail))
            refine wpQuiet_nil ?_
            rintro _ ⟨z3, rfl⟩
            go_wp2_with fail
            go_ret
            obtain ⟨q, hq⟩ := HUp.out z3
            exact ⟨ret_bool HB.out.symm, hq ▸ HU2.out q⟩
          · have hd1 : decide (P * vv < D * wv) = false := decide_eq_false c1
            by_cases c2 : P * wv < D * vv
            · have hd2 : decide (P * wv < D * vv) = true := decide_eq_true c2
              have HB := Lib.hid (HC.out (by rw [HK2.out, decide_eq_true (show D * wv ≤ P * vv by omega), decide_eq_false (show ¬ D * vv ≤ P * wv by omega)]; rfl))
              clear c1 c2 HK2 HC Hst HCe HYe HP1 HP2
              go_upto_region 12 with fail
              refine wp_region_since (by kernel_rfl) (by kernel_rfl) ?_
              repeat (go_big_quiet_step (fail))
              refine wpQuiet_nil ?_
              rintro _ ⟨z3, rfl⟩
              go_wp2_with fail
              go_ret
              obtain ⟨q, hq⟩ := HUp.out z3
              exact ⟨ret_bool HB.out.symm, hq ▸ HU2.out q⟩
            · have hd2 : decide (P * wv < D * vv) = false := decide_eq_false c2
              have HS2 := Lib.hid (Hst.out (by rw [HK2.out, decide_eq_true (show D * wv ≤ P * vv by omega), decide_eq_true (show D * vv ≤ P * wv by omega)]; rfl))
              clear c1 c2 HK2 HC Hst HCe HYe HP1 HP2
              go_upto_region 12 with fail
              refine wp_region_since (by kernel_rfl) (by kernel_rfl) ?_
              repeat (go_big_quiet_step (fail))
              refine wpQuiet_nil ?_
              rintro _ ⟨z3, rfl⟩
              obtain ⟨q, hq⟩ := HUp.out z3
              rw [hq]
              go_wp2_with fail
              go_roundw
              case rel => exact ⟨k + 1, q, by omega, by go_num, rfl, HS2.out⟩
              case measure => simp [intOf] <;> omega
        · have hK3 : (3 : Int) < (K : Int) := by omega
          have HB := Lib.hid (HC.out (by rw [HD.out, HK.out, decide_eq_false hK]; rfl))
          clear HD HK HC Hst HCe HYe
          go_wp2_with fail
          go_ret
          obtain ⟨q, hq⟩ := HUp.out z1
          exact ⟨ret_bool HB.out.symm, hq ▸ HU2.out q⟩
      · obtain rfl : k = T.l.length := by omega
        have HB := Lib.hid (HYe.out Hn.out)
        clear HCe HYe
        go_wp2_with fail
        go_ret
        exact ⟨ret_bool HB.out.symm, HU2.out y⟩
  · have HB := Lib.hid (HN.out hok)
    have hdec : chE A T N ≠ 0 ∨ (chE A T N = 0 ∧ chE A U N ≠ 0) ∨ (chE A T N = 0 ∧ chE A U N = 0 ∧ den < 1) ∨ (chE A T N = 0 ∧ chE A U N = 0 ∧ 1 ≤ den ∧ num < den) ∨ (chE A T N = 0 ∧ chE A U N = 0 ∧ 1 ≤ den ∧ den ≤ num ∧ 1024 < num) := by unfold alOk at hok; omega
    clear HN HCell HYes hok
    generalize chE A T N = E1 at *
    generalize chE A U N = E2 at *
    rcases hdec with h1 | ⟨h1, h2⟩ | ⟨h1, h2, h3⟩ | ⟨h1, h2, h3, h4⟩ | ⟨h1, h2, h3, h4, h5⟩
    · have h1' := intrel_ne h1
      clear h1
      go_wp2_with fail
      go_ret
      exact ⟨ret_bool HB.out.symm, HU2.out (Since.self _)⟩
    · have h1' := intrel_eq h1
      have h2' := intrel_ne h2
      clear h1 h2
      go_wp2_with fail
      go_ret
      exact ⟨ret_bool HB.out.symm, HU2.out (Since.self _)⟩
    all_goals
      have h1' := intrel_eq h1
      have h2' := intrel_eq h2
      clear h1 h2
      go_wp2_with fail
      go_ret
      exact ⟨ret_bool HB.out.symm, HU2.out (Since.self _)⟩
end Go.Proofs.YtdkcclngionihaaDoor
/- The weights of the noise of a release, walked (the reference). -/
namespace Go.Proofs.YtdkcclngionihaaDoor
open Go.RowKit

end Go.Proofs.YtdkcclngionihaaDoor
