/- Copies of numbers, walked. -/
import Derived.Test.YtdkcclngionihaaDoorRlMn
import Derived.Lib.SliceRun
set_option linter.all false
namespace Go.Proofs.YtdkcclngionihaaDoor
open Go.RowKit

/-- one number as an element -/
def intCs (z : Int) : List Value := [.int .i64 z]
theorem intCs_len (z : Int) : (intCs z).length = 1 := rfl
theorem intCs_one (z : Int) : ∀ u ∈ intCs z, u.oneCell' = true := by
  intro u hu
  simp [intCs] at hu
  subst hu; rfl
theorem flat_ints : ∀ l : List Int, flat intCs l = l.map (.int .i64)
  | [] => rfl
  | z :: l => by
    have := flat_ints l
    simp only [flat, List.flatMap_cons, List.map_cons] at this ⊢
    rw [this]; rfl
theorem els_ints {w : World} {a : Option Addr} {l : List Int} (h : IntRow w a l) : Els intCs 1 w a l := by
  intro i x hx
  have hi := (List.getElem?_eq_some_iff.1 hx).1
  obtain ⟨b, o, h1, h2, h3⟩ := h i hi
  refine ⟨b, o, h1, h2, fun j v hv => ?_⟩
  have hj : j = 0 := by have := (List.getElem?_eq_some_iff.1 hv).1; simpa [intCs] using this
  subst hj
  have hv' : v = .int .i64 x := by simpa [intCs] using hv.symm
  rw [hv', Nat.mul_one, Nat.add_zero, h3]
  simp [at0, List.getD_eq_getElem?_getD, hx]
set_option maxRecDepth 100000 in
set_option maxHeartbeats 4000000 in
theorem cloneI_calls (w : World) (x : Since w) (a : Option Addr) (l : List Int) (c : Nat) (h : IntRow w a l) (hl : l.length ≤ 100000) :
    Calls Tryd.prog 50 #[.slice a l.length c] x.w fun o w' => ∃ (a' : Option Addr) (c' : Nat) (y : Since w), o = .returned (.slice a' l.length c') ∧ w' = y.w ∧ IntRow y.w a' l ∧ ∀ b, a' = some b → w.heap.size ≤ b.block := by
  have H := Lib.hid (els_ints h)
  have Hp := Lib.hid (fun (a' : Option Addr) (c' : Nat) (y : Since w) (h : y.w.ownsRow w.heap.size 3 1 (.slice a' l.length c') l.length (flat intCs l)) => show ∃ (a2 : Option Addr) (c2 : Nat) (y2 : Since w), Ending.returned (.slice a' l.length c') = .returned (.slice a2 l.length c2) ∧ y.w = y2.w ∧ IntRow y2.w a2 l ∧ ∀ b, a2 = some b → w.heap.size ≤ b.block from by
    rw [flat_ints] at h
    obtain ⟨a3, c3, hv, _, hrow, hf⟩ := own_row h
    simp only [Value.slice.injEq] at hv
    obtain ⟨rfl, _, rfl⟩ := hv
    refine ⟨a', c', y, rfl, rfl, fun i hi => ?_, hf⟩
    obtain ⟨b, o, h1, h2, h3⟩ := hrow i hi
    refine ⟨b, o, h1, h2, h3.trans ?_⟩
    simp [at0, List.getD_eq_getElem?_getD, List.getElem?_eq_getElem hi])
  generalize hPO : (fun (o : Ending) (w' : World) => ∃ (a' : Option Addr) (c' : Nat) (y : Since w), o = .returned (.slice a' l.length c') ∧ w' = y.w ∧ IntRow y.w a' l ∧ ∀ b, a' = some b → w.heap.size ≤ b.block) = PO
  replace Hp := Lib.hid (fun (a' : Option Addr) (c' : Nat) (y : Since w) (h : y.w.ownsRow w.heap.size 3 1 (.slice a' l.length c') l.length (flat intCs l)) => show PO (.returned (.slice a' l.length c')) y.w from by rw [← hPO]; exact Hp.out a' c' y h)
  clear h hPO
  have qn := fun (w : World) (a : Option Addr) (n c n' c' : Nat) => Lib.run_eql_slice_nil (P := Tryd.prog) w _ _ a n c n' c' Tryd.underlying22
  cases a with
  | none =>
    have hn : l = [] := by
      cases l with
      | nil => rfl
      | cons e l => obtain ⟨b, off, hb, _⟩ := H.out 0 e rfl; cases hb
    subst hn
    have HB := Lib.hid (Hp.out none 0 x ⟨rfl, .inl ⟨rfl, rfl⟩⟩)
    go_enter Tryd.func50, Tryd.ntmps50
    go_wp2_with fail
    exact HB.out
  | some ad =>
    go_enter Tryd.func50, Tryd.ntmps50
    go_wp2_with (at_builtin; (refine wpList_appendEls (w0 := w) (enc := intCs) (k := 1) intCs_len (by decide) intCs_one ?hw rfl _ _ 22 rfl w.heap.size (Nat.le_refl _) ?hb 3 (.int .i64 0) 8 sIntF (.slice (some ⟨x.w.heap.size, 0, none⟩) 0 0) 0 [] rfl ?hown (some ad) l c rfl ?hels (fun h => by cases h) ?h63 ?hbytes ?_; rotate_right 1; intro v2 q2 hown2 _ hg2; refine Hid.out ?_))
    case hw => exact IsSince.alloc (IsSince.of x) _
    case hb => have := x.b.size; simp; omega
    case hown => exact own_empty (k := 1) (Blk.new x.w _) x.b.size
    case hels => exact (Since.els H.out x).to (IsSince.alloc (IsSince.self _) _)
    case h63 => unfold maxLen; omega
    case hbytes => omega
    rw [List.nil_append, Nat.zero_add] at hown2
    obtain ⟨_, a5, c5, rfl, _⟩ := own_els intCs_len (by decide) hown2
    have HB := Lib.hid (Hp.out a5 c5 q2 hown2)
    clear hown2 hg2
    refine Lib.hid ?_
    go_wp2_with fail
    exact HB.out
end Go.Proofs.YtdkcclngionihaaDoor
/- Releases with noise, the program: Noisy, walked. -/
namespace Go.Proofs.YtdkcclngionihaaDoor
open Go.RowKit

noncomputable def nyE (zs : List Int) (size : Int) (R : List Ride) (f t each : Int) (N ws : List Int) : Int := if rlE zs size R f t each ≠ 0 then rlE zs size R f t each else addE N (rlT zs size R f t each).l ws
noncomputable def nyR (zs : List Int) (size : Int) (R : List Ride) (f t each : Int) (N ws : List Int) : Rel := open Classical in if nyE zs size R f t each N ws = 0 then ⟨f, t, each, size, size, outL N (rlT zs size R f t each).l ws (rlT zs size R f t each).l.length, [], [], [], N⟩ else rel0
theorem cell_ten (w : World) (g : Nat) (v0 v1 v2 v3 v4 v5 v6 v7 v8 v9 : Value) {g' o : Nat} (h : g' ≠ g) : ((((((((((w.setCell ⟨g, 0, none⟩ v0).setCell ⟨g, 1, none⟩ v1).setCell ⟨g, 2, none⟩ v2).setCell ⟨g, 3, none⟩ v3).setCell ⟨g, 4, none⟩ v4).setCell ⟨g, 5, none⟩ v5).setCell ⟨g, 6, none⟩ v6).setCell ⟨g, 7, none⟩ v7).setCell ⟨g, 8, none⟩ v8).setCell ⟨g, 9, none⟩ v9).cell? ⟨g', o, none⟩ = w.cell? ⟨g', o, none⟩ := by
  have k : ∀ (u : World) (j : Nat) (v : Value), (u.setCell ⟨g, j, none⟩ v).cell? ⟨g', o, none⟩ = u.cell? ⟨g', o, none⟩ := fun u j v => World.cell?_of_block (Below.heap_setCell u ⟨g, j, none⟩ v g' h)
  rw [k, k, k, k, k, k, k, k, k, k]
theorem row_setMany {w : World} {a : Option Addr} {l : List Int} {g : Nat} (h : IntRow w a l) (hb : ∀ b, a = some b → b.block ≠ g) (vs : List Value) : ∀ o, IntRow (w.setCells g o vs) a l := by
  induction vs generalizing w with
  | nil => exact fun _ => h
  | cons v r ih => exact fun o => ih (Row.set h ⟨g, o, none⟩ v hb) (o + 1)
theorem row_setMany0 {w : World} {a : Option Addr} {l : List Int} {g : Nat} (h : IntRow w a l) (hb : ∀ b, a = some b → b.block ≠ g) (vs : List Value) : IntRow (w.setCells g 0 vs) a l := row_setMany h hb vs 0
set_option linter.unusedSimpArgs false in
set_option maxRecDepth 100000 in
set_option maxHeartbeats 16000000 in
theorem noisy_calls (w : World) (x : Since w) (hs : Signs w) (az : Option Addr) (zs : List Int) (cz : Nat) (size : Int) (a : Option Addr) (R : List Ride) (c : Nat) (f t each : Int) (an aw : Option Addr) (N ws : List Int) (cn cw : Nat) (hz : IntRow w az zs) (hzl : zs.length ≤ 9223372036854775807) (h : RideRow w a R) (hl : R.length ≤ 1024) (hI : ∀ r ∈ R, r.fp ≤ 9223372036854775807 ∧ r.pl ≤ 9223372036854775807)
    (hn : IntRow w an N) (hnc : N.length ≤ cn) (hnl : N.length ≤ 100000) (hw : Row w aw ws.length fun i => .int .u64 (at0 ws i)) (hwc : ws.length ≤ cw) (hwl : ws.length ≤ 9223372036854775807) (hwr : ∀ i, 0 ≤ at0 ws i ∧ at0 ws i < 18446744073709551616) :
    Calls Tryd.prog 26 #[.slice az zs.length cz, .int .i64 size, .slice a R.length c, .agg #[.int .i64 f, .int .i64 t], .int .i64 each, .agg #[.slice an N.length cn], .slice aw ws.length cw] x.w (RelRes w (nyR zs size R f t each N ws) (nyE zs size R f t each N ws)) := by
  have HZ := Lib.hid hz
  have HR := Lib.hid h
  have HN := Lib.hid hn; have HW := Lib.hid hw; have HSg := Lib.hid hs
  have HC := Lib.hid (fun (W : World) (y : Since W) hz h => rltable_calls W y az zs cz size a R c f t each hz hzl h (by omega) hI)
  have HG := Lib.hid (fun h => rl_good (zs := zs) (size := size) (R := R) (f := f) (t := t) (each := each) h hl)
  have HA := Lib.hid (fun (W : World) (y : Since W) (b : Option Addr) (l : List Int) (cb : Nat) hs hn hl hb hw => addF_calls W y hs an b aw N l ws cn cb cw hnc hwc (by omega) hl hwl hn hb hw hwr)
  have HE := Lib.hid (show nyE zs size R f t each N ws = if rlE zs size R f t each ≠ 0 then rlE zs size R f t each else addE N (rlT zs size R f t each).l ws from rfl)
  have HT := Lib.hid (show nyE zs size R f t each N ws ≠ 0 → nyR zs size R f t each N ws = rel0 from fun h => by unfold nyR; rw [if_neg h])
  have HT2 := Lib.hid (show nyE zs size R f t each N ws = 0 → nyR zs size R f t each N ws = ⟨f, t, each, size, size, outL N (rlT zs size R f t each).l ws (rlT zs size R f t each).l.length, [], [], [], N⟩ from fun h => by unfold nyR; rw [if_pos h])
  generalize nyE zs size R f t each N ws = E at *
  generalize nyR zs size R f t each N ws = X at *
  generalize rlE zs size R f t each = E2 at *
  generalize rlT zs size R f t each = T2 at *
  generalize zs.length = nz at *
  generalize R.length = nr at *
  clear hz h hl hzl hI hn hw hs hwr hnc hwc
  go_enter Tryd.func26, Tryd.ntmps26
  go_upto_region 1 with fail
  have hb0_0 : ∀ y : Since (((x.w.alloc (.cells #[.int .i64 f, .int .i64 t] 25)).alloc (.cells #[.slice an N.length cn] 34)).alloc (.cells #[.int .i64 0, .int .i64 0, .int .i64 0, .int .i64 0, .int .i64 0, .slice none 0 0, .slice none 0 0, .slice none 0 0, .slice none 0 0, .slice none 0 0] 36)), y.w.cell? ⟨x.w.heap.size, 0, none⟩ = some (.int .i64 f) := fun y => Since.cell (by simp [go_sem]) (by first | (simp; done) | (simp; omega)) y
  have hb0_1 : ∀ y : Since (((x.w.alloc (.cells #[.int .i64 f, .int .i64 t] 25)).alloc (.cells #[.slice an N.length cn] 34)).alloc (.cells #[.int .i64 0, .int .i64 0, .int .i64 0, .int .i64 0, .int .i64 0, .slice none 0 0, .slice none 0 0, .slice none 0 0, .slice none 0 0, .slice none 0 0] 36)), y.w.cell? ⟨x.w.heap.size, 1, none⟩ = some (.int .i64 t) := fun y => Since.cell (by simp [go_sem]) (by first | (simp; done) | (simp; omega)) y
  have hf0 : ∀ (y : Since (((x.w.alloc (.cells #[.int .i64 f, .int .i64 t] 25)).alloc (.cells #[.slice an N.length cn] 34)).alloc (.cells #[.int .i64 0, .int .i64 0, .int .i64 0, .int .i64 0, .int .i64 0, .slice none 0 0, .slice none 0 0, .slice none 0 0, .slice none 0 0, .slice none 0 0] 36))) (o : Nat), y.w.frozen? ⟨x.w.heap.size, o, none⟩ = false := fun y o => Since.free (by simp [go_sem]) (by first | (simp; done) | (simp; omega)) y
  have hb1_0 : ∀ y : Since (((x.w.alloc (.cells #[.int .i64 f, .int .i64 t] 25)).alloc (.cells #[.slice an N.length cn] 34)).alloc (.cells #[.int .i64 0, .int .i64 0, .int .i64 0, .int .i64 0, .int .i64 0, .slice none 0 0, .slice none 0 0, .slice none 0 0, .slice none 0 0, .slice none 0 0] 36)), y.w.cell? ⟨x.w.heap.size + 1, 0, none⟩ = some (.slice an N.length cn) := fun y => Since.cell (by simp [go_sem]) (by first | (simp; done) | (simp; omega)) y
  have hf1 : ∀ (y : Since (((x.w.alloc (.cells #[.int .i64 f, .int .i64 t] 25)).alloc (.cells #[.slice an N.length cn] 34)).alloc (.cells #[.int .i64 0, .int .i64 0, .int .i64 0, .int .i64 0, .int .i64 0, .slice none 0 0, .slice none 0 0, .slice none 0 0, .slice none 0 0, .slice none 0 0] 36))) (o : Nat), y.w.frozen? ⟨x.w.heap.size + 1, o, none⟩ = false := fun y o => Since.free (by simp [go_sem]) (by first | (simp; done) | (simp; omega)) y
  have hb2_0 : ∀ y : Since (((x.w.alloc (.cells #[.int .i64 f, .int .i64 t] 25)).alloc (.cells #[.slice an N.length cn] 34)).alloc (.cells #[.int .i64 0, .int .i64 0, .int .i64 0, .int .i64 0, .int .i64 0, .slice none 0 0, .slice none 0 0, .slice none 0 0, .slice none 0 0, .slice none 0 0] 36)), y.w.cell? ⟨x.w.heap.size + 2, 0, none⟩ = some (.int .i64 0) := fun y => Since.cell (by simp [go_sem]) (by first | (simp; done) | (simp; omega)) y
  have hb2_1 : ∀ y : Since (((x.w.alloc (.cells #[.int .i64 f, .int .i64 t] 25)).alloc (.cells #[.slice an N.length cn] 34)).alloc (.cells #[.int .i64 0, .int .i64 0, .int .i64 0, .int .i64 0, .int .i64 0, .slice none 0 0, .slice none 0 0, .slice none 0 0, .slice none 0 0, .slice none 0 0] 36)), y.w.cell? ⟨x.w.heap.size + 2, 1, none⟩ = some (.int .i64 0) := fun y => Since.cell (by simp [go_sem]) (by first | (simp; done) | (simp; omega)) y
  have hb2_2 : ∀ y : Since (((x.w.alloc (.cells #[.int .i64 f, .int .i64 t] 25)).alloc (.cells #[.slice an N.length cn] 34)).alloc (.cells #[.int .i64 0, .int .i64 0, .int .i64 0, .int .i64 0, .int .i64 0, .slice none 0 0, .slice none 0 0, .slice none 0 0, .slice none 0 0, .slice none 0 0] 36)), y.w.cell? ⟨x.w.heap.size + 2, 2, none⟩ = some (.int .i64 0) := fun y => Since.cell (by simp [go_sem]) (by first | (simp; done) | (simp; omega)) y
  have hb2_3 : ∀ y : Since (((x.w.alloc (.cells #[.int .i64 f, .int .i64 t] 25)).alloc (.cells #[.slice an N.length cn] 34)).alloc (.cells #[.int .i64 0, .int .i64 0, .int .i64 0, .int .i64 0, .int .i64 0, .slice none 0 0, .slice none 0 0, .slice none 0 0, .slice none 0 0, .slice none 0 0] 36)), y.w.cell? ⟨x.w.heap.size + 2, 3, none⟩ = some (.int .i64 0) := fun y => Since.cell (by simp [go_sem]) (by first | (simp; done) | (simp; omega)) y
  have hb2_4 : ∀ y : Since (((x.w.alloc (.cells #[.int .i64 f, .int .i64 t] 25)).alloc (.cells #[.slice an N.length cn] 34)).alloc (.cells #[.int .i64 0, .int .i64 0, .int .i64 0, .int .i64 0, .int .i64 0, .slice none 0 0, .slice none 0 0, .slice none 0 0, .slice none 0 0, .slice none 0 0] 36)), y.w.cell? ⟨x.w.heap.size + 2, 4, none⟩ = some (.int .i64 0) := fun y => Since.cell (by simp [go_sem]) (by first | (simp; done) | (simp; omega)) y
  have hb2_5 : ∀ y : Since (((x.w.alloc (.cells #[.int .i64 f, .int .i64 t] 25)).alloc (.cells #[.slice an N.length cn] 34)).alloc (.cells #[.int .i64 0, .int .i64 0, .int .i64 0, .int .i64 0, .int .i64 0, .slice none 0 0, .slice none 0 0, .slice none 0 0, .slice none 0 0, .slice none 0 0] 36)), y.w.cell? ⟨x.w.heap.size + 2, 5, none⟩ = some (.slice none 0 0) := fun y => Since.cell (by simp [go_sem]) (by first | (simp; done) | (simp; omega)) y
  have hb2_6 : ∀ y : Since (((x.w.alloc (.cells #[.int .i64 f, .int .i64 t] 25)).alloc (.cells #[.slice an N.length cn] 34)).alloc (.cells #[.int .i64 0, .int .i64 0, .int .i64 0, .int .i64 0, .int .i64 0, .slice none 0 0, .slice none 0 0, .slice none 0 0, .slice none 0 0, .slice none 0 0] 36)), y.w.cell? ⟨x.w.heap.size + 2, 6, none⟩ = some (.slice none 0 0) := fun y => Since.cell (by simp [go_sem]) (by first | (simp; done) | (simp; omega)) y
  have hb2_7 : ∀ y : Since (((x.w.alloc (.cells #[.int .i64 f, .int .i64 t] 25)).alloc (.cells #[.slice an N.length cn] 34)).alloc (.cells #[.int .i64 0, .int .i64 0, .int .i64 0, .int .i64 0, .int .i64 0, .slice none 0 0, .slice none 0 0, .slice none 0 0, .slice none 0 0, .slice none 0 0] 36)), y.w.cell? ⟨x.w.heap.size + 2, 7, none⟩ = some (.slice none 0 0) := fun y => Since.cell (by simp [go_sem]) (by first | (simp; done) | (simp; omega)) y
  have hb2_8 : ∀ y : Since (((x.w.alloc (.cells #[.int .i64 f, .int .i64 t] 25)).alloc (.cells #[.slice an N.length cn] 34)).alloc (.cells #[.int .i64 0, .int .i64 0, .int .i64 0, .int .i64 0, .int .i64 0, .slice none 0 0, .slice none 0 0, .slice none 0 0, .slice none 0 0, .slice none 0 0] 36)), y.w.cell? ⟨x.w.heap.size + 2, 8, none⟩ = some (.slice none 0 0) := fun y => Since.cell (by simp [go_sem]) (by first | (simp; done) | (simp; omega)) y
  have hb2_9 : ∀ y : Since (((x.w.alloc (.cells #[.int .i64 f, .int .i64 t] 25)).alloc (.cells #[.slice an N.length cn] 34)).alloc (.cells #[.int .i64 0, .int .i64 0, .int .i64 0, .int .i64 0, .int .i64 0, .slice none 0 0, .slice none 0 0, .slice none 0 0, .slice none 0 0, .slice none 0 0] 36)), y.w.cell? ⟨x.w.heap.size + 2, 9, none⟩ = some (.slice none 0 0) := fun y => Since.cell (by simp [go_sem]) (by first | (simp; done) | (simp; omega)) y
  have hf2 : ∀ (y : Since (((x.w.alloc (.cells #[.int .i64 f, .int .i64 t] 25)).alloc (.cells #[.slice an N.length cn] 34)).alloc (.cells #[.int .i64 0, .int .i64 0, .int .i64 0, .int .i64 0, .int .i64 0, .slice none 0 0, .slice none 0 0, .slice none 0 0, .slice none 0 0, .slice none 0 0] 36))) (o : Nat), y.w.frozen? ⟨x.w.heap.size + 2, o, none⟩ = false := fun y o => Since.free (by simp [go_sem]) (by first | (simp; done) | (simp; omega)) y
  have hWup : ∃ z : Since w, (((x.w.alloc (.cells #[.int .i64 f, .int .i64 t] 25)).alloc (.cells #[.slice an N.length cn] 34)).alloc (.cells #[.int .i64 0, .int .i64 0, .int .i64 0, .int .i64 0, .int .i64 0, .slice none 0 0, .slice none 0 0, .slice none 0 0, .slice none 0 0, .slice none 0 0] 36)) = z.w := Since.allocs x [.cells #[.int .i64 f, .int .i64 t] 25, .cells #[.slice an N.length cn] 34, .cells #[.int .i64 0, .int .i64 0, .int .i64 0, .int .i64 0, .int .i64 0, .slice none 0 0, .slice none 0 0, .slice none 0 0, .slice none 0 0, .slice none 0 0] 36]
  obtain ⟨y0, hy0⟩ := Since.refl (((x.w.alloc (.cells #[.int .i64 f, .int .i64 t] 25)).alloc (.cells #[.slice an N.length cn] 34)).alloc (.cells #[.int .i64 0, .int .i64 0, .int .i64 0, .int .i64 0, .int .i64 0, .slice none 0 0, .slice none 0 0, .slice none 0 0, .slice none 0 0, .slice none 0 0] 36))
  have Hbx := Lib.hid (And.intro x.b.size (show x.w.heap.size + 3 = (((x.w.alloc (.cells #[.int .i64 f, .int .i64 t] 25)).alloc (.cells #[.slice an N.length cn] 34)).alloc (.cells #[.int .i64 0, .int .i64 0, .int .i64 0, .int .i64 0, .int .i64 0, .slice none 0 0, .slice none 0 0, .slice none 0 0, .slice none 0 0, .slice none 0 0] 36)).heap.size from by simp))
  generalize hW : (((x.w.alloc (.cells #[.int .i64 f, .int .i64 t] 25)).alloc (.cells #[.slice an N.length cn] 34)).alloc (.cells #[.int .i64 0, .int .i64 0, .int .i64 0, .int .i64 0, .int .i64 0, .slice none 0 0, .slice none 0 0, .slice none 0 0, .slice none 0 0, .slice none 0 0] 36)) = W at *
  clear hW
  generalize x.w.heap.size = bx at *
  have Hup := Lib.hid (Since.up hWup)
  rw [hy0]
  clear hy0
  replace HZ := Lib.hid (HZ.out.to hWup)
  replace HR := Lib.hid (HR.out.to hWup)
  replace HN := Lib.hid (HN.out.to hWup)
  replace HW := Lib.hid (HW.out.to hWup)
  replace HSg := Lib.hid (HSg.out.to hWup)
  clear hWup hf0 hf1
  have H1 := Lib.hid (HC.out W y0 HZ.out HR.out)
  clear HC HZ HR
  go_upto_region 2 with (go_at_call 30; ((with_reducible refine H1.out.mono ?_); rintro _ _ ⟨a1, c1, y1, rfl, rfl, r1, r2, r3, r4⟩))
  have HR1 := Lib.hid r1
  clear r1 r2 r3 r4 H1
  have hx0 : (y1.w.alloc (.cells #[.int .i64 T2.r, .int .i64 T2.c, .slice a1 T2.l.length c1] 31)).cell? ⟨y1.w.heap.size, 0, none⟩ = some (.int .i64 T2.r) := by simp [go_sem]
  have hx1 : (y1.w.alloc (.cells #[.int .i64 T2.r, .int .i64 T2.c, .slice a1 T2.l.length c1] 31)).cell? ⟨y1.w.heap.size, 1, none⟩ = some (.int .i64 T2.c) := by simp [go_sem]
  have hx2 : (y1.w.alloc (.cells #[.int .i64 T2.r, .int .i64 T2.c, .slice a1 T2.l.length c1] 31)).cell? ⟨y1.w.heap.size, 2, none⟩ = some (.slice a1 T2.l.length c1) := by simp [go_sem]
  have hxf : ∀ o, (y1.w.alloc (.cells #[.int .i64 T2.r, .int .i64 T2.c, .slice a1 T2.l.length c1] 31)).frozen? ⟨y1.w.heap.size, o, none⟩ = false := fun o => by simp [go_sem]
  have hlt0 : y1.w.heap.size < (y1.w.alloc (.cells #[.int .i64 T2.r, .int .i64 T2.c, .slice a1 T2.l.length c1] 31)).heap.size := by simp
  have hst0 : ∃ zz : Since y1.w, (y1.w.alloc (.cells #[.int .i64 T2.r, .int .i64 T2.c, .slice a1 T2.l.length c1] 31)) = zz.w := IsSince.alloc (IsSince.self _) _
  have hsz0 := y1.b.size
  obtain ⟨y2, e2⟩ := IsSince.alloc (IsSince.of y1) (.cells #[.int .i64 T2.r, .int .i64 T2.c, .slice a1 T2.l.length c1] 31)
  rw [e2] at hx0 hx1 hx2 hxf hlt0 hst0 ⊢
  (replace HR1 := Lib.hid (HR1.out.to hst0); have hBT := BoxIs.new y1.w [.int .i64 T2.r, .int .i64 T2.c, .slice a1 T2.l.length c1] 31; rw [e2] at hBT)
  clear e2 hst0
  generalize y1.w.heap.size = gt at *
  have Hhx0 : ∀ q : Since y2.w, q.w.cell? ⟨gt, 0, none⟩ = some (.int .i64 T2.r) := fun q => Since.cell hx0 (by omega) q
  have Hhx1 : ∀ q : Since y2.w, q.w.cell? ⟨gt, 1, none⟩ = some (.int .i64 T2.c) := fun q => Since.cell hx1 (by omega) q
  have Hhx2 : ∀ q : Since y2.w, q.w.cell? ⟨gt, 2, none⟩ = some (.slice a1 T2.l.length c1) := fun q => Since.cell hx2 (by omega) q
  have Hhxf : ∀ (q : Since y2.w) (o : Nat), q.w.frozen? ⟨gt, o, none⟩ = false := fun q o => Since.free (hxf o) (by omega) q
  have Hhxg := Lib.hid (And.intro hsz0 hlt0)
  clear hlt0 hsz0
  have HBT := Lib.hid hBT
  have hgtW : W.heap.size ≤ gt := Hhxg.out.1
  clear hBT hx0 hx1 hx2 hxf Hhxf Hhxg
  by_cases h1 : E2 = 0
  · obtain ⟨n, l, rfl, rfl, hG⟩ := HG.out h1
    have hm1 := hG.len
    have hEE : E = addE N l ws := by rw [HE.out, if_neg (by simpa using h1)]
    clear HE HG hG
    dsimp only at HR1 HBT Hhx0 Hhx1 Hhx2 HT2 ⊢
    have HA2 := Lib.hid (HA.out y2.w · a1 l c1 (HSg.out.to ⟨y2, rfl⟩) (HN.out.to ⟨y2, rfl⟩) (by omega) HR1.out (HW.out.to ⟨y2, rfl⟩))
    have h1' := intrel_eq h1
    clear HA HSg HW HR1 h1
    have k1 := Since.cellTo ⟨y2, rfl⟩ hb1_0
    obtain ⟨q2, hq0⟩ := Since.refl y2.w
    rw [hq0]
    clear hq0
    by_cases hA : addE N l ws = 0
    · rw [hA] at hEE
      have HM2 := Lib.hid (fun z : Since y2.w => show Calls Tryd.prog 49 #[.agg #[.slice an N.length cn], .slice a1 l.length c1, .slice aw ws.length cw] z.w (fun o w' => ∃ (ac : Option Addr) (cc : Nat) (u : Int) (y : Since y2.w), o = .returned (.tuple #[.slice ac l.length cc, .int .i64 u, .int .i64 0]) ∧ w' = y.w ∧ IntRow y.w ac (outL N l ws l.length) ∧ ∀ b, ac = some b → y2.w.heap.size ≤ b.block) from by
        refine (HA2.out z).mono ?_
        intro o w' hm
        unfold AddedF at hm
        rw [if_pos hA] at hm
        obtain ⟨ac, cc, rfl, y, rfl, hr, hf⟩ := hm
        exact ⟨ac, cc, _, y, rfl, rfl, hr, hf⟩)
      clear HA2 hA
      go_upto_region 7 with (go_at_call 49; ((with_reducible refine (HM2.out _).mono ?_); rintro _ _ ⟨ac, cc, u, y3, rfl, rfl, hrc, hfc⟩))
      have HRc := Lib.hid hrc; have HFc := Lib.hid hfc
      clear hrc hfc HM2
      have HBT3 := Lib.hid (HBT.out.since y3)
      have t2 := HBT3.out.c 2 _ rfl
      have tf := HBT3.out.f
      have hgt2 := HBT.out.lt
      obtain ⟨z3, h3⟩ := y2.trans y3
      have H3 := Lib.hid h3
      obtain ⟨z4, h4⟩ := z3.set ⟨gt, 2, none⟩ hgtW (.slice ac l.length cc)
      rw [← h3] at h4
      have HB4 := Lib.hid (show BoxIs z4.w gt [.int .i64 (n : Int), .int .i64 (n : Int), .slice ac l.length cc] from by
        have := HBT3.out.setj (j := 2) (by simp) (.slice ac l.length cc)
        rw [h4] at this
        exact this)
      have HR4 := Lib.hid (show IntRow z4.w ac (outL N l ws l.length) from by
        have := HRc.out.set ⟨gt, 2, none⟩ (.slice ac l.length cc) (fun b hb => by have := HFc.out b hb; show b.block ≠ gt; omega)
        rw [h4] at this
        exact this)
      have H4 := Lib.hid h4
      clear h3 h4 HBT HBT3 HRc
      go_upto_region 8 with fail
      rw [H4.out]
      clear H4 H3 t2 tf k1 hgt2 Hhx0 Hhx1 Hhx2 z3
      have k0 := Since.cellTo ⟨z4, rfl⟩ hb0_0
      have k1 := Since.cellTo ⟨z4, rfl⟩ hb0_1
      have k2 := Since.cellTo ⟨z4, rfl⟩ hb1_0
      have k3 := fun q : Since z4.w => (HB4.out.since q).c 0 _ rfl
      have k4 := fun q : Since z4.w => (HB4.out.since q).c 1 _ rfl
      have k5 := fun q : Since z4.w => (HB4.out.since q).c 2 _ rfl
      have m0 : ∀ j, j < 10 → ∃ v, ∀ q : Since z4.w, q.w.cell? ⟨bx + 2, j, none⟩ = some v := fun j hj => by
        match j, hj with
        | 0, _ => exact ⟨_, Since.cellTo ⟨z4, rfl⟩ hb2_0⟩
        | 1, _ => exact ⟨_, Since.cellTo ⟨z4, rfl⟩ hb2_1⟩
        | 2, _ => exact ⟨_, Since.cellTo ⟨z4, rfl⟩ hb2_2⟩
        | 3, _ => exact ⟨_, Since.cellTo ⟨z4, rfl⟩ hb2_3⟩
        | 4, _ => exact ⟨_, Since.cellTo ⟨z4, rfl⟩ hb2_4⟩
        | 5, _ => exact ⟨_, Since.cellTo ⟨z4, rfl⟩ hb2_5⟩
        | 6, _ => exact ⟨_, Since.cellTo ⟨z4, rfl⟩ hb2_6⟩
        | 7, _ => exact ⟨_, Since.cellTo ⟨z4, rfl⟩ hb2_7⟩
        | 8, _ => exact ⟨_, Since.cellTo ⟨z4, rfl⟩ hb2_8⟩
        | 9, _ => exact ⟨_, Since.cellTo ⟨z4, rfl⟩ hb2_9⟩
      have e0 := Since.cellTo ⟨z4, rfl⟩ hb2_0
      have e1 := Since.cellTo ⟨z4, rfl⟩ hb2_1
      have e2 := Since.cellTo ⟨z4, rfl⟩ hb2_2
      have e3 := Since.cellTo ⟨z4, rfl⟩ hb2_3
      have e4 := Since.cellTo ⟨z4, rfl⟩ hb2_4
      have e5 := Since.cellTo ⟨z4, rfl⟩ hb2_5
      have e6 := Since.cellTo ⟨z4, rfl⟩ hb2_6
      have e7 := Since.cellTo ⟨z4, rfl⟩ hb2_7
      have e8 := Since.cellTo ⟨z4, rfl⟩ hb2_8
      have e9 := Since.cellTo ⟨z4, rfl⟩ hb2_9
      have ef : ∀ (q : Since z4.w) (o : Nat), q.w.frozen? ⟨bx + 2, o, none⟩ = false := fun q o => by obtain ⟨z, hz⟩ := z4.trans q; rw [hz]; exact hf2 z o
      have hUp4 : ∀ q : Since z4.w, IsSince w q.w := fun q => by obtain ⟨z, hz⟩ := z4.trans q; rw [hz]; exact Hup.out z
      have hg2 : w.heap.size ≤ bx + 2 := by have := Hbx.out; omega
      have n0 : bx ≠ bx + 2 := by omega
      have n1 : bx + 1 ≠ bx + 2 := by omega
      have n2 : gt ≠ bx + 2 := by have := Hbx.out; omega
      have HCl := Lib.hid (fun (u : World) (hu : IsSince z4.w u) => show Calls Tryd.prog 50 #[.slice an N.length cn] u (fun o w' => ∃ (ad : Option Addr) (cd : Nat) (y : Since z4.w), o = .returned (.slice ad N.length cd) ∧ w' = y.w ∧ IntRow y.w ad N ∧ ∀ b, ad = some b → z4.w.heap.size ≤ b.block) from by
        obtain ⟨y, rfl⟩ := hu
        refine (cloneI_calls y.w (Since.self _) an N cn ((HN.out.to ⟨z4, rfl⟩).to ⟨y, rfl⟩) hnl).mono ?_
        rintro _ w' ⟨ad, cd, z, rfl, rfl, hr, hf⟩
        obtain ⟨y', e'⟩ := y.trans z
        exact ⟨ad, cd, y', rfl, e', e' ▸ hr, fun b hb => Nat.le_trans y.b.size (hf b hb)⟩)
      obtain ⟨z4', hz4'⟩ : ∃ q : Since z4.w, q.w = z4.w.drew := IsSince.drew' (IsSince.self z4.w) |>.elim fun q h => ⟨q, h.symm⟩
      refine wp_region_M (fun w' => w'.cell? ⟨bx, 0, none⟩ = some (.int .i64 f) ∧ w'.cell? ⟨bx, 1, none⟩ = some (.int .i64 t) ∧ w'.cell? ⟨bx + 1, 0, none⟩ = some (.slice an N.length cn) ∧ w'.cell? ⟨gt, 0, none⟩ = some (.int .i64 (n : Int)) ∧ w'.cell? ⟨gt, 1, none⟩ = some (.int .i64 (n : Int)) ∧ w'.cell? ⟨gt, 2, none⟩ = some (.slice ac l.length cc)) 8 (by kernel_rfl) (hz4' ▸ ⟨k0 z4', k1 z4', k2 z4', k3 z4', k4 z4', k5 z4'⟩) (fun hS => ?_)
      refine wpAnyM_take (i := 0) (v := ?_) rfl (by kernel_rfl) (by kernel_rfl) (by kernel_rfl) (by kernel_rfl) (fun _ _ _ h => h) hS (Or.inl ⟨by rfl, ?_⟩) ?_
      rotate_left
      · (intro w hSw; (try dsimp only at hSw); go_split_ands; go_simp; try (with_reducible rfl))
      (try simp only [Act.put, List.setIfInBounds_toArray, List.set_cons_zero, List.set_cons_succ])
      refine wpAnyM_take (i := 1) (v := ?_) rfl (by kernel_rfl) (by kernel_rfl) (by kernel_rfl) (by kernel_rfl) (fun _ _ _ h => h) hS (Or.inl ⟨by rfl, ?_⟩) ?_
      rotate_left
      · (intro w hSw; (try dsimp only at hSw); go_split_ands; go_simp; try (with_reducible rfl))
      (try simp only [Act.put, List.setIfInBounds_toArray, List.set_cons_zero, List.set_cons_succ])
      refine wpAnyM_take (i := 2) (v := ?_) rfl (by kernel_rfl) (by kernel_rfl) (by kernel_rfl) (by kernel_rfl) (fun _ _ _ h => h) hS (Or.inl ⟨by rfl, ?_⟩) ?_
      rotate_left
      · (intro w hSw; (try dsimp only at hSw); go_split_ands; go_simp; try (with_reducible rfl))
      (try simp only [Act.put, List.setIfInBounds_toArray, List.set_cons_zero, List.set_cons_succ])
      refine wpAnyM_take (i := 3) (v := ?_) rfl (by kernel_rfl) (by kernel_rfl) (by kernel_rfl) (by kernel_rfl) (fun _ _ _ h => h) hS (Or.inl ⟨by rfl, ?_⟩) ?_
      rotate_left
      · (intro w hSw; (try dsimp only at hSw); go_split_ands; go_simp; try (with_reducible rfl))
      (try simp only [Act.put, List.setIfInBounds_toArray, List.set_cons_zero, List.set_cons_succ])
      refine wpAnyM_take (i := 4) (v := ?_) rfl (by kernel_rfl) (by kernel_rfl) (by kernel_rfl) (by kernel_rfl) (fun _ _ _ h => h) hS (Or.inl ⟨by rfl, ?_⟩) ?_
      rotate_left
      · (intro w hSw; (try dsimp only at hSw); go_split_ands; go_simp; try (with_reducible rfl))
      (try simp only [Act.put, List.setIfInBounds_toArray, List.set_cons_zero, List.set_cons_succ])
      refine wpAnyM_one (i := 5) (by kernel_rfl) rfl (fun K hK => ?_)
      (go_simp; (with_reducible refine (HCl.out _ (IsSince.drew' (IsSince.self _))).mono ?_); rintro _ _ ⟨ad, cd, y5, rfl, rfl, hrd, hfd⟩)
      refine hK.out _ _ (Or.inr (⟨k0 y5, k1 y5, k2 y5, k3 y5, k4 y5, k5 y5⟩)) (fun hS' => ?_)
      replace hS := hS'.resolve_left (by decide)
      clear hK K hS'
      (try simp only [Act.put, List.setIfInBounds_toArray, List.set_cons_zero, List.set_cons_succ])
      refine wpAnyM_take (i := 6) (v := ?_) rfl (by kernel_rfl) (by kernel_rfl) (by kernel_rfl) (by kernel_rfl) (fun _ _ _ h => h) hS (Or.inl ⟨by rfl, ?_⟩) ?_
      rotate_left
      · (intro w hSw; (try dsimp only at hSw); go_split_ands; go_simp; try (with_reducible rfl))
      (try simp only [Act.put, List.setIfInBounds_toArray, List.set_cons_zero, List.set_cons_succ])
      refine wpAnyM_take (i := 7) (v := ?_) rfl (by kernel_rfl) (by kernel_rfl) (by kernel_rfl) (by kernel_rfl) (fun _ _ _ h => h) hS (Or.inl ⟨by rfl, ?_⟩) ?_
      rotate_left
      · (intro w hSw; (try dsimp only at hSw); go_split_ands; go_simp; try (with_reducible rfl))
      (try simp only [Act.put, List.setIfInBounds_toArray, List.set_cons_zero, List.set_cons_succ])
      have g0 := e0 y5; have g1 := e1 y5; have g2 := e2 y5; have g3 := e3 y5; have g4 := e4 y5; have g5 := e5 y5; have g6 := e6 y5; have g7 := e7 y5; have g8 := e8 y5; have g9 := e9 y5; have gf := ef y5
      refine wpAnyM_one (i := 8) (by kernel_rfl) rfl (fun K hK => ?_)
      go_simp
      refine hK.out _ _ (Or.inl rfl) (fun _ => ?_)
      clear hK K hS
      (try simp only [Act.put, List.setIfInBounds_toArray, List.set_cons_zero, List.set_cons_succ])
      refine wpAnyM_one (i := 9) (by kernel_rfl) rfl (fun K hK => ?_)
      go_simp
      refine hK.out _ _ (Or.inr ⟨(cell_ten y5.w (bx + 2) _ _ _ _ _ _ _ _ _ _ n0).trans (k0 y5), (cell_ten y5.w (bx + 2) _ _ _ _ _ _ _ _ _ _ n0).trans (k1 y5), (cell_ten y5.w (bx + 2) _ _ _ _ _ _ _ _ _ _ n1).trans (k2 y5), (cell_ten y5.w (bx + 2) _ _ _ _ _ _ _ _ _ _ n2).trans (k3 y5), (cell_ten y5.w (bx + 2) _ _ _ _ _ _ _ _ _ _ n2).trans (k4 y5), (cell_ten y5.w (bx + 2) _ _ _ _ _ _ _ _ _ _ n2).trans (k5 y5)⟩) (fun _ => ?_)
      clear hK K
      (try simp only [Act.put, List.setIfInBounds_toArray, List.set_cons_zero, List.set_cons_succ])
      refine wpAnyM_done (by kernel_rfl) ?_
      obtain ⟨z5, h5⟩ := z4.trans y5
      have hz5 : z4.w.heap.size ≤ y5.w.heap.size := y5.b.size
      have r1 := HR4.out.to ⟨y5, rfl⟩
      have hb1 : ∀ b, ac = some b → b.block ≠ bx + 2 := fun b hb => by have := HFc.out b hb; have := Hbx.out; have := y2.b.size; omega
      have hb2 : ∀ b, ad = some b → b.block ≠ bx + 2 := fun b hb => by have := hfd b hb; have := Hbx.out; have := z4.b.size; omega
      have R1 := row_setMany0 r1 hb1 [.int .i64 f, .int .i64 t, .int .i64 each, .int .i64 (n : Int), .int .i64 (n : Int), .slice ac l.length cc, .slice none 0 0, .slice none 0 0, .slice none 0 0, .slice ad N.length cd]
      have R2 := row_setMany0 hrd hb2 [.int .i64 f, .int .i64 t, .int .i64 each, .int .i64 (n : Int), .int .i64 (n : Int), .slice ac l.length cc, .slice none 0 0, .slice none 0 0, .slice none 0 0, .slice ad N.length cd]
      have hsm : ∀ j, j < 10 → (y5.w.cell? ⟨bx + 2, j, none⟩).isSome = true := fun j hj => by obtain ⟨v, hv⟩ := m0 j hj; rw [hv y5]; rfl
      obtain ⟨Z, hz, hc⟩ := set_many y5 (g := bx + 2) [.int .i64 f, .int .i64 t, .int .i64 each, .int .i64 (n : Int), .int .i64 (n : Int), .slice ac l.length cc, .slice none 0 0, .slice none 0 0, .slice none 0 0, .slice ad N.length cd] hsm (hUp4 y5) hg2
      rw [hz] at R1 R2
      have hX := HT2.out hEE
      have HPZ := Lib.hid (show RelRes w X E (.returned (.tuple #[.agg #[.int .i64 f, .int .i64 t, .int .i64 each, .int .i64 (n : Int), .int .i64 (n : Int), .slice ac l.length cc, .slice none 0 0, .slice none 0 0, .slice none 0 0, .slice ad N.length cd], .int .i64 0])) Z.w from by
        rw [hX, hEE]
        have hw2 : w.heap.size ≤ y2.w.heap.size := by have := Hbx.out; have := y2.b.size; omega
        have hw4 : w.heap.size ≤ z4.w.heap.size := by have := Hbx.out; have := z4.b.size; omega
        refine ⟨ac, none, none, none, ad, cc, 0, 0, 0, cd, Z, by simp [outL_length], rfl, R1, fun i hi => (by cases hi), row_nil' _, row_nil' _, R2, fun b hb => ?_⟩
        rcases hb with h | h | h | h | h
        · exact Nat.le_trans hw2 (HFc.out b h)
        · cases h
        · cases h
        · cases h
        · exact Nat.le_trans hw4 (hfd b h))
      clear hX hEE HT HT2 h5 z5
      go_wp2_with fail
      simp only [World.setCells, Nat.reduceAdd] at hz
      rw [show bx + 1 + 1 = bx + 2 from rfl, hz]
      have hc0 := hc 0 _ rfl; have hc1 := hc 1 _ rfl; have hc2 := hc 2 _ rfl; have hc3 := hc 3 _ rfl; have hc4 := hc 4 _ rfl; have hc5 := hc 5 _ rfl; have hc6 := hc 6 _ rfl; have hc7 := hc 7 _ rfl; have hc8 := hc 8 _ rfl; have hc9 := hc 9 _ rfl
      exact bodyPost_ret (v := .tuple #[.agg #[.int .i64 f, .int .i64 t, .int .i64 each, .int .i64 (n : Int), .int .i64 (n : Int), .slice ac l.length cc, .slice none 0 0, .slice none 0 0, .slice none 0 0, .slice ad N.length cd], .int .i64 0]) (by simp [results, Tryd.results26, go_sem, hc0, hc1, hc2, hc3, hc4, hc5, hc6, hc7, hc8, hc9]) rfl HPZ.out
    · have HM2 := Lib.hid (fun z : Since y2.w => show Calls Tryd.prog 49 #[.agg #[.slice an N.length cn], .slice a1 l.length c1, .slice aw ws.length cw] z.w (fun o w' => o = .returned (.tuple #[.slice none 0 0, .int .i64 0, .int .i64 (addE N l ws)]) ∧ ∃ y : Since y2.w, w' = y.w) from by
        refine (HA2.out z).mono ?_
        intro o w' hm
        unfold AddedF at hm
        rw [if_neg hA] at hm
        exact hm)
      have hX := HT.out (by rw [hEE]; exact hA)
      have HP := Lib.hid (fun y : Since w => show RelRes w X E (.returned (.tuple #[.agg #[.int .i64 0, .int .i64 0, .int .i64 0, .int .i64 0, .int .i64 0, .slice none 0 0, .slice none 0 0, .slice none 0 0, .slice none 0 0, .slice none 0 0], .int .i64 (addE N l ws)])) y.w from by rw [hEE, hX]; exact relres_no y)
      have hA' := intrel_ne hA
      have HT3 := Lib.hid (fun q : Since y2.w => y2.trans q)
      clear HA2 hA hX hEE HT HT2
      generalize addE N l ws = EA at *
      go_upto_region 5 with (go_at_call 49; ((with_reducible refine (HM2.out _).mono ?_); rintro _ _ ⟨rfl, y3, rfl⟩))
      obtain ⟨z3, h3⟩ := HT3.out y3
      rw [h3]
      clear h3
      go_wp2_with fail
      have hsm : ∀ j, j < 10 → (z3.w.cell? ⟨bx + 2, j, none⟩).isSome = true := fun j hj => by
        match j, hj with
        | 0, _ => rw [hb2_0 z3]; rfl
        | 1, _ => rw [hb2_1 z3]; rfl
        | 2, _ => rw [hb2_2 z3]; rfl
        | 3, _ => rw [hb2_3 z3]; rfl
        | 4, _ => rw [hb2_4 z3]; rfl
        | 5, _ => rw [hb2_5 z3]; rfl
        | 6, _ => rw [hb2_6 z3]; rfl
        | 7, _ => rw [hb2_7 z3]; rfl
        | 8, _ => rw [hb2_8 z3]; rfl
        | 9, _ => rw [hb2_9 z3]; rfl
      obtain ⟨Z, hz, hc⟩ := set_many z3 (g := bx + 2) [.int .i64 0, .int .i64 0, .int .i64 0, .int .i64 0, .int .i64 0, .slice none 0 0, .slice none 0 0, .slice none 0 0, .slice none 0 0, .slice none 0 0] hsm (Hup.out z3) (by have := Hbx.out; omega)
      simp only [World.setCells, Nat.reduceAdd] at hz
      rw [hz]
      have hc0 := hc 0 _ rfl
      have hc1 := hc 1 _ rfl
      have hc2 := hc 2 _ rfl
      have hc3 := hc 3 _ rfl
      have hc4 := hc 4 _ rfl
      have hc5 := hc 5 _ rfl
      have hc6 := hc 6 _ rfl
      have hc7 := hc 7 _ rfl
      have hc8 := hc 8 _ rfl
      have hc9 := hc 9 _ rfl
      exact bodyPost_ret (v := .tuple #[.agg #[.int .i64 0, .int .i64 0, .int .i64 0, .int .i64 0, .int .i64 0, .slice none 0 0, .slice none 0 0, .slice none 0 0, .slice none 0 0, .slice none 0 0], .int .i64 EA]) (by simp [results, Tryd.results26, go_sem, hc0, hc1, hc2, hc3, hc4, hc5, hc6, hc7, hc8, hc9]) rfl (HP.out Z)
  · have hE : E = E2 := by rw [HE.out, if_pos h1]
    have hX : X = rel0 := HT.out (by rw [hE]; exact h1)
    have HP := Lib.hid (fun y : Since w => show RelRes w X E (.returned (.tuple #[.agg #[.int .i64 0, .int .i64 0, .int .i64 0, .int .i64 0, .int .i64 0, .slice none 0 0, .slice none 0 0, .slice none 0 0, .slice none 0 0, .slice none 0 0], .int .i64 E2])) y.w from by rw [hE, hX]; exact relres_no y)
    clear hE hX HE HT HT2 HG HA
    go_wp2_with fail
    have hsm : ∀ j, j < 10 → (y2.w.cell? ⟨bx + 2, j, none⟩).isSome = true := fun j hj => by
      match j, hj with
      | 0, _ => rw [hb2_0 y2]; rfl
      | 1, _ => rw [hb2_1 y2]; rfl
      | 2, _ => rw [hb2_2 y2]; rfl
      | 3, _ => rw [hb2_3 y2]; rfl
      | 4, _ => rw [hb2_4 y2]; rfl
      | 5, _ => rw [hb2_5 y2]; rfl
      | 6, _ => rw [hb2_6 y2]; rfl
      | 7, _ => rw [hb2_7 y2]; rfl
      | 8, _ => rw [hb2_8 y2]; rfl
      | 9, _ => rw [hb2_9 y2]; rfl
    obtain ⟨Z, hz, hc⟩ := set_many y2 (g := bx + 2) [.int .i64 0, .int .i64 0, .int .i64 0, .int .i64 0, .int .i64 0, .slice none 0 0, .slice none 0 0, .slice none 0 0, .slice none 0 0, .slice none 0 0] hsm (Hup.out y2) (by have := Hbx.out; omega)
    simp only [World.setCells, Nat.reduceAdd] at hz
    rw [hz]
    have hc0 := hc 0 _ rfl
    have hc1 := hc 1 _ rfl
    have hc2 := hc 2 _ rfl
    have hc3 := hc 3 _ rfl
    have hc4 := hc 4 _ rfl
    have hc5 := hc 5 _ rfl
    have hc6 := hc 6 _ rfl
    have hc7 := hc 7 _ rfl
    have hc8 := hc 8 _ rfl
    have hc9 := hc 9 _ rfl
    exact bodyPost_ret (v := .tuple #[.agg #[.int .i64 0, .int .i64 0, .int .i64 0, .int .i64 0, .int .i64 0, .slice none 0 0, .slice none 0 0, .slice none 0 0, .slice none 0 0, .slice none 0 0], .int .i64 E2]) (by simp [results, Tryd.results26, go_sem, hc0, hc1, hc2, hc3, hc4, hc5, hc6, hc7, hc8, hc9]) rfl (HP.out Z)
end Go.Proofs.YtdkcclngionihaaDoor
