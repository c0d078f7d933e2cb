/- Releases with noise, the reference: Noisy, walked. Typed after RlN2. -/
import Derived.Test.YtdkcclngionihaaDoorRlMo
set_option linter.all false
namespace Go.Proofs.YtdkcclngionihaaDoor
open Go.RowKit

theorem rl_tab {zs : List Int} {size : Int} {R : List Ride} {f t each : Int} (h : tabE zs size R f t each = 0) (hl : R.length ≤ 1024) :
    ∃ (n : Nat) (l : List Int), size = (n : Int) ∧ tabV zs size R f t each = ⟨n, n, l⟩ ∧ SG n n l := by
  obtain ⟨n, hn, hV, hG⟩ := tab_good h hl
  exact ⟨n, _, hn, hV, hG⟩
theorem ny_tab {zs : List Int} {size : Int} {R : List Ride} {f t each : Int} {N ws : List Int} (h : tabE zs size R f t each ≠ 0) : nyE zs size R f t each N ws = tabE zs size R f t each := by
  have hr : rlE zs size R f t each = tabE zs size R f t each := by unfold rlE; rw [if_pos h]
  unfold nyE; rw [if_pos (by rw [hr]; exact h), hr]
theorem ny_each {zs : List Int} {size : Int} {R : List Ride} {f t each : Int} {N ws : List Int} (h : tabE zs size R f t each = 0) (he : each = 0) : nyE zs size R f t each N ws = 1 := by
  have hr : rlE zs size R f t each = 1 := by unfold rlE; rw [if_neg (by simpa using h), if_pos he]
  unfold nyE; rw [if_pos (by rw [hr]; decide), hr]
theorem ny_go {zs : List Int} {size : Int} {R : List Ride} {f t each : Int} {N ws : List Int} (h : tabE zs size R f t each = 0) (he : each ≠ 0) : nyE zs size R f t each N ws = addE N (tabV zs size R f t each).l ws ∧ (nyE zs size R f t each N ws = 0 → nyR zs size R f t each N ws = ⟨f, t, each, size, size, outL N (tabV zs size R f t each).l ws (tabV zs size R f t each).l.length, [], [], [], N⟩) := by
  have hr : rlE zs size R f t each = 0 := by unfold rlE; rw [if_neg (by simpa using h), if_neg he]
  have hT : rlT zs size R f t each = tabV zs size R f t each := by unfold rlT; rw [if_pos hr]
  refine ⟨?_, fun h0 => ?_⟩
  · unfold nyE; rw [if_neg (by rw [hr]; decide), hT]
  · unfold nyR; rw [if_pos h0, hT]
theorem ints_own {w : World} {base : Nat} {v : Value} {l : List Int} (h : w.ownsRow base 3 1 v (0 + l.length) ([] ++ flat intCs l)) : ∃ a c, v = .slice a l.length c ∧ IntRow w a l ∧ ∀ b, a = some b → base ≤ b.block := by
  rw [List.nil_append, Nat.zero_add, flat_ints] at h
  obtain ⟨a, c, rfl, _, hrow, hf⟩ := own_row h
  refine ⟨a, c, rfl, fun i hi => ?_, hf⟩
  obtain ⟨b, o, h1, h2, h3⟩ := hrow i hi
  refine ⟨b, o, h1, h2, h3.trans ?_⟩
  simp [at0, List.getD_eq_getElem?_getD, List.getElem?_eq_getElem hi]
set_option linter.unusedSimpArgs false in
set_option maxRecDepth 100000 in
set_option maxHeartbeats 16000000 in
theorem rnoisy_calls (w : World) (x : Since w) (az : Option Addr) (zs : List Int) (cz : Nat) (size : Int) (a : Option Addr) (R : List Ride) (c : Nat) (f t each : Int) (an aw : Option Addr) (N ws : List Int) (cn cw : Nat) (hz : IntRow w az zs) (hzl : zs.length ≤ 9223372036854775807) (h : RideRow w a R) (hl : R.length ≤ 1024) (hI : ∀ r ∈ R, r.fp ≤ 9223372036854775807 ∧ r.pl ≤ 9223372036854775807)
    (hn : IntRow w an N) (hnz : an = none → cn = 0) (hnl : N.length ≤ 100000) (hw : Row w aw ws.length fun i => .int .u64 (at0 ws i)) (hwc : ws.length ≤ cw) (hwl : ws.length ≤ 9223372036854775807) (hwr : ∀ i, 0 ≤ at0 ws i ∧ at0 ws i < 18446744073709551616) :
    Calls Tryd.prog 27 #[.slice az zs.length cz, .int .i64 size, .slice a R.length c, .agg #[.int .i64 f, .int .i64 t], .int .i64 each, .agg #[.slice an N.length cn], .slice aw ws.length cw] x.w (RelRes w (nyR zs size R f t each N ws) (nyE zs size R f t each N ws)) := by
  have HZ := Lib.hid hz
  have HR := Lib.hid h
  have HN := Lib.hid hn; have HW := Lib.hid hw
  have HC := Lib.hid (fun (W : World) (y : Since W) hz h => rtable_calls W y az zs cz size a R c f t each hz hzl h (by omega) hI)
  have HG := Lib.hid (fun h => rl_tab (zs := zs) (size := size) (R := R) (f := f) (t := t) (each := each) h hl)
  have HA := Lib.hid (fun (W : World) (y : Since W) (b : Option Addr) (l : List Int) (cb : Nat) hn hl hb hw => raddF_calls W y an b aw N l ws cn cb cw hwc (by omega) hl hwl hn hb hw hwr)
  have HE1 := Lib.hid (fun h => ny_tab (zs := zs) (size := size) (R := R) (f := f) (t := t) (each := each) (N := N) (ws := ws) h)
  have HE2 := Lib.hid (fun h k => ny_each (zs := zs) (size := size) (R := R) (f := f) (t := t) (each := each) (N := N) (ws := ws) h k)
  have HE3 := Lib.hid (fun h k => ny_go (zs := zs) (size := size) (R := R) (f := f) (t := t) (each := each) (N := N) (ws := ws) h k)
  have HT := Lib.hid (show nyE zs size R f t each N ws ≠ 0 → nyR zs size R f t each N ws = rel0 from fun h => by unfold nyR; rw [if_neg h])
  generalize nyE zs size R f t each N ws = E at *
  generalize nyR zs size R f t each N ws = X at *
  generalize tabE zs size R f t each = E2 at *
  generalize tabV zs size R f t each = T2 at *
  generalize zs.length = nz at *
  generalize R.length = nr at *
  clear hz h hl hzl hI hn hw hwr hwc
  go_enter Tryd.func27, Tryd.ntmps27
  go_upto_region 1 with fail
  have hb0_0 : ∀ y : Since (((x.w.alloc (.cells #[.int .i64 f, .int .i64 t] 25)).alloc (.cells #[.slice an N.length cn] 34)).alloc (.cells #[.int .i64 0, .int .i64 0, .int .i64 0, .int .i64 0, .int .i64 0, .slice none 0 0, .slice none 0 0, .slice none 0 0, .slice none 0 0, .slice none 0 0] 36)), y.w.cell? ⟨x.w.heap.size, 0, none⟩ = some (.int .i64 f) := fun y => Since.cell (by simp [go_sem]) (by first | (simp; done) | (simp; omega)) y
  have hb0_1 : ∀ y : Since (((x.w.alloc (.cells #[.int .i64 f, .int .i64 t] 25)).alloc (.cells #[.slice an N.length cn] 34)).alloc (.cells #[.int .i64 0, .int .i64 0, .int .i64 0, .int .i64 0, .int .i64 0, .slice none 0 0, .slice none 0 0, .slice none 0 0, .slice none 0 0, .slice none 0 0] 36)), y.w.cell? ⟨x.w.heap.size, 1, none⟩ = some (.int .i64 t) := fun y => Since.cell (by simp [go_sem]) (by first | (simp; done) | (simp; omega)) y
  have hf0 : ∀ (y : Since (((x.w.alloc (.cells #[.int .i64 f, .int .i64 t] 25)).alloc (.cells #[.slice an N.length cn] 34)).alloc (.cells #[.int .i64 0, .int .i64 0, .int .i64 0, .int .i64 0, .int .i64 0, .slice none 0 0, .slice none 0 0, .slice none 0 0, .slice none 0 0, .slice none 0 0] 36))) (o : Nat), y.w.frozen? ⟨x.w.heap.size, o, none⟩ = false := fun y o => Since.free (by simp [go_sem]) (by first | (simp; done) | (simp; omega)) y
  have hb1_0 : ∀ y : Since (((x.w.alloc (.cells #[.int .i64 f, .int .i64 t] 25)).alloc (.cells #[.slice an N.length cn] 34)).alloc (.cells #[.int .i64 0, .int .i64 0, .int .i64 0, .int .i64 0, .int .i64 0, .slice none 0 0, .slice none 0 0, .slice none 0 0, .slice none 0 0, .slice none 0 0] 36)), y.w.cell? ⟨x.w.heap.size + 1, 0, none⟩ = some (.slice an N.length cn) := fun y => Since.cell (by simp [go_sem]) (by first | (simp; done) | (simp; omega)) y
  have hf1 : ∀ (y : Since (((x.w.alloc (.cells #[.int .i64 f, .int .i64 t] 25)).alloc (.cells #[.slice an N.length cn] 34)).alloc (.cells #[.int .i64 0, .int .i64 0, .int .i64 0, .int .i64 0, .int .i64 0, .slice none 0 0, .slice none 0 0, .slice none 0 0, .slice none 0 0, .slice none 0 0] 36))) (o : Nat), y.w.frozen? ⟨x.w.heap.size + 1, o, none⟩ = false := fun y o => Since.free (by simp [go_sem]) (by first | (simp; done) | (simp; omega)) y
  have hb2_0 : ∀ y : Since (((x.w.alloc (.cells #[.int .i64 f, .int .i64 t] 25)).alloc (.cells #[.slice an N.length cn] 34)).alloc (.cells #[.int .i64 0, .int .i64 0, .int .i64 0, .int .i64 0, .int .i64 0, .slice none 0 0, .slice none 0 0, .slice none 0 0, .slice none 0 0, .slice none 0 0] 36)), y.w.cell? ⟨x.w.heap.size + 2, 0, none⟩ = some (.int .i64 0) := fun y => Since.cell (by simp [go_sem]) (by first | (simp; done) | (simp; omega)) y
  have hb2_1 : ∀ y : Since (((x.w.alloc (.cells #[.int .i64 f, .int .i64 t] 25)).alloc (.cells #[.slice an N.length cn] 34)).alloc (.cells #[.int .i64 0, .int .i64 0, .int .i64 0, .int .i64 0, .int .i64 0, .slice none 0 0, .slice none 0 0, .slice none 0 0, .slice none 0 0, .slice none 0 0] 36)), y.w.cell? ⟨x.w.heap.size + 2, 1, none⟩ = some (.int .i64 0) := fun y => Since.cell (by simp [go_sem]) (by first | (simp; done) | (simp; omega)) y
  have hb2_2 : ∀ y : Since (((x.w.alloc (.cells #[.int .i64 f, .int .i64 t] 25)).alloc (.cells #[.slice an N.length cn] 34)).alloc (.cells #[.int .i64 0, .int .i64 0, .int .i64 0, .int .i64 0, .int .i64 0, .slice none 0 0, .slice none 0 0, .slice none 0 0, .slice none 0 0, .slice none 0 0] 36)), y.w.cell? ⟨x.w.heap.size + 2, 2, none⟩ = some (.int .i64 0) := fun y => Since.cell (by simp [go_sem]) (by first | (simp; done) | (simp; omega)) y
  have hb2_3 : ∀ y : Since (((x.w.alloc (.cells #[.int .i64 f, .int .i64 t] 25)).alloc (.cells #[.slice an N.length cn] 34)).alloc (.cells #[.int .i64 0, .int .i64 0, .int .i64 0, .int .i64 0, .int .i64 0, .slice none 0 0, .slice none 0 0, .slice none 0 0, .slice none 0 0, .slice none 0 0] 36)), y.w.cell? ⟨x.w.heap.size + 2, 3, none⟩ = some (.int .i64 0) := fun y => Since.cell (by simp [go_sem]) (by first | (simp; done) | (simp; omega)) y
  have hb2_4 : ∀ y : Since (((x.w.alloc (.cells #[.int .i64 f, .int .i64 t] 25)).alloc (.cells #[.slice an N.length cn] 34)).alloc (.cells #[.int .i64 0, .int .i64 0, .int .i64 0, .int .i64 0, .int .i64 0, .slice none 0 0, .slice none 0 0, .slice none 0 0, .slice none 0 0, .slice none 0 0] 36)), y.w.cell? ⟨x.w.heap.size + 2, 4, none⟩ = some (.int .i64 0) := fun y => Since.cell (by simp [go_sem]) (by first | (simp; done) | (simp; omega)) y
  have hb2_5 : ∀ y : Since (((x.w.alloc (.cells #[.int .i64 f, .int .i64 t] 25)).alloc (.cells #[.slice an N.length cn] 34)).alloc (.cells #[.int .i64 0, .int .i64 0, .int .i64 0, .int .i64 0, .int .i64 0, .slice none 0 0, .slice none 0 0, .slice none 0 0, .slice none 0 0, .slice none 0 0] 36)), y.w.cell? ⟨x.w.heap.size + 2, 5, none⟩ = some (.slice none 0 0) := fun y => Since.cell (by simp [go_sem]) (by first | (simp; done) | (simp; omega)) y
  have hb2_6 : ∀ y : Since (((x.w.alloc (.cells #[.int .i64 f, .int .i64 t] 25)).alloc (.cells #[.slice an N.length cn] 34)).alloc (.cells #[.int .i64 0, .int .i64 0, .int .i64 0, .int .i64 0, .int .i64 0, .slice none 0 0, .slice none 0 0, .slice none 0 0, .slice none 0 0, .slice none 0 0] 36)), y.w.cell? ⟨x.w.heap.size + 2, 6, none⟩ = some (.slice none 0 0) := fun y => Since.cell (by simp [go_sem]) (by first | (simp; done) | (simp; omega)) y
  have hb2_7 : ∀ y : Since (((x.w.alloc (.cells #[.int .i64 f, .int .i64 t] 25)).alloc (.cells #[.slice an N.length cn] 34)).alloc (.cells #[.int .i64 0, .int .i64 0, .int .i64 0, .int .i64 0, .int .i64 0, .slice none 0 0, .slice none 0 0, .slice none 0 0, .slice none 0 0, .slice none 0 0] 36)), y.w.cell? ⟨x.w.heap.size + 2, 7, none⟩ = some (.slice none 0 0) := fun y => Since.cell (by simp [go_sem]) (by first | (simp; done) | (simp; omega)) y
  have hb2_8 : ∀ y : Since (((x.w.alloc (.cells #[.int .i64 f, .int .i64 t] 25)).alloc (.cells #[.slice an N.length cn] 34)).alloc (.cells #[.int .i64 0, .int .i64 0, .int .i64 0, .int .i64 0, .int .i64 0, .slice none 0 0, .slice none 0 0, .slice none 0 0, .slice none 0 0, .slice none 0 0] 36)), y.w.cell? ⟨x.w.heap.size + 2, 8, none⟩ = some (.slice none 0 0) := fun y => Since.cell (by simp [go_sem]) (by first | (simp; done) | (simp; omega)) y
  have hb2_9 : ∀ y : Since (((x.w.alloc (.cells #[.int .i64 f, .int .i64 t] 25)).alloc (.cells #[.slice an N.length cn] 34)).alloc (.cells #[.int .i64 0, .int .i64 0, .int .i64 0, .int .i64 0, .int .i64 0, .slice none 0 0, .slice none 0 0, .slice none 0 0, .slice none 0 0, .slice none 0 0] 36)), y.w.cell? ⟨x.w.heap.size + 2, 9, none⟩ = some (.slice none 0 0) := fun y => Since.cell (by simp [go_sem]) (by first | (simp; done) | (simp; omega)) y
  have hf2 : ∀ (y : Since (((x.w.alloc (.cells #[.int .i64 f, .int .i64 t] 25)).alloc (.cells #[.slice an N.length cn] 34)).alloc (.cells #[.int .i64 0, .int .i64 0, .int .i64 0, .int .i64 0, .int .i64 0, .slice none 0 0, .slice none 0 0, .slice none 0 0, .slice none 0 0, .slice none 0 0] 36))) (o : Nat), y.w.frozen? ⟨x.w.heap.size + 2, o, none⟩ = false := fun y o => Since.free (by simp [go_sem]) (by first | (simp; done) | (simp; omega)) y
  have hWup : ∃ z : Since w, (((x.w.alloc (.cells #[.int .i64 f, .int .i64 t] 25)).alloc (.cells #[.slice an N.length cn] 34)).alloc (.cells #[.int .i64 0, .int .i64 0, .int .i64 0, .int .i64 0, .int .i64 0, .slice none 0 0, .slice none 0 0, .slice none 0 0, .slice none 0 0, .slice none 0 0] 36)) = z.w := Since.allocs x [.cells #[.int .i64 f, .int .i64 t] 25, .cells #[.slice an N.length cn] 34, .cells #[.int .i64 0, .int .i64 0, .int .i64 0, .int .i64 0, .int .i64 0, .slice none 0 0, .slice none 0 0, .slice none 0 0, .slice none 0 0, .slice none 0 0] 36]
  obtain ⟨y0, hy0⟩ := Since.refl (((x.w.alloc (.cells #[.int .i64 f, .int .i64 t] 25)).alloc (.cells #[.slice an N.length cn] 34)).alloc (.cells #[.int .i64 0, .int .i64 0, .int .i64 0, .int .i64 0, .int .i64 0, .slice none 0 0, .slice none 0 0, .slice none 0 0, .slice none 0 0, .slice none 0 0] 36))
  have Hbx := Lib.hid (And.intro x.b.size (show x.w.heap.size + 3 = (((x.w.alloc (.cells #[.int .i64 f, .int .i64 t] 25)).alloc (.cells #[.slice an N.length cn] 34)).alloc (.cells #[.int .i64 0, .int .i64 0, .int .i64 0, .int .i64 0, .int .i64 0, .slice none 0 0, .slice none 0 0, .slice none 0 0, .slice none 0 0, .slice none 0 0] 36)).heap.size from by simp))
  generalize hW : (((x.w.alloc (.cells #[.int .i64 f, .int .i64 t] 25)).alloc (.cells #[.slice an N.length cn] 34)).alloc (.cells #[.int .i64 0, .int .i64 0, .int .i64 0, .int .i64 0, .int .i64 0, .slice none 0 0, .slice none 0 0, .slice none 0 0, .slice none 0 0, .slice none 0 0] 36)) = W at *
  clear hW
  generalize x.w.heap.size = bx at *
  have Hup := Lib.hid (Since.up hWup)
  rw [hy0]
  clear hy0
  replace HZ := Lib.hid (HZ.out.to hWup)
  replace HR := Lib.hid (HR.out.to hWup)
  replace HN := Lib.hid (HN.out.to hWup)
  replace HW := Lib.hid (HW.out.to hWup)
  clear hWup hf0 hf1
  have H1 := Lib.hid (HC.out W y0 HZ.out HR.out)
  clear HC HZ HR
  go_upto_region 2 with (go_at_call 33; ((with_reducible refine H1.out.mono ?_); rintro _ _ ⟨a1, c1, y1, rfl, rfl, r1, r2, r3, r4⟩))
  have HR1 := Lib.hid r1
  clear r1 r2 r3 r4 H1
  have hx0 : (y1.w.alloc (.cells #[.int .i64 T2.r, .int .i64 T2.c, .slice a1 T2.l.length c1] 31)).cell? ⟨y1.w.heap.size, 0, none⟩ = some (.int .i64 T2.r) := by simp [go_sem]
  have hx1 : (y1.w.alloc (.cells #[.int .i64 T2.r, .int .i64 T2.c, .slice a1 T2.l.length c1] 31)).cell? ⟨y1.w.heap.size, 1, none⟩ = some (.int .i64 T2.c) := by simp [go_sem]
  have hx2 : (y1.w.alloc (.cells #[.int .i64 T2.r, .int .i64 T2.c, .slice a1 T2.l.length c1] 31)).cell? ⟨y1.w.heap.size, 2, none⟩ = some (.slice a1 T2.l.length c1) := by simp [go_sem]
  have hxf : ∀ o, (y1.w.alloc (.cells #[.int .i64 T2.r, .int .i64 T2.c, .slice a1 T2.l.length c1] 31)).frozen? ⟨y1.w.heap.size, o, none⟩ = false := fun o => by simp [go_sem]
  have hlt0 : y1.w.heap.size < (y1.w.alloc (.cells #[.int .i64 T2.r, .int .i64 T2.c, .slice a1 T2.l.length c1] 31)).heap.size := by simp
  have hst0 : ∃ zz : Since y1.w, (y1.w.alloc (.cells #[.int .i64 T2.r, .int .i64 T2.c, .slice a1 T2.l.length c1] 31)) = zz.w := IsSince.alloc (IsSince.self _) _
  have hsz0 := y1.b.size
  obtain ⟨y2, e2⟩ := IsSince.alloc (IsSince.of y1) (.cells #[.int .i64 T2.r, .int .i64 T2.c, .slice a1 T2.l.length c1] 31)
  rw [e2] at hx0 hx1 hx2 hxf hlt0 hst0 ⊢
  (replace HR1 := Lib.hid (HR1.out.to hst0); have hBT := BoxIs.new y1.w [.int .i64 T2.r, .int .i64 T2.c, .slice a1 T2.l.length c1] 31; rw [e2] at hBT)
  clear e2 hst0
  generalize y1.w.heap.size = gt at *
  have Hhx0 : ∀ q : Since y2.w, q.w.cell? ⟨gt, 0, none⟩ = some (.int .i64 T2.r) := fun q => Since.cell hx0 (by omega) q
  have Hhx1 : ∀ q : Since y2.w, q.w.cell? ⟨gt, 1, none⟩ = some (.int .i64 T2.c) := fun q => Since.cell hx1 (by omega) q
  have Hhx2 : ∀ q : Since y2.w, q.w.cell? ⟨gt, 2, none⟩ = some (.slice a1 T2.l.length c1) := fun q => Since.cell hx2 (by omega) q
  have Hhxf : ∀ (q : Since y2.w) (o : Nat), q.w.frozen? ⟨gt, o, none⟩ = false := fun q o => Since.free (hxf o) (by omega) q
  have Hhxg := Lib.hid (And.intro hsz0 hlt0)
  clear hlt0 hsz0
  have HBT := Lib.hid hBT
  have hgtW : W.heap.size ≤ gt := Hhxg.out.1
  clear hBT hx0 hx1 hx2 hxf Hhxf Hhxg
  by_cases h1 : E2 = 0
  · obtain ⟨n, l, rfl, rfl, hG⟩ := HG.out h1
    have hm1 := hG.len
    clear HG hG HE1
    have h1' := intrel_eq h1
    by_cases hea : each = 0
    · have hE := HE2.out h1 hea
      have hX : X = rel0 := HT.out (by rw [hE]; decide)
      have HP := Lib.hid (fun y : Since w => show RelRes w X E (.returned (.tuple #[.agg #[.int .i64 0, .int .i64 0, .int .i64 0, .int .i64 0, .int .i64 0, .slice none 0 0, .slice none 0 0, .slice none 0 0, .slice none 0 0, .slice none 0 0], .int .i64 1])) y.w from by rw [hE, hX]; exact relres_no y)
      have hea' := intrel_eq hea
      clear hE hX HE2 HE3 HT HA h1 hea
      go_wp2_with fail
      have hsm : ∀ j, j < 10 → (y2.w.cell? ⟨bx + 2, j, none⟩).isSome = true := fun j hj => by
        match j, hj with
        | 0, _ => rw [hb2_0 y2]; rfl
        | 1, _ => rw [hb2_1 y2]; rfl
        | 2, _ => rw [hb2_2 y2]; rfl
        | 3, _ => rw [hb2_3 y2]; rfl
        | 4, _ => rw [hb2_4 y2]; rfl
        | 5, _ => rw [hb2_5 y2]; rfl
        | 6, _ => rw [hb2_6 y2]; rfl
        | 7, _ => rw [hb2_7 y2]; rfl
        | 8, _ => rw [hb2_8 y2]; rfl
        | 9, _ => rw [hb2_9 y2]; rfl
      obtain ⟨Z, hz, hc⟩ := set_many y2 (g := bx + 2) [.int .i64 0, .int .i64 0, .int .i64 0, .int .i64 0, .int .i64 0, .slice none 0 0, .slice none 0 0, .slice none 0 0, .slice none 0 0, .slice none 0 0] hsm (Hup.out y2) (by have := Hbx.out; omega)
      simp only [World.setCells, Nat.reduceAdd] at hz
      rw [hz]
      have hc0 := hc 0 _ rfl
      have hc1 := hc 1 _ rfl
      have hc2 := hc 2 _ rfl
      have hc3 := hc 3 _ rfl
      have hc4 := hc 4 _ rfl
      have hc5 := hc 5 _ rfl
      have hc6 := hc 6 _ rfl
      have hc7 := hc 7 _ rfl
      have hc8 := hc 8 _ rfl
      have hc9 := hc 9 _ rfl
      exact bodyPost_ret (v := .tuple #[.agg #[.int .i64 0, .int .i64 0, .int .i64 0, .int .i64 0, .int .i64 0, .slice none 0 0, .slice none 0 0, .slice none 0 0, .slice none 0 0, .slice none 0 0], .int .i64 1]) (by simp [results, Tryd.results27, go_sem, hc0, hc1, hc2, hc3, hc4, hc5, hc6, hc7, hc8, hc9]) rfl (HP.out Z)
    obtain ⟨hEE, hT2⟩ := HE3.out h1 hea
    have HT2 := Lib.hid hT2
    have hea' := intrel_ne hea
    clear HE2 HE3 hT2 hea
    dsimp only at HR1 HBT Hhx0 Hhx1 Hhx2 HT2 hEE ⊢
    have HA2 := Lib.hid (HA.out y2.w · a1 l c1 (HN.out.to ⟨y2, rfl⟩) (by omega) HR1.out (HW.out.to ⟨y2, rfl⟩))
    clear HA HW HR1 h1
    have k1 := Since.cellTo ⟨y2, rfl⟩ hb1_0
    obtain ⟨q2, hq0⟩ := Since.refl y2.w
    rw [hq0]
    clear hq0
    by_cases hA : addE N l ws = 0
    · rw [hA] at hEE
      have HM2 := Lib.hid (fun z : Since y2.w => show Calls Tryd.prog 51 #[.agg #[.slice an N.length cn], .slice a1 l.length c1, .slice aw ws.length cw] z.w (fun o w' => ∃ (ac : Option Addr) (cc : Nat) (u : Int) (y : Since y2.w), o = .returned (.tuple #[.slice ac l.length cc, .int .i64 u, .int .i64 0]) ∧ w' = y.w ∧ IntRow y.w ac (outL N l ws l.length) ∧ ∀ b, ac = some b → y2.w.heap.size ≤ b.block) from by
        refine (HA2.out z).mono ?_
        intro o w' hm
        unfold AddedF at hm
        rw [if_pos hA] at hm
        obtain ⟨ac, cc, rfl, y, rfl, hr, hf⟩ := hm
        exact ⟨ac, cc, _, y, rfl, rfl, hr, hf⟩)
      clear HA2 hA
      go_upto_region 7 with (go_at_call 51; ((with_reducible refine (HM2.out _).mono ?_); rintro _ _ ⟨ac, cc, u, y3, rfl, rfl, hrc, hfc⟩))
      have HRc := Lib.hid hrc; have HFc := Lib.hid hfc
      clear hrc hfc HM2
      have HBT3 := Lib.hid (HBT.out.since y3)
      have t2 := HBT3.out.c 2 _ rfl
      have tf := HBT3.out.f
      have hgt2 := HBT.out.lt
      obtain ⟨z3, h3⟩ := y2.trans y3
      have H3 := Lib.hid h3
      obtain ⟨z4, h4⟩ := z3.set ⟨gt, 2, none⟩ hgtW (.slice ac l.length cc)
      rw [← h3] at h4
      have HB4 := Lib.hid (show BoxIs z4.w gt [.int .i64 (n : Int), .int .i64 (n : Int), .slice ac l.length cc] from by
        have := HBT3.out.setj (j := 2) (by simp) (.slice ac l.length cc)
        rw [h4] at this
        exact this)
      have HR4 := Lib.hid (show IntRow z4.w ac (outL N l ws l.length) from by
        have := HRc.out.set ⟨gt, 2, none⟩ (.slice ac l.length cc) (fun b hb => by have := HFc.out b hb; show b.block ≠ gt; omega)
        rw [h4] at this
        exact this)
      have H4 := Lib.hid h4
      clear h3 h4 HBT HBT3 HRc
      go_upto_region 10 with fail
      rw [H4.out]
      clear H4 H3 t2 tf k1 hgt2 Hhx0 Hhx1 Hhx2 z3
      have k0 := Since.cellTo ⟨z4, rfl⟩ hb0_0
      have k1 := Since.cellTo ⟨z4, rfl⟩ hb0_1
      have k2 := Since.cellTo ⟨z4, rfl⟩ hb1_0
      have k3 := fun q : Since z4.w => (HB4.out.since q).c 0 _ rfl
      have k4 := fun q : Since z4.w => (HB4.out.since q).c 1 _ rfl
      have k5 := fun q : Since z4.w => (HB4.out.since q).c 2 _ rfl
      have m0 : ∀ j, j < 10 → ∃ v, ∀ q : Since z4.w, q.w.cell? ⟨bx + 2, j, none⟩ = some v := fun j hj => by
        match j, hj with
        | 0, _ => exact ⟨_, Since.cellTo ⟨z4, rfl⟩ hb2_0⟩
        | 1, _ => exact ⟨_, Since.cellTo ⟨z4, rfl⟩ hb2_1⟩
        | 2, _ => exact ⟨_, Since.cellTo ⟨z4, rfl⟩ hb2_2⟩
        | 3, _ => exact ⟨_, Since.cellTo ⟨z4, rfl⟩ hb2_3⟩
        | 4, _ => exact ⟨_, Since.cellTo ⟨z4, rfl⟩ hb2_4⟩
        | 5, _ => exact ⟨_, Since.cellTo ⟨z4, rfl⟩ hb2_5⟩
        | 6, _ => exact ⟨_, Since.cellTo ⟨z4, rfl⟩ hb2_6⟩
        | 7, _ => exact ⟨_, Since.cellTo ⟨z4, rfl⟩ hb2_7⟩
        | 8, _ => exact ⟨_, Since.cellTo ⟨z4, rfl⟩ hb2_8⟩
        | 9, _ => exact ⟨_, Since.cellTo ⟨z4, rfl⟩ hb2_9⟩
      have e0 := Since.cellTo ⟨z4, rfl⟩ hb2_0
      have e1 := Since.cellTo ⟨z4, rfl⟩ hb2_1
      have e2 := Since.cellTo ⟨z4, rfl⟩ hb2_2
      have e3 := Since.cellTo ⟨z4, rfl⟩ hb2_3
      have e4 := Since.cellTo ⟨z4, rfl⟩ hb2_4
      have e5 := Since.cellTo ⟨z4, rfl⟩ hb2_5
      have e6 := Since.cellTo ⟨z4, rfl⟩ hb2_6
      have e7 := Since.cellTo ⟨z4, rfl⟩ hb2_7
      have e8 := Since.cellTo ⟨z4, rfl⟩ hb2_8
      have e9 := Since.cellTo ⟨z4, rfl⟩ hb2_9
      have ef : ∀ (q : Since z4.w) (o : Nat), q.w.frozen? ⟨bx + 2, o, none⟩ = false := fun q o => by obtain ⟨z, hz⟩ := z4.trans q; rw [hz]; exact hf2 z o
      have hUp4 : ∀ q : Since z4.w, IsSince w q.w := fun q => by obtain ⟨z, hz⟩ := z4.trans q; rw [hz]; exact Hup.out z
      have hg2 : w.heap.size ≤ bx + 2 := by have := Hbx.out; omega
      have n0 : bx ≠ bx + 2 := by omega
      have n1 : bx + 1 ≠ bx + 2 := by omega
      have n2 : gt ≠ bx + 2 := by have := Hbx.out; omega
      obtain ⟨z4', hz4'⟩ : ∃ q : Since z4.w, q.w = z4.w.drew := IsSince.drew' (IsSince.self z4.w) |>.elim fun q h => ⟨q, h.symm⟩
      obtain ⟨z6, h6⟩ : ∃ q : Since z4.w, z4'.w.alloc (.cells #[] 3) = q.w := IsSince.alloc (IsSince.of z4') _
      have HO6 := Lib.hid (show z6.w.ownsRow z4.w.heap.size 3 1 (.slice (some ⟨z4'.w.heap.size, 0, none⟩) 0 0) 0 [] from h6 ▸ own_empty (k := 1) (Blk.new z4'.w _) z4'.b.size)
      have HEl := Lib.hid (show Els intCs 1 z6.w an N from els_ints ((HN.out.to ⟨z4, rfl⟩).to ⟨z6, rfl⟩))
      have H6 := Lib.hid h6
      clear h6
      refine wp_region_M (fun w' => w'.cell? ⟨bx, 0, none⟩ = some (.int .i64 f) ∧ w'.cell? ⟨bx, 1, none⟩ = some (.int .i64 t) ∧ w'.cell? ⟨bx + 1, 0, none⟩ = some (.slice an N.length cn) ∧ w'.cell? ⟨gt, 0, none⟩ = some (.int .i64 (n : Int)) ∧ w'.cell? ⟨gt, 1, none⟩ = some (.int .i64 (n : Int)) ∧ w'.cell? ⟨gt, 2, none⟩ = some (.slice ac l.length cc)) 9 (by kernel_rfl) (hz4' ▸ ⟨k0 z4', k1 z4', k2 z4', k3 z4', k4 z4', k5 z4'⟩) (fun hS => ?_)
      rw [← hz4'] at hS ⊢
      clear hz4'
      refine wpAnyM_take (i := 0) (v := ?_) rfl (by kernel_rfl) (by kernel_rfl) (by kernel_rfl) (by kernel_rfl) (fun _ _ _ h => h) hS (Or.inl ⟨by rfl, ?_⟩) ?_
      rotate_left
      · (intro w hSw; (try dsimp only at hSw); go_split_ands; go_simp; try (with_reducible rfl))
      (try simp only [Act.put, List.setIfInBounds_toArray, List.set_cons_zero, List.set_cons_succ])
      refine wpAnyM_take (i := 1) (v := ?_) rfl (by kernel_rfl) (by kernel_rfl) (by kernel_rfl) (by kernel_rfl) (fun _ _ _ h => h) hS (Or.inl ⟨by rfl, ?_⟩) ?_
      rotate_left
      · (intro w hSw; (try dsimp only at hSw); go_split_ands; go_simp; try (with_reducible rfl))
      (try simp only [Act.put, List.setIfInBounds_toArray, List.set_cons_zero, List.set_cons_succ])
      refine wpAnyM_take (i := 2) (v := ?_) rfl (by kernel_rfl) (by kernel_rfl) (by kernel_rfl) (by kernel_rfl) (fun _ _ _ h => h) hS (Or.inl ⟨by rfl, ?_⟩) ?_
      rotate_left
      · (intro w hSw; (try dsimp only at hSw); go_split_ands; go_simp; try (with_reducible rfl))
      (try simp only [Act.put, List.setIfInBounds_toArray, List.set_cons_zero, List.set_cons_succ])
      refine wpAnyM_take (i := 4) (v := ?_) rfl (by kernel_rfl) (by kernel_rfl) (by kernel_rfl) (by kernel_rfl) (fun _ _ _ h => h) hS (Or.inl ⟨by rfl, ?_⟩) ?_
      rotate_left
      · (intro w hSw; (try dsimp only at hSw); go_split_ands; go_simp; try (with_reducible rfl))
      (try simp only [Act.put, List.setIfInBounds_toArray, List.set_cons_zero, List.set_cons_succ])
      refine wpAnyM_take (i := 5) (v := ?_) rfl (by kernel_rfl) (by kernel_rfl) (by kernel_rfl) (by kernel_rfl) (fun _ _ _ h => h) hS (Or.inl ⟨by rfl, ?_⟩) ?_
      rotate_left
      · (intro w hSw; (try dsimp only at hSw); go_split_ands; go_simp; try (with_reducible rfl))
      (try simp only [Act.put, List.setIfInBounds_toArray, List.set_cons_zero, List.set_cons_succ])
      refine wpAnyM_one (i := 3) (by kernel_rfl) rfl (fun K hK => ?_)
      (go_simp; rw [H6.out])
      refine hK.out _ _ (Or.inr (⟨k0 z6, k1 z6, k2 z6, k3 z6, k4 z6, k5 z6⟩)) (fun hS' => ?_)
      replace hS := hS'.resolve_left (by decide)
      clear hK K hS'
      (try simp only [Act.put, List.setIfInBounds_toArray, List.set_cons_zero, List.set_cons_succ])
      refine wpAnyM_one (i := 6) (by kernel_rfl) rfl (fun K hK => ?_)
      (refine step_appEls (w0 := z4.w) (enc := intCs) (k := 1) intCs_len (by decide) intCs_one ⟨z6, rfl⟩ rfl _ _ 22 rfl z4.w.heap.size (Nat.le_refl _) z6.b.size 3 (.int .i64 0) 8 sIntF (.slice (some ⟨z4'.w.heap.size, 0, none⟩) 0 0) 0 [] rfl HO6.out an N cn rfl HEl.out hnz (by unfold maxLen; omega) (by omega) ?_; intro v2 y5 hown2 _; obtain ⟨ad, cd, rfl, hrd, hfd⟩ := ints_own hown2)
      refine hK.out _ _ (Or.inr (⟨k0 y5, k1 y5, k2 y5, k3 y5, k4 y5, k5 y5⟩)) (fun hS' => ?_)
      replace hS := hS'.resolve_left (by decide)
      clear hK K hS'
      (try simp only [Act.put, List.setIfInBounds_toArray, List.set_cons_zero, List.set_cons_succ])
      refine wpAnyM_take (i := 7) (v := ?_) rfl (by kernel_rfl) (by kernel_rfl) (by kernel_rfl) (by kernel_rfl) (fun _ _ _ h => h) hS (Or.inl ⟨by rfl, ?_⟩) ?_
      rotate_left
      · (intro w hSw; (try dsimp only at hSw); go_split_ands; go_simp; try (with_reducible rfl))
      (try simp only [Act.put, List.setIfInBounds_toArray, List.set_cons_zero, List.set_cons_succ])
      refine wpAnyM_take (i := 8) (v := ?_) rfl (by kernel_rfl) (by kernel_rfl) (by kernel_rfl) (by kernel_rfl) (fun _ _ _ h => h) hS (Or.inl ⟨by rfl, ?_⟩) ?_
      rotate_left
      · (intro w hSw; (try dsimp only at hSw); go_split_ands; go_simp; try (with_reducible rfl))
      (try simp only [Act.put, List.setIfInBounds_toArray, List.set_cons_zero, List.set_cons_succ])
      have g0 := e0 y5; have g1 := e1 y5; have g2 := e2 y5; have g3 := e3 y5; have g4 := e4 y5; have g5 := e5 y5; have g6 := e6 y5; have g7 := e7 y5; have g8 := e8 y5; have g9 := e9 y5; have gf := ef y5
      refine wpAnyM_one (i := 9) (by kernel_rfl) rfl (fun K hK => ?_)
      go_simp
      refine hK.out _ _ (Or.inl rfl) (fun _ => ?_)
      clear hK K hS
      (try simp only [Act.put, List.setIfInBounds_toArray, List.set_cons_zero, List.set_cons_succ])
      refine wpAnyM_one (i := 10) (by kernel_rfl) rfl (fun K hK => ?_)
      go_simp
      refine hK.out _ _ (Or.inr ⟨(cell_ten y5.w (bx + 2) _ _ _ _ _ _ _ _ _ _ n0).trans (k0 y5), (cell_ten y5.w (bx + 2) _ _ _ _ _ _ _ _ _ _ n0).trans (k1 y5), (cell_ten y5.w (bx + 2) _ _ _ _ _ _ _ _ _ _ n1).trans (k2 y5), (cell_ten y5.w (bx + 2) _ _ _ _ _ _ _ _ _ _ n2).trans (k3 y5), (cell_ten y5.w (bx + 2) _ _ _ _ _ _ _ _ _ _ n2).trans (k4 y5), (cell_ten y5.w (bx + 2) _ _ _ _ _ _ _ _ _ _ n2).trans (k5 y5)⟩) (fun _ => ?_)
      clear hK K
      (try simp only [Act.put, List.setIfInBounds_toArray, List.set_cons_zero, List.set_cons_succ])
      refine wpAnyM_done (by kernel_rfl) ?_
      obtain ⟨z5, h5⟩ := z4.trans y5
      have hz5 : z4.w.heap.size ≤ y5.w.heap.size := y5.b.size
      have r1 := HR4.out.to ⟨y5, rfl⟩
      have hb1 : ∀ b, ac = some b → b.block ≠ bx + 2 := fun b hb => by have := HFc.out b hb; have := Hbx.out; have := y2.b.size; omega
      have hb2 : ∀ b, ad = some b → b.block ≠ bx + 2 := fun b hb => by have := hfd b hb; have := Hbx.out; have := z4.b.size; omega
      have R1 := row_setMany0 r1 hb1 [.int .i64 f, .int .i64 t, .int .i64 each, .int .i64 (n : Int), .int .i64 (n : Int), .slice ac l.length cc, .slice none 0 0, .slice none 0 0, .slice none 0 0, .slice ad N.length cd]
      have R2 := row_setMany0 hrd hb2 [.int .i64 f, .int .i64 t, .int .i64 each, .int .i64 (n : Int), .int .i64 (n : Int), .slice ac l.length cc, .slice none 0 0, .slice none 0 0, .slice none 0 0, .slice ad N.length cd]
      have hsm : ∀ j, j < 10 → (y5.w.cell? ⟨bx + 2, j, none⟩).isSome = true := fun j hj => by obtain ⟨v, hv⟩ := m0 j hj; rw [hv y5]; rfl
      obtain ⟨Z, hz, hc⟩ := set_many y5 (g := bx + 2) [.int .i64 f, .int .i64 t, .int .i64 each, .int .i64 (n : Int), .int .i64 (n : Int), .slice ac l.length cc, .slice none 0 0, .slice none 0 0, .slice none 0 0, .slice ad N.length cd] hsm (hUp4 y5) hg2
      rw [hz] at R1 R2
      have hX := HT2.out hEE
      have HPZ := Lib.hid (show RelRes w X E (.returned (.tuple #[.agg #[.int .i64 f, .int .i64 t, .int .i64 each, .int .i64 (n : Int), .int .i64 (n : Int), .slice ac l.length cc, .slice none 0 0, .slice none 0 0, .slice none 0 0, .slice ad N.length cd], .int .i64 0])) Z.w from by
        rw [hX, hEE]
        have hw2 : w.heap.size ≤ y2.w.heap.size := by have := Hbx.out; have := y2.b.size; omega
        have hw4 : w.heap.size ≤ z4.w.heap.size := by have := Hbx.out; have := z4.b.size; omega
        refine ⟨ac, none, none, none, ad, cc, 0, 0, 0, cd, Z, by simp [outL_length], rfl, R1, fun i hi => (by cases hi), row_nil' _, row_nil' _, R2, fun b hb => ?_⟩
        rcases hb with h | h | h | h | h
        · exact Nat.le_trans hw2 (HFc.out b h)
        · cases h
        · cases h
        · cases h
        · exact Nat.le_trans hw4 (hfd b h))
      clear hX hEE HT HT2 h5 z5
      go_wp2_with fail
      simp only [World.setCells, Nat.reduceAdd] at hz
      rw [show bx + 1 + 1 = bx + 2 from rfl, hz]
      have hc0 := hc 0 _ rfl; have hc1 := hc 1 _ rfl; have hc2 := hc 2 _ rfl; have hc3 := hc 3 _ rfl; have hc4 := hc 4 _ rfl; have hc5 := hc 5 _ rfl; have hc6 := hc 6 _ rfl; have hc7 := hc 7 _ rfl; have hc8 := hc 8 _ rfl; have hc9 := hc 9 _ rfl
      exact bodyPost_ret (v := .tuple #[.agg #[.int .i64 f, .int .i64 t, .int .i64 each, .int .i64 (n : Int), .int .i64 (n : Int), .slice ac l.length cc, .slice none 0 0, .slice none 0 0, .slice none 0 0, .slice ad N.length cd], .int .i64 0]) (by simp [results, Tryd.results27, go_sem, hc0, hc1, hc2, hc3, hc4, hc5, hc6, hc7, hc8, hc9]) rfl HPZ.out
    · have HM2 := Lib.hid (fun z : Since y2.w => show Calls Tryd.prog 51 #[.agg #[.slice an N.length cn], .slice a1 l.length c1, .slice aw ws.length cw] z.w (fun o w' => o = .returned (.tuple #[.slice none 0 0, .int .i64 0, .int .i64 (addE N l ws)]) ∧ ∃ y : Since y2.w, w' = y.w) from by
        refine (HA2.out z).mono ?_
        intro o w' hm
        unfold AddedF at hm
        rw [if_neg hA] at hm
        exact hm)
      have hX := HT.out (by rw [hEE]; exact hA)
      have HP := Lib.hid (fun y : Since w => show RelRes w X E (.returned (.tuple #[.agg #[.int .i64 0, .int .i64 0, .int .i64 0, .int .i64 0, .int .i64 0, .slice none 0 0, .slice none 0 0, .slice none 0 0, .slice none 0 0, .slice none 0 0], .int .i64 (addE N l ws)])) y.w from by rw [hEE, hX]; exact relres_no y)
      have hA' := intrel_ne hA
      have HT3 := Lib.hid (fun q : Since y2.w => y2.trans q)
      clear HA2 hA hX hEE HT HT2
      generalize addE N l ws = EA at *
      go_upto_region 7 with (go_at_call 51; ((with_reducible refine (HM2.out _).mono ?_); rintro _ _ ⟨rfl, y3, rfl⟩))
      obtain ⟨z3, h3⟩ := HT3.out y3
      rw [h3]
      clear h3
      go_wp2_with fail
      have hsm : ∀ j, j < 10 → (z3.w.cell? ⟨bx + 2, j, none⟩).isSome = true := fun j hj => by
        match j, hj with
        | 0, _ => rw [hb2_0 z3]; rfl
        | 1, _ => rw [hb2_1 z3]; rfl
        | 2, _ => rw [hb2_2 z3]; rfl
        | 3, _ => rw [hb2_3 z3]; rfl
        | 4, _ => rw [hb2_4 z3]; rfl
        | 5, _ => rw [hb2_5 z3]; rfl
        | 6, _ => rw [hb2_6 z3]; rfl
        | 7, _ => rw [hb2_7 z3]; rfl
        | 8, _ => rw [hb2_8 z3]; rfl
        | 9, _ => rw [hb2_9 z3]; rfl
      obtain ⟨Z, hz, hc⟩ := set_many z3 (g := bx + 2) [.int .i64 0, .int .i64 0, .int .i64 0, .int .i64 0, .int .i64 0, .slice none 0 0, .slice none 0 0, .slice none 0 0, .slice none 0 0, .slice none 0 0] hsm (Hup.out z3) (by have := Hbx.out; omega)
      simp only [World.setCells, Nat.reduceAdd] at hz
      rw [hz]
      have hc0 := hc 0 _ rfl
      have hc1 := hc 1 _ rfl
      have hc2 := hc 2 _ rfl
      have hc3 := hc 3 _ rfl
      have hc4 := hc 4 _ rfl
      have hc5 := hc 5 _ rfl
      have hc6 := hc 6 _ rfl
      have hc7 := hc 7 _ rfl
      have hc8 := hc 8 _ rfl
      have hc9 := hc 9 _ rfl
      exact bodyPost_ret (v := .tuple #[.agg #[.int .i64 0, .int .i64 0, .int .i64 0, .int .i64 0, .int .i64 0, .slice none 0 0, .slice none 0 0, .slice none 0 0, .slice none 0 0, .slice none 0 0], .int .i64 EA]) (by simp [results, Tryd.results27, go_sem, hc0, hc1, hc2, hc3, hc4, hc5, hc6, hc7, hc8, hc9]) rfl (HP.out Z)
  · have hE : E = E2 := HE1.out h1
    have hX : X = rel0 := HT.out (by rw [hE]; exact h1)
    have HP := Lib.hid (fun y : Since w => show RelRes w X E (.returned (.tuple #[.agg #[.int .i64 0, .int .i64 0, .int .i64 0, .int .i64 0, .int .i64 0, .slice none 0 0, .slice none 0 0, .slice none 0 0, .slice none 0 0, .slice none 0 0], .int .i64 E2])) y.w from by rw [hE, hX]; exact relres_no y)
    clear hE hX HE1 HE2 HE3 HT HG HA
    go_wp2_with fail
    have hsm : ∀ j, j < 10 → (y2.w.cell? ⟨bx + 2, j, none⟩).isSome = true := fun j hj => by
      match j, hj with
      | 0, _ => rw [hb2_0 y2]; rfl
      | 1, _ => rw [hb2_1 y2]; rfl
      | 2, _ => rw [hb2_2 y2]; rfl
      | 3, _ => rw [hb2_3 y2]; rfl
      | 4, _ => rw [hb2_4 y2]; rfl
      | 5, _ => rw [hb2_5 y2]; rfl
      | 6, _ => rw [hb2_6 y2]; rfl
      | 7, _ => rw [hb2_7 y2]; rfl
      | 8, _ => rw [hb2_8 y2]; rfl
      | 9, _ => rw [hb2_9 y2]; rfl
    obtain ⟨Z, hz, hc⟩ := set_many y2 (g := bx + 2) [.int .i64 0, .int .i64 0, .int .i64 0, .int .i64 0, .int .i64 0, .slice none 0 0, .slice none 0 0, .slice none 0 0, .slice none 0 0, .slice none 0 0] hsm (Hup.out y2) (by have := Hbx.out; omega)
    simp only [World.setCells, Nat.reduceAdd] at hz
    rw [hz]
    have hc0 := hc 0 _ rfl
    have hc1 := hc 1 _ rfl
    have hc2 := hc 2 _ rfl
    have hc3 := hc 3 _ rfl
    have hc4 := hc 4 _ rfl
    have hc5 := hc 5 _ rfl
    have hc6 := hc 6 _ rfl
    have hc7 := hc 7 _ rfl
    have hc8 := hc 8 _ rfl
    have hc9 := hc 9 _ rfl
    exact bodyPost_ret (v := .tuple #[.agg #[.int .i64 0, .int .i64 0, .int .i64 0, .int .i64 0, .int .i64 0, .slice none 0 0, .slice none 0 0, .slice none 0 0, .slice none 0 0, .slice none 0 0], .int .i64 E2]) (by simp [results, Tryd.results27, go_sem, hc0, hc1, hc2, hc3, hc4, hc5, hc6, hc7, hc8, hc9]) rfl (HP.out Z)
end Go.Proofs.YtdkcclngionihaaDoor
/- The law ReleaseDisturbs, walked. Written by mkk6.py. -/
namespace Go.Proofs.YtdkcclngionihaaDoor
open Go.RowKit

theorem ny_len {zs : List Int} {size : Int} {R : List Ride} {f t each : Int} {N ws : List Int} (hl : R.length ≤ 1024) (hN : N.length ≤ 9223372036854775807) : RelLen (nyR zs size R f t each N ws) := by
  unfold nyR
  split
  · rename_i h
    have h2 : rlE zs size R f t each = 0 := by
      unfold nyE at h
      by_cases h0 : rlE zs size R f t each = 0
      · exact h0
      · rw [if_pos h0] at h; exact absurd h h0
    obtain ⟨n, l, _, hT, hG⟩ := rl_good h2 hl
    have := hG.len
    refine ⟨?_, by simp, by simp, by simp, hN⟩
    rw [hT]; simp [outL_length]; omega
  · unfold rel0; refine ⟨?_, ?_, ?_, ?_, ?_⟩ <;> simp
set_option linter.unusedSimpArgs false in
set_option maxRecDepth 100000 in
set_option maxHeartbeats 32000000 in
theorem releaseDisturbs_calls (w : World) (x : Since w) (hs : Signs w) (q : Cas) (an aw : Option Addr) (N ws : List Int) (cn cw : Nat) (h : q.At w)
    (hn : IntRow w an N) (hnc : N.length ≤ cn) (hnz : an = none → cn = 0) (hnl : N.length ≤ 9223372036854775807) (hw : Row w aw ws.length fun i => .int .u64 (at0 ws i)) (hwc : ws.length ≤ cw) (hwl : ws.length ≤ 9223372036854775807) (hwr : ∀ i, 0 ≤ at0 ws i ∧ at0 ws i < 18446744073709551616) :
    Calls Tryd.prog 8 #[.agg #[.slice q.az q.zs.length q.cz, .int .i64 q.n, .slice q.a q.R.length q.c, .int .i64 q.f, .int .i64 q.t, .int .i64 q.e], .agg #[.slice an N.length cn], .slice aw ws.length cw] x.w fun o w' => o = .returned (.bool true) ∧ ∃ y : Since w, w' = y.w := by
  have H := Lib.hid h; have HY := Lib.hid hs; have HN := Lib.hid hn; have HW := Lib.hid hw
  have HF := Lib.hid (fun (W : World) (y : Since W) h => few56_calls W y q h)
  have HFw := Lib.hid (show fewQ q = true → q.R.length ≤ 30 from fun h => by
    unfold fewQ at h
    rw [Bool.and_eq_true, decide_eq_true_eq] at h
    exact h.1.1)
  generalize fewQ q = FQ at *
  obtain ⟨az, zs, cz, n, e, a, R, c, f, t⟩ := q
  dsimp only at H HF HFw ⊢
  clear h hs hn hw
  go_enter Tryd.func8, Tryd.ntmps8
  go_upto_region 1 with fail
  have hb0_0 : ∀ y : Since ((x.w.alloc (.cells #[.slice az zs.length cz, .int .i64 n, .slice a R.length c, .int .i64 f, .int .i64 t, .int .i64 e] 27)).alloc (.cells #[.slice an N.length cn] 34)), y.w.cell? ⟨x.w.heap.size, 0, none⟩ = some (.slice az zs.length cz) := fun y => Since.cell (by simp [go_sem]) (by first | (simp; done) | (simp; omega)) y
  have hb0_1 : ∀ y : Since ((x.w.alloc (.cells #[.slice az zs.length cz, .int .i64 n, .slice a R.length c, .int .i64 f, .int .i64 t, .int .i64 e] 27)).alloc (.cells #[.slice an N.length cn] 34)), y.w.cell? ⟨x.w.heap.size, 1, none⟩ = some (.int .i64 n) := fun y => Since.cell (by simp [go_sem]) (by first | (simp; done) | (simp; omega)) y
  have hb0_2 : ∀ y : Since ((x.w.alloc (.cells #[.slice az zs.length cz, .int .i64 n, .slice a R.length c, .int .i64 f, .int .i64 t, .int .i64 e] 27)).alloc (.cells #[.slice an N.length cn] 34)), y.w.cell? ⟨x.w.heap.size, 2, none⟩ = some (.slice a R.length c) := fun y => Since.cell (by simp [go_sem]) (by first | (simp; done) | (simp; omega)) y
  have hb0_3 : ∀ y : Since ((x.w.alloc (.cells #[.slice az zs.length cz, .int .i64 n, .slice a R.length c, .int .i64 f, .int .i64 t, .int .i64 e] 27)).alloc (.cells #[.slice an N.length cn] 34)), y.w.cell? ⟨x.w.heap.size, 3, none⟩ = some (.int .i64 f) := fun y => Since.cell (by simp [go_sem]) (by first | (simp; done) | (simp; omega)) y
  have hb0_4 : ∀ y : Since ((x.w.alloc (.cells #[.slice az zs.length cz, .int .i64 n, .slice a R.length c, .int .i64 f, .int .i64 t, .int .i64 e] 27)).alloc (.cells #[.slice an N.length cn] 34)), y.w.cell? ⟨x.w.heap.size, 4, none⟩ = some (.int .i64 t) := fun y => Since.cell (by simp [go_sem]) (by first | (simp; done) | (simp; omega)) y
  have hb0_5 : ∀ y : Since ((x.w.alloc (.cells #[.slice az zs.length cz, .int .i64 n, .slice a R.length c, .int .i64 f, .int .i64 t, .int .i64 e] 27)).alloc (.cells #[.slice an N.length cn] 34)), y.w.cell? ⟨x.w.heap.size, 5, none⟩ = some (.int .i64 e) := fun y => Since.cell (by simp [go_sem]) (by first | (simp; done) | (simp; omega)) y
  have hf0 : ∀ (y : Since ((x.w.alloc (.cells #[.slice az zs.length cz, .int .i64 n, .slice a R.length c, .int .i64 f, .int .i64 t, .int .i64 e] 27)).alloc (.cells #[.slice an N.length cn] 34))) (o : Nat), y.w.frozen? ⟨x.w.heap.size, o, none⟩ = false := fun y o => Since.free (by simp [go_sem]) (by first | (simp; done) | (simp; omega)) y
  have hb1_0 : ∀ y : Since ((x.w.alloc (.cells #[.slice az zs.length cz, .int .i64 n, .slice a R.length c, .int .i64 f, .int .i64 t, .int .i64 e] 27)).alloc (.cells #[.slice an N.length cn] 34)), y.w.cell? ⟨x.w.heap.size + 1, 0, none⟩ = some (.slice an N.length cn) := fun y => Since.cell (by simp [go_sem]) (by first | (simp; done) | (simp; omega)) y
  have hf1 : ∀ (y : Since ((x.w.alloc (.cells #[.slice az zs.length cz, .int .i64 n, .slice a R.length c, .int .i64 f, .int .i64 t, .int .i64 e] 27)).alloc (.cells #[.slice an N.length cn] 34))) (o : Nat), y.w.frozen? ⟨x.w.heap.size + 1, o, none⟩ = false := fun y o => Since.free (by simp [go_sem]) (by first | (simp; done) | (simp; omega)) y
  have hWup : ∃ z : Since w, ((x.w.alloc (.cells #[.slice az zs.length cz, .int .i64 n, .slice a R.length c, .int .i64 f, .int .i64 t, .int .i64 e] 27)).alloc (.cells #[.slice an N.length cn] 34)) = z.w := Since.allocs x [.cells #[.slice az zs.length cz, .int .i64 n, .slice a R.length c, .int .i64 f, .int .i64 t, .int .i64 e] 27, .cells #[.slice an N.length cn] 34]
  obtain ⟨y0, hy0⟩ := Since.refl ((x.w.alloc (.cells #[.slice az zs.length cz, .int .i64 n, .slice a R.length c, .int .i64 f, .int .i64 t, .int .i64 e] 27)).alloc (.cells #[.slice an N.length cn] 34))
  have Hbx := Lib.hid (And.intro x.b.size (show x.w.heap.size + 2 = ((x.w.alloc (.cells #[.slice az zs.length cz, .int .i64 n, .slice a R.length c, .int .i64 f, .int .i64 t, .int .i64 e] 27)).alloc (.cells #[.slice an N.length cn] 34)).heap.size from by simp))
  generalize hW : ((x.w.alloc (.cells #[.slice az zs.length cz, .int .i64 n, .slice a R.length c, .int .i64 f, .int .i64 t, .int .i64 e] 27)).alloc (.cells #[.slice an N.length cn] 34)) = W at *
  clear hW
  generalize x.w.heap.size = bx at *
  have Hup := Lib.hid (Since.up hWup)
  rw [hy0]
  clear hy0
  have HAw := Lib.hid (fun z : Since W => awake_calls W z (HY.out.to hWup))
  have HSg := Lib.hid (HY.out.to hWup)
  have HF1 := Lib.hid (fun z : Since W => HF.out W z (H.out.to hWup))
  have HQ := Lib.hid (show Cas.At W ⟨az, zs, cz, n, e, a, R, c, f, t⟩ from H.out.to hWup)
  replace HN := Lib.hid (HN.out.to hWup)
  replace HW := Lib.hid (HW.out.to hWup)
  clear H HF HY hWup hf0 hf1
  cases FQ with
  | false =>
    clear HFw
    go_wp2_with (first | (go_at_call 10; ((with_reducible refine (HF1.out _).mono ?_); rintro _ _ ⟨rfl, z, rfl⟩)) | (go_at_call 11; ((with_reducible refine (HAw.out _).mono ?_); rintro _ _ ⟨rfl, yw, rfl⟩)))
    go_ret
    exact ⟨rfl, Hup.out _⟩
  | true =>
    have hR30 := HFw.out rfl
    clear HFw
    by_cases hn40 : N.length ≤ 40
    case neg =>
      have d1 : (40 : Int) < (N.length : Int) := by omega
      clear hn40
      go_wp2_with (first | (go_at_call 10; ((with_reducible refine (HF1.out _).mono ?_); rintro _ _ ⟨rfl, z, rfl⟩)) | (go_at_call 11; ((with_reducible refine (HAw.out _).mono ?_); rintro _ _ ⟨rfl, yw, rfl⟩)))
      go_ret
      exact ⟨rfl, Hup.out _⟩
    case pos =>
    by_cases hw200 : ws.length ≤ 200
    case neg =>
      have d1 : ¬ (40 : Int) < (N.length : Int) := by omega
      have d2 : (200 : Int) < (ws.length : Int) := by omega
      clear hn40 hw200
      go_wp2_with (first | (go_at_call 10; ((with_reducible refine (HF1.out _).mono ?_); rintro _ _ ⟨rfl, z, rfl⟩)) | (go_at_call 11; ((with_reducible refine (HAw.out _).mono ?_); rintro _ _ ⟨rfl, yw, rfl⟩)))
      go_ret
      exact ⟨rfl, Hup.out _⟩
    case pos =>
    have d1 : ¬ (40 : Int) < (N.length : Int) := by omega
    have d2 : ¬ (200 : Int) < (ws.length : Int) := by omega
    go_upto_region 3 with (go_at_call 10; ((with_reducible refine (HF1.out _).mono ?_); rintro _ _ ⟨rfl, z, rfl⟩))
    clear HF1 d1 d2
    have HLn := Lib.hid (ny_len (zs := zs) (size := n) (R := R) (f := f) (t := t) (each := e) (N := N) (ws := ws) (by omega) hnl)
    have HX := Lib.hid (fun z : Since W => noisy_calls W z HSg.out az zs cz n a R c f t e an aw N ws cn cw HQ.out.z HQ.out.zl HQ.out.r (by omega) HQ.out.i HN.out hnc (by omega) HW.out hwc hwl hwr)
    have HX2 := Lib.hid (fun (u : Since W) (z : Since u.w) => rnoisy_calls u.w z az zs cz n a R c f t e an aw N ws cn cw (HQ.out.z.to ⟨u, rfl⟩) HQ.out.zl (HQ.out.r.to ⟨u, rfl⟩) (by omega) HQ.out.i (HN.out.to ⟨u, rfl⟩) hnz (by omega) (HW.out.to ⟨u, rfl⟩) hwc hwl hwr)
    generalize nyE zs n R f t e N ws = E at *
    generalize nyR zs n R f t e N ws = X at *
    clear HQ HN HW hwr hwl hwc hnc hnz
    go_upto_region 4 with (go_at_call 26; ((with_reducible refine (HX.out _).mono ?_); rintro _ _ ⟨a1, a2, a3, a4, a5, c1, c2, c3, c4, c5, y1, rfl, rfl, r1, r2, r3, r4, r5, -⟩))
    have HRA := Lib.hid (show RelRows y1.w X a1 a2 a3 a4 a5 from ⟨r1, r2, r3, r4, r5⟩)
    clear r1 r2 r3 r4 r5 HX
    have hx0 : (y1.w.alloc (.cells #[.int .i64 X.f, .int .i64 X.t, .int .i64 X.each, .int .i64 X.r, .int .i64 X.c, .slice a1 X.cells.length c1, .slice a2 X.hid.length c2, .slice a3 X.rows.length c3, .slice a4 X.cols.length c4, .slice a5 X.ws.length c5] 36)).cell? ⟨y1.w.heap.size, 0, none⟩ = some (.int .i64 X.f) := by simp [go_sem]
    have hx1 : (y1.w.alloc (.cells #[.int .i64 X.f, .int .i64 X.t, .int .i64 X.each, .int .i64 X.r, .int .i64 X.c, .slice a1 X.cells.length c1, .slice a2 X.hid.length c2, .slice a3 X.rows.length c3, .slice a4 X.cols.length c4, .slice a5 X.ws.length c5] 36)).cell? ⟨y1.w.heap.size, 1, none⟩ = some (.int .i64 X.t) := by simp [go_sem]
    have hx2 : (y1.w.alloc (.cells #[.int .i64 X.f, .int .i64 X.t, .int .i64 X.each, .int .i64 X.r, .int .i64 X.c, .slice a1 X.cells.length c1, .slice a2 X.hid.length c2, .slice a3 X.rows.length c3, .slice a4 X.cols.length c4, .slice a5 X.ws.length c5] 36)).cell? ⟨y1.w.heap.size, 2, none⟩ = some (.int .i64 X.each) := by simp [go_sem]
    have hx3 : (y1.w.alloc (.cells #[.int .i64 X.f, .int .i64 X.t, .int .i64 X.each, .int .i64 X.r, .int .i64 X.c, .slice a1 X.cells.length c1, .slice a2 X.hid.length c2, .slice a3 X.rows.length c3, .slice a4 X.cols.length c4, .slice a5 X.ws.length c5] 36)).cell? ⟨y1.w.heap.size, 3, none⟩ = some (.int .i64 X.r) := by simp [go_sem]
    have hx4 : (y1.w.alloc (.cells #[.int .i64 X.f, .int .i64 X.t, .int .i64 X.each, .int .i64 X.r, .int .i64 X.c, .slice a1 X.cells.length c1, .slice a2 X.hid.length c2, .slice a3 X.rows.length c3, .slice a4 X.cols.length c4, .slice a5 X.ws.length c5] 36)).cell? ⟨y1.w.heap.size, 4, none⟩ = some (.int .i64 X.c) := by simp [go_sem]
    have hx5 : (y1.w.alloc (.cells #[.int .i64 X.f, .int .i64 X.t, .int .i64 X.each, .int .i64 X.r, .int .i64 X.c, .slice a1 X.cells.length c1, .slice a2 X.hid.length c2, .slice a3 X.rows.length c3, .slice a4 X.cols.length c4, .slice a5 X.ws.length c5] 36)).cell? ⟨y1.w.heap.size, 5, none⟩ = some (.slice a1 X.cells.length c1) := by simp [go_sem]
    have hx6 : (y1.w.alloc (.cells #[.int .i64 X.f, .int .i64 X.t, .int .i64 X.each, .int .i64 X.r, .int .i64 X.c, .slice a1 X.cells.length c1, .slice a2 X.hid.length c2, .slice a3 X.rows.length c3, .slice a4 X.cols.length c4, .slice a5 X.ws.length c5] 36)).cell? ⟨y1.w.heap.size, 6, none⟩ = some (.slice a2 X.hid.length c2) := by simp [go_sem]
    have hx7 : (y1.w.alloc (.cells #[.int .i64 X.f, .int .i64 X.t, .int .i64 X.each, .int .i64 X.r, .int .i64 X.c, .slice a1 X.cells.length c1, .slice a2 X.hid.length c2, .slice a3 X.rows.length c3, .slice a4 X.cols.length c4, .slice a5 X.ws.length c5] 36)).cell? ⟨y1.w.heap.size, 7, none⟩ = some (.slice a3 X.rows.length c3) := by simp [go_sem]
    have hx8 : (y1.w.alloc (.cells #[.int .i64 X.f, .int .i64 X.t, .int .i64 X.each, .int .i64 X.r, .int .i64 X.c, .slice a1 X.cells.length c1, .slice a2 X.hid.length c2, .slice a3 X.rows.length c3, .slice a4 X.cols.length c4, .slice a5 X.ws.length c5] 36)).cell? ⟨y1.w.heap.size, 8, none⟩ = some (.slice a4 X.cols.length c4) := by simp [go_sem]
    have hx9 : (y1.w.alloc (.cells #[.int .i64 X.f, .int .i64 X.t, .int .i64 X.each, .int .i64 X.r, .int .i64 X.c, .slice a1 X.cells.length c1, .slice a2 X.hid.length c2, .slice a3 X.rows.length c3, .slice a4 X.cols.length c4, .slice a5 X.ws.length c5] 36)).cell? ⟨y1.w.heap.size, 9, none⟩ = some (.slice a5 X.ws.length c5) := by simp [go_sem]
    have hxf : ∀ o, (y1.w.alloc (.cells #[.int .i64 X.f, .int .i64 X.t, .int .i64 X.each, .int .i64 X.r, .int .i64 X.c, .slice a1 X.cells.length c1, .slice a2 X.hid.length c2, .slice a3 X.rows.length c3, .slice a4 X.cols.length c4, .slice a5 X.ws.length c5] 36)).frozen? ⟨y1.w.heap.size, o, none⟩ = false := fun o => by simp [go_sem]
    have hlt0 : y1.w.heap.size < (y1.w.alloc (.cells #[.int .i64 X.f, .int .i64 X.t, .int .i64 X.each, .int .i64 X.r, .int .i64 X.c, .slice a1 X.cells.length c1, .slice a2 X.hid.length c2, .slice a3 X.rows.length c3, .slice a4 X.cols.length c4, .slice a5 X.ws.length c5] 36)).heap.size := by simp
    have hst0 : ∃ zz : Since y1.w, (y1.w.alloc (.cells #[.int .i64 X.f, .int .i64 X.t, .int .i64 X.each, .int .i64 X.r, .int .i64 X.c, .slice a1 X.cells.length c1, .slice a2 X.hid.length c2, .slice a3 X.rows.length c3, .slice a4 X.cols.length c4, .slice a5 X.ws.length c5] 36)) = zz.w := IsSince.alloc (IsSince.self _) _
    have hsz0 := y1.b.size
    obtain ⟨y2, e2⟩ := IsSince.alloc (IsSince.of y1) (.cells #[.int .i64 X.f, .int .i64 X.t, .int .i64 X.each, .int .i64 X.r, .int .i64 X.c, .slice a1 X.cells.length c1, .slice a2 X.hid.length c2, .slice a3 X.rows.length c3, .slice a4 X.cols.length c4, .slice a5 X.ws.length c5] 36)
    rw [e2] at hx0 hx1 hx2 hx3 hx4 hx5 hx6 hx7 hx8 hx9 hxf hlt0 hst0 ⊢
    (replace HRA := Lib.hid (HRA.out.to hst0))
    clear e2 hst0
    generalize y1.w.heap.size = gx at *
    have Hhx0 : ∀ q : Since y2.w, q.w.cell? ⟨gx, 0, none⟩ = some (.int .i64 X.f) := fun q => Since.cell hx0 (by omega) q
    have Hhx1 : ∀ q : Since y2.w, q.w.cell? ⟨gx, 1, none⟩ = some (.int .i64 X.t) := fun q => Since.cell hx1 (by omega) q
    have Hhx2 : ∀ q : Since y2.w, q.w.cell? ⟨gx, 2, none⟩ = some (.int .i64 X.each) := fun q => Since.cell hx2 (by omega) q
    have Hhx3 : ∀ q : Since y2.w, q.w.cell? ⟨gx, 3, none⟩ = some (.int .i64 X.r) := fun q => Since.cell hx3 (by omega) q
    have Hhx4 : ∀ q : Since y2.w, q.w.cell? ⟨gx, 4, none⟩ = some (.int .i64 X.c) := fun q => Since.cell hx4 (by omega) q
    have Hhx5 : ∀ q : Since y2.w, q.w.cell? ⟨gx, 5, none⟩ = some (.slice a1 X.cells.length c1) := fun q => Since.cell hx5 (by omega) q
    have Hhx6 : ∀ q : Since y2.w, q.w.cell? ⟨gx, 6, none⟩ = some (.slice a2 X.hid.length c2) := fun q => Since.cell hx6 (by omega) q
    have Hhx7 : ∀ q : Since y2.w, q.w.cell? ⟨gx, 7, none⟩ = some (.slice a3 X.rows.length c3) := fun q => Since.cell hx7 (by omega) q
    have Hhx8 : ∀ q : Since y2.w, q.w.cell? ⟨gx, 8, none⟩ = some (.slice a4 X.cols.length c4) := fun q => Since.cell hx8 (by omega) q
    have Hhx9 : ∀ q : Since y2.w, q.w.cell? ⟨gx, 9, none⟩ = some (.slice a5 X.ws.length c5) := fun q => Since.cell hx9 (by omega) q
    have Hhxf : ∀ (q : Since y2.w) (o : Nat), q.w.frozen? ⟨gx, o, none⟩ = false := fun q o => Since.free (hxf o) (by omega) q
    have Hhxg := Lib.hid (And.intro hsz0 hlt0)
    clear hlt0 hsz0
    clear hx0 hx1 hx2 hx3 hx4 hx5 hx6 hx7 hx8 hx9 hxf Hhxf Hhxg
    have HXB := Lib.hid (fun z : Since y2.w => HX2.out y2 z)
    have HS2 := Lib.hid (HSg.out.to ⟨y2, rfl⟩)
    have HU2 := Lib.hid (fun q : Since y2.w => show ∃ z : Since w, q.w = z.w from by
      obtain ⟨z1, e1⟩ := y2.trans q
      rw [e1]; exact Hup.out z1)
    clear HX2 HSg HAw Hup
    replace hb0_0 := Since.cellTo ⟨y2, rfl⟩ hb0_0
    replace hb0_1 := Since.cellTo ⟨y2, rfl⟩ hb0_1
    replace hb0_2 := Since.cellTo ⟨y2, rfl⟩ hb0_2
    replace hb0_3 := Since.cellTo ⟨y2, rfl⟩ hb0_3
    replace hb0_4 := Since.cellTo ⟨y2, rfl⟩ hb0_4
    replace hb0_5 := Since.cellTo ⟨y2, rfl⟩ hb0_5
    replace hb1_0 := Since.cellTo ⟨y2, rfl⟩ hb1_0
    obtain ⟨q2, hq0⟩ := Since.refl y2.w
    rw [hq0]
    clear hq0
    go_upto_region 5 with (go_at_call 27; ((with_reducible refine (HXB.out _).mono ?_); rintro _ _ ⟨b1, b2, b3, b4, b5, d1, d2, d3, d4, d5, y3, rfl, rfl, r1, r2, r3, r4, r5, -⟩))
    have HRB := Lib.hid (show RelRows y3.w X b1 b2 b3 b4 b5 from ⟨r1, r2, r3, r4, r5⟩)
    clear r1 r2 r3 r4 r5 HXB
    have hz0 : (y3.w.alloc (.cells #[.int .i64 X.f, .int .i64 X.t, .int .i64 X.each, .int .i64 X.r, .int .i64 X.c, .slice b1 X.cells.length d1, .slice b2 X.hid.length d2, .slice b3 X.rows.length d3, .slice b4 X.cols.length d4, .slice b5 X.ws.length d5] 36)).cell? ⟨y3.w.heap.size, 0, none⟩ = some (.int .i64 X.f) := by simp [go_sem]
    have hz1 : (y3.w.alloc (.cells #[.int .i64 X.f, .int .i64 X.t, .int .i64 X.each, .int .i64 X.r, .int .i64 X.c, .slice b1 X.cells.length d1, .slice b2 X.hid.length d2, .slice b3 X.rows.length d3, .slice b4 X.cols.length d4, .slice b5 X.ws.length d5] 36)).cell? ⟨y3.w.heap.size, 1, none⟩ = some (.int .i64 X.t) := by simp [go_sem]
    have hz2 : (y3.w.alloc (.cells #[.int .i64 X.f, .int .i64 X.t, .int .i64 X.each, .int .i64 X.r, .int .i64 X.c, .slice b1 X.cells.length d1, .slice b2 X.hid.length d2, .slice b3 X.rows.length d3, .slice b4 X.cols.length d4, .slice b5 X.ws.length d5] 36)).cell? ⟨y3.w.heap.size, 2, none⟩ = some (.int .i64 X.each) := by simp [go_sem]
    have hz3 : (y3.w.alloc (.cells #[.int .i64 X.f, .int .i64 X.t, .int .i64 X.each, .int .i64 X.r, .int .i64 X.c, .slice b1 X.cells.length d1, .slice b2 X.hid.length d2, .slice b3 X.rows.length d3, .slice b4 X.cols.length d4, .slice b5 X.ws.length d5] 36)).cell? ⟨y3.w.heap.size, 3, none⟩ = some (.int .i64 X.r) := by simp [go_sem]
    have hz4 : (y3.w.alloc (.cells #[.int .i64 X.f, .int .i64 X.t, .int .i64 X.each, .int .i64 X.r, .int .i64 X.c, .slice b1 X.cells.length d1, .slice b2 X.hid.length d2, .slice b3 X.rows.length d3, .slice b4 X.cols.length d4, .slice b5 X.ws.length d5] 36)).cell? ⟨y3.w.heap.size, 4, none⟩ = some (.int .i64 X.c) := by simp [go_sem]
    have hz5 : (y3.w.alloc (.cells #[.int .i64 X.f, .int .i64 X.t, .int .i64 X.each, .int .i64 X.r, .int .i64 X.c, .slice b1 X.cells.length d1, .slice b2 X.hid.length d2, .slice b3 X.rows.length d3, .slice b4 X.cols.length d4, .slice b5 X.ws.length d5] 36)).cell? ⟨y3.w.heap.size, 5, none⟩ = some (.slice b1 X.cells.length d1) := by simp [go_sem]
    have hz6 : (y3.w.alloc (.cells #[.int .i64 X.f, .int .i64 X.t, .int .i64 X.each, .int .i64 X.r, .int .i64 X.c, .slice b1 X.cells.length d1, .slice b2 X.hid.length d2, .slice b3 X.rows.length d3, .slice b4 X.cols.length d4, .slice b5 X.ws.length d5] 36)).cell? ⟨y3.w.heap.size, 6, none⟩ = some (.slice b2 X.hid.length d2) := by simp [go_sem]
    have hz7 : (y3.w.alloc (.cells #[.int .i64 X.f, .int .i64 X.t, .int .i64 X.each, .int .i64 X.r, .int .i64 X.c, .slice b1 X.cells.length d1, .slice b2 X.hid.length d2, .slice b3 X.rows.length d3, .slice b4 X.cols.length d4, .slice b5 X.ws.length d5] 36)).cell? ⟨y3.w.heap.size, 7, none⟩ = some (.slice b3 X.rows.length d3) := by simp [go_sem]
    have hz8 : (y3.w.alloc (.cells #[.int .i64 X.f, .int .i64 X.t, .int .i64 X.each, .int .i64 X.r, .int .i64 X.c, .slice b1 X.cells.length d1, .slice b2 X.hid.length d2, .slice b3 X.rows.length d3, .slice b4 X.cols.length d4, .slice b5 X.ws.length d5] 36)).cell? ⟨y3.w.heap.size, 8, none⟩ = some (.slice b4 X.cols.length d4) := by simp [go_sem]
    have hz9 : (y3.w.alloc (.cells #[.int .i64 X.f, .int .i64 X.t, .int .i64 X.each, .int .i64 X.r, .int .i64 X.c, .slice b1 X.cells.length d1, .slice b2 X.hid.length d2, .slice b3 X.rows.length d3, .slice b4 X.cols.length d4, .slice b5 X.ws.length d5] 36)).cell? ⟨y3.w.heap.size, 9, none⟩ = some (.slice b5 X.ws.length d5) := by simp [go_sem]
    have hzf : ∀ o, (y3.w.alloc (.cells #[.int .i64 X.f, .int .i64 X.t, .int .i64 X.each, .int .i64 X.r, .int .i64 X.c, .slice b1 X.cells.length d1, .slice b2 X.hid.length d2, .slice b3 X.rows.length d3, .slice b4 X.cols.length d4, .slice b5 X.ws.length d5] 36)).frozen? ⟨y3.w.heap.size, o, none⟩ = false := fun o => by simp [go_sem]
    have hlt0 : y3.w.heap.size < (y3.w.alloc (.cells #[.int .i64 X.f, .int .i64 X.t, .int .i64 X.each, .int .i64 X.r, .int .i64 X.c, .slice b1 X.cells.length d1, .slice b2 X.hid.length d2, .slice b3 X.rows.length d3, .slice b4 X.cols.length d4, .slice b5 X.ws.length d5] 36)).heap.size := by simp
    have hst0 : ∃ zz : Since y3.w, (y3.w.alloc (.cells #[.int .i64 X.f, .int .i64 X.t, .int .i64 X.each, .int .i64 X.r, .int .i64 X.c, .slice b1 X.cells.length d1, .slice b2 X.hid.length d2, .slice b3 X.rows.length d3, .slice b4 X.cols.length d4, .slice b5 X.ws.length d5] 36)) = zz.w := IsSince.alloc (IsSince.self _) _
    have hsz0 := y3.b.size
    obtain ⟨y4, e2⟩ := IsSince.alloc (IsSince.of y3) (.cells #[.int .i64 X.f, .int .i64 X.t, .int .i64 X.each, .int .i64 X.r, .int .i64 X.c, .slice b1 X.cells.length d1, .slice b2 X.hid.length d2, .slice b3 X.rows.length d3, .slice b4 X.cols.length d4, .slice b5 X.ws.length d5] 36)
    rw [e2] at hz0 hz1 hz2 hz3 hz4 hz5 hz6 hz7 hz8 hz9 hzf hlt0 hst0 ⊢
    (replace HRB := Lib.hid (HRB.out.to hst0))
    clear e2 hst0
    generalize y3.w.heap.size = gy at *
    have Hhz0 : ∀ q : Since y4.w, q.w.cell? ⟨gy, 0, none⟩ = some (.int .i64 X.f) := fun q => Since.cell hz0 (by omega) q
    have Hhz1 : ∀ q : Since y4.w, q.w.cell? ⟨gy, 1, none⟩ = some (.int .i64 X.t) := fun q => Since.cell hz1 (by omega) q
    have Hhz2 : ∀ q : Since y4.w, q.w.cell? ⟨gy, 2, none⟩ = some (.int .i64 X.each) := fun q => Since.cell hz2 (by omega) q
    have Hhz3 : ∀ q : Since y4.w, q.w.cell? ⟨gy, 3, none⟩ = some (.int .i64 X.r) := fun q => Since.cell hz3 (by omega) q
    have Hhz4 : ∀ q : Since y4.w, q.w.cell? ⟨gy, 4, none⟩ = some (.int .i64 X.c) := fun q => Since.cell hz4 (by omega) q
    have Hhz5 : ∀ q : Since y4.w, q.w.cell? ⟨gy, 5, none⟩ = some (.slice b1 X.cells.length d1) := fun q => Since.cell hz5 (by omega) q
    have Hhz6 : ∀ q : Since y4.w, q.w.cell? ⟨gy, 6, none⟩ = some (.slice b2 X.hid.length d2) := fun q => Since.cell hz6 (by omega) q
    have Hhz7 : ∀ q : Since y4.w, q.w.cell? ⟨gy, 7, none⟩ = some (.slice b3 X.rows.length d3) := fun q => Since.cell hz7 (by omega) q
    have Hhz8 : ∀ q : Since y4.w, q.w.cell? ⟨gy, 8, none⟩ = some (.slice b4 X.cols.length d4) := fun q => Since.cell hz8 (by omega) q
    have Hhz9 : ∀ q : Since y4.w, q.w.cell? ⟨gy, 9, none⟩ = some (.slice b5 X.ws.length d5) := fun q => Since.cell hz9 (by omega) q
    have Hhzf : ∀ (q : Since y4.w) (o : Nat), q.w.frozen? ⟨gy, o, none⟩ = false := fun q o => Since.free (hzf o) (by omega) q
    have Hhzg := Lib.hid (And.intro hsz0 hlt0)
    clear hlt0 hsz0
    clear hz0 hz1 hz2 hz3 hz4 hz5 hz6 hz7 hz8 hz9 hzf Hhzf Hhzg
    replace HRA := Lib.hid (HRA.out.to ⟨y4, rfl⟩)
    replace Hhx0 := Since.cellTo ⟨y4, rfl⟩ Hhx0
    replace Hhx1 := Since.cellTo ⟨y4, rfl⟩ Hhx1
    replace Hhx2 := Since.cellTo ⟨y4, rfl⟩ Hhx2
    replace Hhx3 := Since.cellTo ⟨y4, rfl⟩ Hhx3
    replace Hhx4 := Since.cellTo ⟨y4, rfl⟩ Hhx4
    replace Hhx5 := Since.cellTo ⟨y4, rfl⟩ Hhx5
    replace Hhx6 := Since.cellTo ⟨y4, rfl⟩ Hhx6
    replace Hhx7 := Since.cellTo ⟨y4, rfl⟩ Hhx7
    replace Hhx8 := Since.cellTo ⟨y4, rfl⟩ Hhx8
    replace Hhx9 := Since.cellTo ⟨y4, rfl⟩ Hhx9
    have HAw := Lib.hid (fun q : Since y4.w => awake_calls y4.w q (HS2.out.to ⟨y4, rfl⟩))
    have HSm := Lib.hid (fun q : Since y4.w => show Calls Tryd.prog 14 #[.agg #[.int .i64 X.f, .int .i64 X.t, .int .i64 X.each, .int .i64 X.r, .int .i64 X.c, .slice a1 X.cells.length c1, .slice a2 X.hid.length c2, .slice a3 X.rows.length c3, .slice a4 X.cols.length c4, .slice a5 X.ws.length c5], .agg #[.int .i64 X.f, .int .i64 X.t, .int .i64 X.each, .int .i64 X.r, .int .i64 X.c, .slice b1 X.cells.length d1, .slice b2 X.hid.length d2, .slice b3 X.rows.length d3, .slice b4 X.cols.length d4, .slice b5 X.ws.length d5]] q.w (fun o w' => o = .returned (.bool true) ∧ ∃ y : Since y4.w, w' = y.w) from by
      have := rsame_calls y4.w q X X a1 a2 a3 a4 a5 b1 b2 b3 b4 b5 c1 c2 c3 c4 c5 d1 d2 d3 d4 d5 HRA.out.a HRA.out.b HRA.out.c HRA.out.d HRA.out.e HLn.out HRB.out.a HRB.out.b HRB.out.c HRB.out.d HRB.out.e HLn.out
      rwa [show sameR X X = true from same_yes ⟨rfl, rfl, rfl, rfl, rfl⟩ rfl rfl rfl rfl rfl] at this)
    have HU4 := Lib.hid (fun q : Since y4.w => show ∃ z : Since w, q.w = z.w from by
      obtain ⟨z0, e0⟩ := y4.trans q
      rw [e0]; exact HU2.out z0)
    clear HRA HRB HLn HS2 HU2
    obtain ⟨q4, hq0⟩ := Since.refl y4.w
    rw [hq0]
    clear hq0
    go_wp2_with (first | (go_at_call 14; ((with_reducible refine (HSm.out _).mono ?_); rintro _ _ ⟨rfl, y5, rfl⟩)) | (go_at_call 11; ((with_reducible refine (HAw.out _).mono ?_); rintro _ _ ⟨rfl, yw, rfl⟩)))
    go_ret
    exact ⟨rfl, HU4.out _⟩
end Go.Proofs.YtdkcclngionihaaDoor
