/- What a release with noise has: near the true cells, with positive chances: plain mathematics. -/
import Derived.Test.YtdkcclngionihaaDoorRlMo
set_option linter.all false
namespace Go.Proofs.YtdkcclngionihaaDoor

theorem near_weight {l xs ws : List Int} (hw : ∀ i, 0 ≤ at0 ws i ∧ at0 ws i < 18446744073709551616) (h : addE l xs ws = 0) {i : Nat} (hi : i < xs.length) : 1 ≤ weight l (at0 (outL l xs ws xs.length) i - at0 xs i) ∧ (-32 ≤ at0 (outL l xs ws xs.length) i - at0 xs i ∧ at0 (outL l xs ws xs.length) i - at0 xs i ≤ 32) ∧ at0 (outL l xs ws xs.length) i - at0 xs i < l.length ∧ -(at0 (outL l xs ws xs.length) i - at0 xs i) < l.length := by
  obtain ⟨h1, h2, h3, h4⟩ := addE_zero h
  rw [outL_at hi]
  unfold outv
  have e : at0 xs i + atV l (bV (ws.drop (us (total l) ws i)) (total l)) - at0 xs i = atV l (bV (ws.drop (us (total l) ws i)) (total l)) := by omega
  rw [e, weight_good h1]
  have hV := bV_bd (ws := ws.drop (us (total l) ws i)) (fun k => by rw [at0_drop]; exact hw _) (h4 i hi)
  have hat := atV_at h1 hV.1 hV.2
  have hwt := hat.weight
  have hin : (atV l (bV (ws.drop (us (total l) ws i)) (total l))).natAbs < l.length := by
    by_cases hn : (atV l (bV (ws.drop (us (total l) ws i)) (total l))).natAbs < l.length
    · exact hn
    · rw [wt_out (by omega)] at hwt; omega
  exact ⟨hwt, hat.bd, by omega, by omega⟩
theorem chE_ok {A T : Tab} {N : List Int} (h1 : chkE A = 0) (h2 : chkE T = 0) (h3 : A.r = T.r) (h4 : A.c = T.c) (h5 : Good N) : chE A T N = 0 := by
  unfold chE
  rw [if_neg (by rw [h1]; simp), if_neg (by rw [h2]; simp), if_neg (by rw [h3, h4]; simp), check_good h5]
theorem chk_sq {n : Nat} {l : List Int} (hn : 1 ≤ n ∧ n ≤ 8) (hl : l.length = n * n) (h : ∀ i, i < l.length → -1000000 ≤ at0 l i ∧ at0 l i ≤ 1000000) : chkE ⟨n, n, l⟩ = 0 := by
  unfold chkE
  dsimp only
  rw [if_neg (by omega), if_neg (by rw [hl]; push_cast; simp), if_neg]
  intro ha
  obtain ⟨v, hv, hb⟩ := List.any_eq_true.1 ha
  obtain ⟨i, hi, rfl⟩ := List.getElem_of_mem hv
  have := h i hi
  have e : at0 l i = l[i] := by unfold at0; simp [List.getD_eq_getElem?_getD, hi]
  rw [e] at this
  simp at hb
  omega
theorem near_facts {zs : List Int} {size : Int} {R : List Ride} {f t each : Int} {N ws : List Int} (h : nyE zs size R f t each N ws = 0) (hl : R.length ≤ 1024) (hw : ∀ i, 0 ≤ at0 ws i ∧ at0 ws i < 18446744073709551616) :
    ∃ (n : Nat) (l L : List Int), size = (n : Int) ∧ tabE zs size R f t each = 0 ∧ tabV zs size R f t each = ⟨n, n, l⟩ ∧ l.length ≤ 64 ∧ L.length = l.length ∧ nyR zs size R f t each N ws = ⟨f, t, each, n, n, L, [], [], [], N⟩ ∧ chE ⟨n, n, L⟩ ⟨n, n, l⟩ N = 0 ∧ ∀ i, i < l.length → 0 < at0 (chL ⟨n, n, L⟩ ⟨n, n, l⟩ N) i ∧ at0 (chL ⟨n, n, L⟩ ⟨n, n, l⟩ N) i ≤ 16777216 ∧ (-32 ≤ at0 L i - at0 l i ∧ at0 L i - at0 l i ≤ 32) ∧ at0 L i - at0 l i < N.length ∧ -(at0 L i - at0 l i) < N.length := by
  have h1 : rlE zs size R f t each = 0 := by
    unfold nyE at h
    by_cases h0 : rlE zs size R f t each = 0
    · exact h0
    · rw [if_pos h0] at h; exact absurd h h0
  have ht : tabE zs size R f t each = 0 := by
    unfold rlE at h1
    by_cases h0 : tabE zs size R f t each = 0
    · exact h0
    · rw [if_pos h0] at h1; exact absurd h1 h0
  obtain ⟨n, l, rfl, hT, hG⟩ := rl_good h1 hl
  have hV : tabV zs (n : Int) R f t each = ⟨n, n, l⟩ := by
    rw [← hT]; unfold rlT; rw [if_pos h1]
  have h2 : addE N l ws = 0 := by
    unfold nyE at h
    rw [if_neg (by rw [h1]; simp), hT] at h
    exact h
  have hN := (addE_zero h2).1
  have hnw : ∀ i, i < l.length → _ := fun i hi => near_weight hw h2 hi
  refine ⟨n, l, outL N l ws l.length, rfl, ht, hV, hG.len, outL_length _ _ _ _, ?_, ?_, fun i hi => ?_⟩
  · unfold nyR
    rw [if_pos h, hT]
  · refine chE_ok (chk_sq hG.r (by rw [outL_length, hG.n]) fun i hi => ?_) (chk_sq hG.r hG.n fun i hi => ?_) rfl rfl hN
    · rw [outL_length] at hi
      have := hnw i hi
      have := hG.cell (i := i) hi
      omega
    · have := hG.cell (i := i) hi
      omega
  · have h3 := hnw i hi
    have e : at0 (chL ⟨n, n, outL N l ws l.length⟩ ⟨n, n, l⟩ N) i = weight N (at0 (outL N l ws l.length) i - at0 l i) := by
      unfold chL
      unfold at0
      rw [List.getD_eq_getElem?_getD]
      simp [List.getElem?_range hi]
    rw [e]
    have h4 := wt_bd hN (at0 (outL N l ws l.length) i - at0 l i)
    rw [weight_good hN] at h3 ⊢
    omega
theorem nyR_no {zs : List Int} {size : Int} {R : List Ride} {f t each : Int} {N ws : List Int} (h : nyE zs size R f t each N ws ≠ 0) : nyR zs size R f t each N ws = rel0 := by unfold nyR; rw [if_neg h]
end Go.Proofs.YtdkcclngionihaaDoor
/- The law ReleaseNear, walked. Written by mkk5.py. -/
namespace Go.Proofs.YtdkcclngionihaaDoor
open Go.RowKit

set_option linter.unusedSimpArgs false in
set_option maxRecDepth 100000 in
set_option maxHeartbeats 32000000 in
theorem releaseNear_calls (w : World) (x : Since w) (hs : Signs w) (q : Cas) (an aw : Option Addr) (N ws : List Int) (cn cw : Nat) (h : q.At w)
    (hn : IntRow w an N) (hnc : N.length ≤ cn) (hnl : N.length ≤ 9223372036854775807) (hw : Row w aw ws.length fun i => .int .u64 (at0 ws i)) (hwc : ws.length ≤ cw) (hwl : ws.length ≤ 9223372036854775807) (hwr : ∀ i, 0 ≤ at0 ws i ∧ at0 ws i < 18446744073709551616) :
    Calls Tryd.prog 9 #[.agg #[.slice q.az q.zs.length q.cz, .int .i64 q.n, .slice q.a q.R.length q.c, .int .i64 q.f, .int .i64 q.t, .int .i64 q.e], .agg #[.slice an N.length cn], .slice aw ws.length cw] x.w fun o w' => o = .returned (.bool true) ∧ ∃ y : Since w, w' = y.w := by
  have H := Lib.hid h; have HY := Lib.hid hs; have HN := Lib.hid hn; have HW := Lib.hid hw
  have HF := Lib.hid (fun (W : World) (y : Since W) h => few56_calls W y q h)
  have HFw := Lib.hid (show fewQ q = true → q.R.length ≤ 30 from fun h => by
    unfold fewQ at h
    rw [Bool.and_eq_true, decide_eq_true_eq] at h
    exact h.1.1)
  generalize fewQ q = FQ at *
  obtain ⟨az, zs, cz, n, e, a, R, c, f, t⟩ := q
  dsimp only at H HF HFw ⊢
  clear h hs hn hw
  go_enter Tryd.func9, Tryd.ntmps9
  go_upto_region 1 with fail
  have hb0_0 : ∀ y : Since ((x.w.alloc (.cells #[.slice az zs.length cz, .int .i64 n, .slice a R.length c, .int .i64 f, .int .i64 t, .int .i64 e] 27)).alloc (.cells #[.slice an N.length cn] 34)), y.w.cell? ⟨x.w.heap.size, 0, none⟩ = some (.slice az zs.length cz) := fun y => Since.cell (by simp [go_sem]) (by first | (simp; done) | (simp; omega)) y
  have hb0_1 : ∀ y : Since ((x.w.alloc (.cells #[.slice az zs.length cz, .int .i64 n, .slice a R.length c, .int .i64 f, .int .i64 t, .int .i64 e] 27)).alloc (.cells #[.slice an N.length cn] 34)), y.w.cell? ⟨x.w.heap.size, 1, none⟩ = some (.int .i64 n) := fun y => Since.cell (by simp [go_sem]) (by first | (simp; done) | (simp; omega)) y
  have hb0_2 : ∀ y : Since ((x.w.alloc (.cells #[.slice az zs.length cz, .int .i64 n, .slice a R.length c, .int .i64 f, .int .i64 t, .int .i64 e] 27)).alloc (.cells #[.slice an N.length cn] 34)), y.w.cell? ⟨x.w.heap.size, 2, none⟩ = some (.slice a R.length c) := fun y => Since.cell (by simp [go_sem]) (by first | (simp; done) | (simp; omega)) y
  have hb0_3 : ∀ y : Since ((x.w.alloc (.cells #[.slice az zs.length cz, .int .i64 n, .slice a R.length c, .int .i64 f, .int .i64 t, .int .i64 e] 27)).alloc (.cells #[.slice an N.length cn] 34)), y.w.cell? ⟨x.w.heap.size, 3, none⟩ = some (.int .i64 f) := fun y => Since.cell (by simp [go_sem]) (by first | (simp; done) | (simp; omega)) y
  have hb0_4 : ∀ y : Since ((x.w.alloc (.cells #[.slice az zs.length cz, .int .i64 n, .slice a R.length c, .int .i64 f, .int .i64 t, .int .i64 e] 27)).alloc (.cells #[.slice an N.length cn] 34)), y.w.cell? ⟨x.w.heap.size, 4, none⟩ = some (.int .i64 t) := fun y => Since.cell (by simp [go_sem]) (by first | (simp; done) | (simp; omega)) y
  have hb0_5 : ∀ y : Since ((x.w.alloc (.cells #[.slice az zs.length cz, .int .i64 n, .slice a R.length c, .int .i64 f, .int .i64 t, .int .i64 e] 27)).alloc (.cells #[.slice an N.length cn] 34)), y.w.cell? ⟨x.w.heap.size, 5, none⟩ = some (.int .i64 e) := fun y => Since.cell (by simp [go_sem]) (by first | (simp; done) | (simp; omega)) y
  have hf0 : ∀ (y : Since ((x.w.alloc (.cells #[.slice az zs.length cz, .int .i64 n, .slice a R.length c, .int .i64 f, .int .i64 t, .int .i64 e] 27)).alloc (.cells #[.slice an N.length cn] 34))) (o : Nat), y.w.frozen? ⟨x.w.heap.size, o, none⟩ = false := fun y o => Since.free (by simp [go_sem]) (by first | (simp; done) | (simp; omega)) y
  have hb1_0 : ∀ y : Since ((x.w.alloc (.cells #[.slice az zs.length cz, .int .i64 n, .slice a R.length c, .int .i64 f, .int .i64 t, .int .i64 e] 27)).alloc (.cells #[.slice an N.length cn] 34)), y.w.cell? ⟨x.w.heap.size + 1, 0, none⟩ = some (.slice an N.length cn) := fun y => Since.cell (by simp [go_sem]) (by first | (simp; done) | (simp; omega)) y
  have hf1 : ∀ (y : Since ((x.w.alloc (.cells #[.slice az zs.length cz, .int .i64 n, .slice a R.length c, .int .i64 f, .int .i64 t, .int .i64 e] 27)).alloc (.cells #[.slice an N.length cn] 34))) (o : Nat), y.w.frozen? ⟨x.w.heap.size + 1, o, none⟩ = false := fun y o => Since.free (by simp [go_sem]) (by first | (simp; done) | (simp; omega)) y
  have hWup : ∃ z : Since w, ((x.w.alloc (.cells #[.slice az zs.length cz, .int .i64 n, .slice a R.length c, .int .i64 f, .int .i64 t, .int .i64 e] 27)).alloc (.cells #[.slice an N.length cn] 34)) = z.w := Since.allocs x [.cells #[.slice az zs.length cz, .int .i64 n, .slice a R.length c, .int .i64 f, .int .i64 t, .int .i64 e] 27, .cells #[.slice an N.length cn] 34]
  obtain ⟨y0, hy0⟩ := Since.refl ((x.w.alloc (.cells #[.slice az zs.length cz, .int .i64 n, .slice a R.length c, .int .i64 f, .int .i64 t, .int .i64 e] 27)).alloc (.cells #[.slice an N.length cn] 34))
  have Hbx := Lib.hid (And.intro x.b.size (show x.w.heap.size + 2 = ((x.w.alloc (.cells #[.slice az zs.length cz, .int .i64 n, .slice a R.length c, .int .i64 f, .int .i64 t, .int .i64 e] 27)).alloc (.cells #[.slice an N.length cn] 34)).heap.size from by simp))
  generalize hW : ((x.w.alloc (.cells #[.slice az zs.length cz, .int .i64 n, .slice a R.length c, .int .i64 f, .int .i64 t, .int .i64 e] 27)).alloc (.cells #[.slice an N.length cn] 34)) = W at *
  clear hW
  generalize x.w.heap.size = bx at *
  have Hup := Lib.hid (Since.up hWup)
  rw [hy0]
  clear hy0
  have HAw := Lib.hid (fun z : Since W => awake_calls W z (HY.out.to hWup))
  have HSg := Lib.hid (HY.out.to hWup)
  have HF1 := Lib.hid (fun z : Since W => HF.out W z (H.out.to hWup))
  have HQ := Lib.hid (show Cas.At W ⟨az, zs, cz, n, e, a, R, c, f, t⟩ from H.out.to hWup)
  replace HN := Lib.hid (HN.out.to hWup)
  replace HW := Lib.hid (HW.out.to hWup)
  clear H HF HY hWup hf0 hf1
  cases FQ with
  | false =>
    clear HFw
    go_wp2_with (first | (go_at_call 10; ((with_reducible refine (HF1.out _).mono ?_); rintro _ _ ⟨rfl, z, rfl⟩)) | (go_at_call 11; ((with_reducible refine (HAw.out _).mono ?_); rintro _ _ ⟨rfl, yw, rfl⟩)))
    go_ret
    exact ⟨rfl, Hup.out _⟩
  | true =>
    have hR30 := HFw.out rfl
    clear HFw
    by_cases hn40 : N.length ≤ 40
    case neg =>
      have d1 : (40 : Int) < (N.length : Int) := by omega
      clear hn40
      go_wp2_with (first | (go_at_call 10; ((with_reducible refine (HF1.out _).mono ?_); rintro _ _ ⟨rfl, z, rfl⟩)) | (go_at_call 11; ((with_reducible refine (HAw.out _).mono ?_); rintro _ _ ⟨rfl, yw, rfl⟩)))
      go_ret
      exact ⟨rfl, Hup.out _⟩
    case pos =>
    by_cases hw200 : ws.length ≤ 200
    case neg =>
      have d1 : ¬ (40 : Int) < (N.length : Int) := by omega
      have d2 : (200 : Int) < (ws.length : Int) := by omega
      clear hn40 hw200
      go_wp2_with (first | (go_at_call 10; ((with_reducible refine (HF1.out _).mono ?_); rintro _ _ ⟨rfl, z, rfl⟩)) | (go_at_call 11; ((with_reducible refine (HAw.out _).mono ?_); rintro _ _ ⟨rfl, yw, rfl⟩)))
      go_ret
      exact ⟨rfl, Hup.out _⟩
    case pos =>
    have d1 : ¬ (40 : Int) < (N.length : Int) := by omega
    have d2 : ¬ (200 : Int) < (ws.length : Int) := by omega
    go_upto_region 3 with (go_at_call 10; ((with_reducible refine (HF1.out _).mono ?_); rintro _ _ ⟨rfl, z, rfl⟩))
    clear HF1 d1 d2
    have HX := Lib.hid (fun z : Since W => noisy_calls W z HSg.out az zs cz n a R c f t e an aw N ws cn cw HQ.out.z HQ.out.zl HQ.out.r (by omega) HQ.out.i HN.out hnc (by omega) HW.out hwc hwl hwr)
    have HT := Lib.hid (fun (u : World) (hu : IsSince W u) => show Calls Tryd.prog 21 #[.slice az zs.length cz, .int .i64 n, .slice a R.length c, .agg #[.int .i64 f, .int .i64 t], .int .i64 e] u (TabRes u (tabV zs n R f t e) (tabE zs n R f t e)) from table_calls u (Since.self u) az zs cz n a R c f t e (HQ.out.z.to hu) HQ.out.zl (HQ.out.r.to hu) HQ.out.rl HQ.out.i)
    have HE := Lib.hid (fun h => near_facts (zs := zs) (size := n) (R := R) (f := f) (t := t) (each := e) (N := N) (ws := ws) h (by omega) hwr)
    have HE0 := Lib.hid (fun h => nyR_no (zs := zs) (size := n) (R := R) (f := f) (t := t) (each := e) (N := N) (ws := ws) h)
    generalize nyE zs n R f t e N ws = E at *
    generalize nyR zs n R f t e N ws = X at *
    generalize tabE zs n R f t e = E1 at *
    generalize tabV zs n R f t e = T1 at *
    clear HQ HN HW hwr hwl hwc hnc
    go_upto_region 4 with (go_at_call 26; ((with_reducible refine (HX.out _).mono ?_); rintro _ _ ⟨a1, a2, a3, a4, a5, c1, c2, c3, c4, c5, y1, rfl, rfl, r1, -, -, -, r5, -⟩))
    have HR1 := Lib.hid r1; have HR5 := Lib.hid r5
    clear r1 r5 HX
    have hx0 : (y1.w.alloc (.cells #[.int .i64 X.f, .int .i64 X.t, .int .i64 X.each, .int .i64 X.r, .int .i64 X.c, .slice a1 X.cells.length c1, .slice a2 X.hid.length c2, .slice a3 X.rows.length c3, .slice a4 X.cols.length c4, .slice a5 X.ws.length c5] 36)).cell? ⟨y1.w.heap.size, 0, none⟩ = some (.int .i64 X.f) := by simp [go_sem]
    have hx1 : (y1.w.alloc (.cells #[.int .i64 X.f, .int .i64 X.t, .int .i64 X.each, .int .i64 X.r, .int .i64 X.c, .slice a1 X.cells.length c1, .slice a2 X.hid.length c2, .slice a3 X.rows.length c3, .slice a4 X.cols.length c4, .slice a5 X.ws.length c5] 36)).cell? ⟨y1.w.heap.size, 1, none⟩ = some (.int .i64 X.t) := by simp [go_sem]
    have hx2 : (y1.w.alloc (.cells #[.int .i64 X.f, .int .i64 X.t, .int .i64 X.each, .int .i64 X.r, .int .i64 X.c, .slice a1 X.cells.length c1, .slice a2 X.hid.length c2, .slice a3 X.rows.length c3, .slice a4 X.cols.length c4, .slice a5 X.ws.length c5] 36)).cell? ⟨y1.w.heap.size, 2, none⟩ = some (.int .i64 X.each) := by simp [go_sem]
    have hx3 : (y1.w.alloc (.cells #[.int .i64 X.f, .int .i64 X.t, .int .i64 X.each, .int .i64 X.r, .int .i64 X.c, .slice a1 X.cells.length c1, .slice a2 X.hid.length c2, .slice a3 X.rows.length c3, .slice a4 X.cols.length c4, .slice a5 X.ws.length c5] 36)).cell? ⟨y1.w.heap.size, 3, none⟩ = some (.int .i64 X.r) := by simp [go_sem]
    have hx4 : (y1.w.alloc (.cells #[.int .i64 X.f, .int .i64 X.t, .int .i64 X.each, .int .i64 X.r, .int .i64 X.c, .slice a1 X.cells.length c1, .slice a2 X.hid.length c2, .slice a3 X.rows.length c3, .slice a4 X.cols.length c4, .slice a5 X.ws.length c5] 36)).cell? ⟨y1.w.heap.size, 4, none⟩ = some (.int .i64 X.c) := by simp [go_sem]
    have hx5 : (y1.w.alloc (.cells #[.int .i64 X.f, .int .i64 X.t, .int .i64 X.each, .int .i64 X.r, .int .i64 X.c, .slice a1 X.cells.length c1, .slice a2 X.hid.length c2, .slice a3 X.rows.length c3, .slice a4 X.cols.length c4, .slice a5 X.ws.length c5] 36)).cell? ⟨y1.w.heap.size, 5, none⟩ = some (.slice a1 X.cells.length c1) := by simp [go_sem]
    have hx6 : (y1.w.alloc (.cells #[.int .i64 X.f, .int .i64 X.t, .int .i64 X.each, .int .i64 X.r, .int .i64 X.c, .slice a1 X.cells.length c1, .slice a2 X.hid.length c2, .slice a3 X.rows.length c3, .slice a4 X.cols.length c4, .slice a5 X.ws.length c5] 36)).cell? ⟨y1.w.heap.size, 6, none⟩ = some (.slice a2 X.hid.length c2) := by simp [go_sem]
    have hx7 : (y1.w.alloc (.cells #[.int .i64 X.f, .int .i64 X.t, .int .i64 X.each, .int .i64 X.r, .int .i64 X.c, .slice a1 X.cells.length c1, .slice a2 X.hid.length c2, .slice a3 X.rows.length c3, .slice a4 X.cols.length c4, .slice a5 X.ws.length c5] 36)).cell? ⟨y1.w.heap.size, 7, none⟩ = some (.slice a3 X.rows.length c3) := by simp [go_sem]
    have hx8 : (y1.w.alloc (.cells #[.int .i64 X.f, .int .i64 X.t, .int .i64 X.each, .int .i64 X.r, .int .i64 X.c, .slice a1 X.cells.length c1, .slice a2 X.hid.length c2, .slice a3 X.rows.length c3, .slice a4 X.cols.length c4, .slice a5 X.ws.length c5] 36)).cell? ⟨y1.w.heap.size, 8, none⟩ = some (.slice a4 X.cols.length c4) := by simp [go_sem]
    have hx9 : (y1.w.alloc (.cells #[.int .i64 X.f, .int .i64 X.t, .int .i64 X.each, .int .i64 X.r, .int .i64 X.c, .slice a1 X.cells.length c1, .slice a2 X.hid.length c2, .slice a3 X.rows.length c3, .slice a4 X.cols.length c4, .slice a5 X.ws.length c5] 36)).cell? ⟨y1.w.heap.size, 9, none⟩ = some (.slice a5 X.ws.length c5) := by simp [go_sem]
    have hxf : ∀ o, (y1.w.alloc (.cells #[.int .i64 X.f, .int .i64 X.t, .int .i64 X.each, .int .i64 X.r, .int .i64 X.c, .slice a1 X.cells.length c1, .slice a2 X.hid.length c2, .slice a3 X.rows.length c3, .slice a4 X.cols.length c4, .slice a5 X.ws.length c5] 36)).frozen? ⟨y1.w.heap.size, o, none⟩ = false := fun o => by simp [go_sem]
    have hlt0 : y1.w.heap.size < (y1.w.alloc (.cells #[.int .i64 X.f, .int .i64 X.t, .int .i64 X.each, .int .i64 X.r, .int .i64 X.c, .slice a1 X.cells.length c1, .slice a2 X.hid.length c2, .slice a3 X.rows.length c3, .slice a4 X.cols.length c4, .slice a5 X.ws.length c5] 36)).heap.size := by simp
    have hst0 : ∃ zz : Since y1.w, (y1.w.alloc (.cells #[.int .i64 X.f, .int .i64 X.t, .int .i64 X.each, .int .i64 X.r, .int .i64 X.c, .slice a1 X.cells.length c1, .slice a2 X.hid.length c2, .slice a3 X.rows.length c3, .slice a4 X.cols.length c4, .slice a5 X.ws.length c5] 36)) = zz.w := IsSince.alloc (IsSince.self _) _
    have hsz0 := y1.b.size
    obtain ⟨y2, e2⟩ := IsSince.alloc (IsSince.of y1) (.cells #[.int .i64 X.f, .int .i64 X.t, .int .i64 X.each, .int .i64 X.r, .int .i64 X.c, .slice a1 X.cells.length c1, .slice a2 X.hid.length c2, .slice a3 X.rows.length c3, .slice a4 X.cols.length c4, .slice a5 X.ws.length c5] 36)
    rw [e2] at hx0 hx1 hx2 hx3 hx4 hx5 hx6 hx7 hx8 hx9 hxf hlt0 hst0 ⊢
    (replace HR1 := Lib.hid (HR1.out.to hst0); replace HR5 := Lib.hid (HR5.out.to hst0))
    clear e2 hst0
    generalize y1.w.heap.size = gx at *
    have Hhx0 : ∀ q : Since y2.w, q.w.cell? ⟨gx, 0, none⟩ = some (.int .i64 X.f) := fun q => Since.cell hx0 (by omega) q
    have Hhx1 : ∀ q : Since y2.w, q.w.cell? ⟨gx, 1, none⟩ = some (.int .i64 X.t) := fun q => Since.cell hx1 (by omega) q
    have Hhx2 : ∀ q : Since y2.w, q.w.cell? ⟨gx, 2, none⟩ = some (.int .i64 X.each) := fun q => Since.cell hx2 (by omega) q
    have Hhx3 : ∀ q : Since y2.w, q.w.cell? ⟨gx, 3, none⟩ = some (.int .i64 X.r) := fun q => Since.cell hx3 (by omega) q
    have Hhx4 : ∀ q : Since y2.w, q.w.cell? ⟨gx, 4, none⟩ = some (.int .i64 X.c) := fun q => Since.cell hx4 (by omega) q
    have Hhx5 : ∀ q : Since y2.w, q.w.cell? ⟨gx, 5, none⟩ = some (.slice a1 X.cells.length c1) := fun q => Since.cell hx5 (by omega) q
    have Hhx6 : ∀ q : Since y2.w, q.w.cell? ⟨gx, 6, none⟩ = some (.slice a2 X.hid.length c2) := fun q => Since.cell hx6 (by omega) q
    have Hhx7 : ∀ q : Since y2.w, q.w.cell? ⟨gx, 7, none⟩ = some (.slice a3 X.rows.length c3) := fun q => Since.cell hx7 (by omega) q
    have Hhx8 : ∀ q : Since y2.w, q.w.cell? ⟨gx, 8, none⟩ = some (.slice a4 X.cols.length c4) := fun q => Since.cell hx8 (by omega) q
    have Hhx9 : ∀ q : Since y2.w, q.w.cell? ⟨gx, 9, none⟩ = some (.slice a5 X.ws.length c5) := fun q => Since.cell hx9 (by omega) q
    have Hhxf : ∀ (q : Since y2.w) (o : Nat), q.w.frozen? ⟨gx, o, none⟩ = false := fun q o => Since.free (hxf o) (by omega) q
    have Hhxg := Lib.hid (And.intro hsz0 hlt0)
    clear hlt0 hsz0
    clear hx0 hx1 hx2 hx3 hx4 hx5 hx6 hx7 hx8 hx9 hxf Hhxf Hhxg
    by_cases hE : E = 0
    case neg =>
      have hX := HE0.out hE
      subst hX
      have hE' := intrel_ne hE
      have l1 : rel0.cells.length = 0 := rfl
      obtain ⟨y3, h3⟩ := Since.refl y2.w
      clear HR1 HR5 HT HE HE0 hE
      clear Hhx0 Hhx1 Hhx2 Hhx3 Hhx4 Hhx6 Hhx7 Hhx8 Hhx9
      rw [l1] at Hhx5
      rw [h3]
      clear h3
      replace HAw := Lib.hid (fun q : Since y2.w => show Calls Tryd.prog 11 #[] q.w (fun o w' => o = .returned (.bool true) ∧ ∃ y : Since y2.w, w' = y.w) from by
        obtain ⟨q1, e1⟩ := y2.trans q
        have := awake_calls q.w (Since.self q.w) ((HSg.out.to ⟨y2, rfl⟩).to ⟨q, rfl⟩)
        refine this.mono ?_
        rintro _ _ ⟨rfl, z, rfl⟩
        obtain ⟨z1, e2⟩ := q.trans z
        exact ⟨rfl, z1, e2⟩)
      go_wp2_with (go_at_call 11; ((with_reducible refine (HAw.out _).mono ?_); rintro _ _ ⟨rfl, yw, rfl⟩))
      go_ret
      obtain ⟨z1, e1⟩ := y2.trans yw
      rw [e1]
      exact ⟨rfl, Hup.out _⟩
    case pos =>
    obtain ⟨m, l, L, rfl, ht, hV, hm64, hLl, hXe, hch, hF⟩ := HE.out hE
    subst hXe
    subst hV
    have HFc := Lib.hid hF
    have hcL : (chL ⟨m, m, L⟩ ⟨m, m, l⟩ N).length = l.length := by simp [chL]
    subst hE
    subst ht
    dsimp only at HR1 HR5 Hhx0 Hhx1 Hhx2 Hhx3 Hhx4 Hhx5 Hhx6 Hhx7 Hhx8 Hhx9 ⊢
    have HCh := Lib.hid (fun (W : World) (y : Since W) (a9 : Option Addr) (c9 : Nat) hs h1 h5 h6 => show Calls Tryd.prog 16 #[.agg #[.int .i64 f, .int .i64 t, .int .i64 e, .int .i64 (m : Int), .int .i64 (m : Int), .slice a1 l.length c1, .slice a2 0 c2, .slice a3 0 c3, .slice a4 0 c4, .slice a5 N.length c5], .agg #[.int .i64 (m : Int), .int .i64 (m : Int), .slice a9 l.length c9]] y.w (fun o w' => ∃ (b : Option Addr) (cb : Nat) (z : Since W), o = .returned (.tuple #[.slice b l.length cb, .int .i64 0]) ∧ w' = z.w ∧ IntRow z.w b (chL ⟨m, m, L⟩ ⟨m, m, l⟩ N)) from by
      have hc := chances_calls W y hs f t e ⟨m, m, L⟩ ⟨m, m, l⟩ N a1 a2 a3 a4 a5 a9 c1 0 c2 0 c3 0 c4 c5 c9 h1 h5 h6 (by dsimp only; omega) hnl (by dsimp only; omega)
      rw [hch, show chV ⟨m, m, L⟩ ⟨m, m, l⟩ N = chL ⟨m, m, L⟩ ⟨m, m, l⟩ N from by unfold chV; rw [if_pos hch]] at hc
      dsimp only at hc
      rw [hLl] at hc
      refine hc.mono ?_
      rintro _ _ ⟨b, cb, z, rfl, rfl, hr⟩
      exact ⟨b, cb, z, by rw [hcL], rfl, hr⟩)
    have Hl0 : ([] : List Bool).length = 0 ∧ ([] : List Int).length = 0 := ⟨rfl, rfl⟩
    rw [hLl] at Hhx5
    rw [Hl0.1] at Hhx6
    rw [Hl0.2] at Hhx7 Hhx8
    simp only [hLl]
    have HlL := Lib.hid hLl
    have HlC := Lib.hid hcL
    generalize chL ⟨m, m, L⟩ ⟨m, m, l⟩ N = C at *
    clear HE HE0 hF hch hcL hLl Hl0
    go_upto_region 7 with (go_at_call 21; ((with_reducible refine (HT.out _ (IsSince.of y2)).mono ?_); rintro _ _ ⟨a9, c9, y3, rfl, rfl, r9, -, -, -⟩))
    have HR9 := Lib.hid (show IntRow y3.w a9 l from r9)
    clear r9 HT
    have hu0 : (y3.w.alloc (.cells #[.int .i64 (m : Int), .int .i64 (m : Int), .slice a9 l.length c9] 31)).cell? ⟨y3.w.heap.size, 0, none⟩ = some (.int .i64 (m : Int)) := by simp [go_sem]
    have hu1 : (y3.w.alloc (.cells #[.int .i64 (m : Int), .int .i64 (m : Int), .slice a9 l.length c9] 31)).cell? ⟨y3.w.heap.size, 1, none⟩ = some (.int .i64 (m : Int)) := by simp [go_sem]
    have hu2 : (y3.w.alloc (.cells #[.int .i64 (m : Int), .int .i64 (m : Int), .slice a9 l.length c9] 31)).cell? ⟨y3.w.heap.size, 2, none⟩ = some (.slice a9 l.length c9) := by simp [go_sem]
    have huf : ∀ o, (y3.w.alloc (.cells #[.int .i64 (m : Int), .int .i64 (m : Int), .slice a9 l.length c9] 31)).frozen? ⟨y3.w.heap.size, o, none⟩ = false := fun o => by simp [go_sem]
    have hlt0 : y3.w.heap.size < (y3.w.alloc (.cells #[.int .i64 (m : Int), .int .i64 (m : Int), .slice a9 l.length c9] 31)).heap.size := by simp
    have hst0 : ∃ zz : Since y3.w, (y3.w.alloc (.cells #[.int .i64 (m : Int), .int .i64 (m : Int), .slice a9 l.length c9] 31)) = zz.w := IsSince.alloc (IsSince.self _) _
    have hsz0 := y3.b.size
    obtain ⟨y4, e2⟩ := IsSince.alloc (IsSince.of y3) (.cells #[.int .i64 (m : Int), .int .i64 (m : Int), .slice a9 l.length c9] 31)
    rw [e2] at hu0 hu1 hu2 huf hlt0 hst0 ⊢
    (replace HR9 := Lib.hid (HR9.out.to hst0))
    clear e2 hst0
    generalize y3.w.heap.size = gt at *
    have Hhu0 : ∀ q : Since y4.w, q.w.cell? ⟨gt, 0, none⟩ = some (.int .i64 (m : Int)) := fun q => Since.cell hu0 (by omega) q
    have Hhu1 : ∀ q : Since y4.w, q.w.cell? ⟨gt, 1, none⟩ = some (.int .i64 (m : Int)) := fun q => Since.cell hu1 (by omega) q
    have Hhu2 : ∀ q : Since y4.w, q.w.cell? ⟨gt, 2, none⟩ = some (.slice a9 l.length c9) := fun q => Since.cell hu2 (by omega) q
    have Hhuf : ∀ (q : Since y4.w) (o : Nat), q.w.frozen? ⟨gt, o, none⟩ = false := fun q o => Since.free (huf o) (by omega) q
    have Hhug := Lib.hid (And.intro hsz0 hlt0)
    clear hlt0 hsz0
    clear hu0 hu1 hu2 huf Hhuf Hhug
    replace HR1 := Lib.hid (HR1.out.to ⟨y4, rfl⟩)
    replace HR5 := Lib.hid (HR5.out.to ⟨y4, rfl⟩)
    replace Hhx0 := Since.cellTo ⟨y4, rfl⟩ Hhx0
    replace Hhx1 := Since.cellTo ⟨y4, rfl⟩ Hhx1
    replace Hhx2 := Since.cellTo ⟨y4, rfl⟩ Hhx2
    replace Hhx3 := Since.cellTo ⟨y4, rfl⟩ Hhx3
    replace Hhx4 := Since.cellTo ⟨y4, rfl⟩ Hhx4
    replace Hhx5 := Since.cellTo ⟨y4, rfl⟩ Hhx5
    replace Hhx6 := Since.cellTo ⟨y4, rfl⟩ Hhx6
    replace Hhx7 := Since.cellTo ⟨y4, rfl⟩ Hhx7
    replace Hhx8 := Since.cellTo ⟨y4, rfl⟩ Hhx8
    replace Hhx9 := Since.cellTo ⟨y4, rfl⟩ Hhx9
    have hb1' := Since.cellTo ⟨y4, rfl⟩ (Since.cellTo ⟨y2, rfl⟩ hb1_0)
    have HUp := Lib.hid (fun q : Since y4.w => show ∃ z : Since w, q.w = z.w from by
      obtain ⟨z0, e0⟩ := y4.trans q
      obtain ⟨z1, e1⟩ := y2.trans z0
      rw [e0, e1]; exact Hup.out z1)
    have HS4 := Lib.hid (((HSg.out.to ⟨y2, rfl⟩)).to ⟨y4, rfl⟩)
    have HC4 := Lib.hid (fun z : Since y4.w => HCh.out y4.w z a9 c9 HS4.out HR1.out HR5.out HR9.out)
    clear HAw HCh HSg
    obtain ⟨q4, hq0⟩ := Since.refl y4.w
    rw [hq0]
    clear hq0
    go_upto_region 8 with (go_at_call 16; ((with_reducible refine (HC4.out _).mono ?_); rintro _ _ ⟨ab, cb, y5, rfl, rfl, r7⟩))
    have HR7 := Lib.hid r7
    clear r7 HC4
    replace HR1 := Lib.hid (HR1.out.to ⟨y5, rfl⟩)
    replace HR9 := Lib.hid (HR9.out.to ⟨y5, rfl⟩)
    clear HR5 Hhx0 Hhx1 Hhx2 Hhx3 Hhx4 Hhx7 Hhx8 Hhx9 Hhu0 Hhu1
    replace Hhx5 := Since.cellTo ⟨y5, rfl⟩ Hhx5
    replace Hhx6 := Since.cellTo ⟨y5, rfl⟩ Hhx6
    replace Hhu2 := Since.cellTo ⟨y5, rfl⟩ Hhu2
    replace hb1' := Since.cellTo ⟨y5, rfl⟩ hb1'
    replace HUp := Lib.hid (fun q : Since y5.w => show ∃ z : Since w, q.w = z.w from by
      obtain ⟨z0, e0⟩ := y5.trans q
      rw [e0]; exact HUp.out z0)
    have HAw5 := Lib.hid (fun q : Since y5.w => awake_calls y5.w q (HS4.out.to ⟨y5, rfl⟩))
    clear HS4
    obtain ⟨q5, hq0⟩ := Since.refl y5.w
    rw [hq0]
    clear hq0
    go_upto_region 11 with fail
    go_loopw [13] (fun si wr => ∃ (k : Nat) (y : Since y5.w), k ≤ l.length ∧ si = .int .i64 (k : Int) ∧ wr = y.w) (fun si _ => l.length - (intOf si).toNat)
    case atStart => exact ⟨0, q5, by omega, rfl, rfl⟩
    case round =>
      obtain ⟨k, y, hk, rfl, rfl⟩ := hrel
      by_cases hlt : k < l.length
      · have hk0 : (0 : Int) ≤ (k : Int) := by omega
        have hkl : (k : Int) < (l.length : Int) := by omega
        obtain ⟨g1, o1, ha1, hb1, hc1⟩ := HR1.out k (by rw [HlL.out]; exact hlt)
        have p1 : ∀ q : Since y5.w, q.w.cell? ⟨g1, o1 + k, none⟩ = some (.int .i64 (at0 L k)) := fun q => Since.cell hc1 hb1 q
        obtain ⟨g2, o2, ha2, hb2, hc2⟩ := HR7.out k (by rw [HlC.out]; exact hlt)
        have p2 : ∀ q : Since y5.w, q.w.cell? ⟨g2, o2 + k, none⟩ = some (.int .i64 (at0 C k)) := fun q => Since.cell hc2 hb2 q
        obtain ⟨g3, o3, ha3, hb3, hc3⟩ := HR9.out k hlt
        have p3 : ∀ q : Since y5.w, q.w.cell? ⟨g3, o3 + k, none⟩ = some (.int .i64 (at0 l k)) := fun q => Since.cell hc3 hb3 q
        subst ha1
        subst ha2
        subst ha3
        clear hb1 hc1 hb2 hc2 hb3 hc3
        obtain ⟨f1, f2, f3, f4, f5⟩ := HFc.out k hlt
        obtain ⟨D, hD⟩ : ∃ D, at0 L k - at0 l k = D := ⟨_, rfl⟩
        rw [hD] at f3 f4 f5
        have wD : IntKind.i64.wrap (at0 L k - at0 l k) = D := by rw [hD]; exact IntWalk.i64_in _ (by omega)
        have wN : IntKind.i64.wrap (-D) = -D := IntWalk.i64_in _ (by omega)
        generalize at0 l k = v at *
        generalize at0 L k = u at *
        generalize at0 C k = cv at *
        have P2 := Lib.hid p2
        replace p1 := Since.cellTo ⟨y, rfl⟩ p1
        replace p3 := Since.cellTo ⟨y, rfl⟩ p3
        have x5 := Since.cellTo ⟨y, rfl⟩ Hhx5
        have u2 := Since.cellTo ⟨y, rfl⟩ Hhu2
        have HT := Lib.hid (fun z : Since y.w => show ∃ q : Since y5.w, z.w = q.w from y.trans z)
        change Code.wp _ _ _ _ (Since.self y.w).w
        clear hD HFc p2
        go_upto_region 13 with fail
        refine wp_region_since (by kernel_rfl) (by kernel_rfl) ?_
        repeat (go_big_quiet_step (fail))
        refine wpQuiet_nil ?_
        rintro _ ⟨z, rfl⟩
        obtain ⟨z2, e2⟩ := HT.out z
        rw [e2]
        clear p1 p3 x5 u2 HT e2 z wD
        have p2 := P2.out
        have d1 : ¬ cv ≤ 0 := by omega
        have d2 : ¬ (N.length : Int) ≤ D := by omega
        have d3 : ¬ (N.length : Int) ≤ -D := by omega
        go_wp2_with fail
        go_roundw
        case rel => exact ⟨k + 1, _, by omega, by go_num, rfl⟩
        case measure => simp [intOf] <;> omega
      · obtain rfl : k = l.length := by omega
        clear HFc
        go_wp2_with (go_at_call 11; ((with_reducible refine (HAw5.out _).mono ?_); rintro _ _ ⟨rfl, yw, rfl⟩))
        go_ret
        exact ⟨rfl, HUp.out _⟩
end Go.Proofs.YtdkcclngionihaaDoor
