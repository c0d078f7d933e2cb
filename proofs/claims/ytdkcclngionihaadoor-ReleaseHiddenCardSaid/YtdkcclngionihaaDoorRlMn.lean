/- The laws ReleaseChances and ReleaseCompares, walked. -/
import Derived.Test.YtdkcclngionihaaDoorRlMm
set_option linter.all false
namespace Go.Proofs.YtdkcclngionihaaDoor
open Go.RowKit

theorem flat_calls (w : World) (x : Since w) (r c : Int) (a : Option Addr) (n cap : Nat) : Calls Tryd.prog 15 #[.agg #[.int .i64 r, .int .i64 c, .slice a n cap]] x.w fun o w' => o = .returned (.bool (decide ((n : Int) ≤ 100))) ∧ ∃ y : Since w, w' = y.w := by
  go_enter Tryd.func15, Tryd.ntmps15
  go_wp2_with fail
  go_ret
  exact ⟨rfl, x.alloc _⟩
set_option linter.unusedSimpArgs false in
set_option maxRecDepth 100000 in
set_option maxHeartbeats 8000000 in
theorem releaseChances_calls (w : World) (x : Since w) (hs : Signs w) (f t each : Int) (A T : Tab) (N : List Int) (a1 a2 a3 a4 a5 a6 : Option Addr) (c1 n2 c2 n3 c3 n4 c4 c5 c6 : Nat) (h1 : IntRow w a1 A.l) (h5 : IntRow w a5 N) (h6 : IntRow w a6 T.l) (hl1 : A.l.length ≤ 9223372036854775807) (hl5 : N.length ≤ 9223372036854775807) (hl6 : T.l.length ≤ 9223372036854775807) :
    Calls Tryd.prog 4 #[.agg #[.int .i64 f, .int .i64 t, .int .i64 each, .int .i64 A.r, .int .i64 A.c, .slice a1 A.l.length c1, .slice a2 n2 c2, .slice a3 n3 c3, .slice a4 n4 c4, .slice a5 N.length c5], .agg #[.int .i64 T.r, .int .i64 T.c, .slice a6 T.l.length c6]] x.w fun o w' => o = .returned (.bool true) ∧ ∃ y : Since w, w' = y.w := by
  have HC := Lib.hid (fun (W : World) (y : Since W) hs h1 h5 h6 => chances_calls W y hs f t each A T N a1 a2 a3 a4 a5 a6 c1 n2 c2 n3 c3 n4 c4 c5 c6 h1 h5 h6 hl1 hl5 hl6)
  have HD := Lib.hid (fun (W : World) (y : Since W) h1 h5 h6 => rchances_calls W y f t each A T N a1 a2 a3 a4 a5 a6 c1 n2 c2 n3 c3 n4 c4 c5 c6 h1 h5 h6 hl1 hl5 hl6)
  have R := Lib.hid (And.intro (And.intro h1 h5) (And.intro h6 hs))
  have HlV := Lib.hid (show (chV A T N).length ≤ 9223372036854775807 from by
    unfold chV
    split
    · simp [chL]; exact hl6
    · simp)
  clear h1 h5 h6 hs hl1 hl5 hl6
  go_enter Tryd.func4, Tryd.ntmps4
  go_upto_region 1 with fail
  have hb0_0 : ∀ y : Since ((x.w.alloc (.cells #[.int .i64 f, .int .i64 t, .int .i64 each, .int .i64 A.r, .int .i64 A.c, .slice a1 A.l.length c1, .slice a2 n2 c2, .slice a3 n3 c3, .slice a4 n4 c4, .slice a5 N.length c5] 36)).alloc (.cells #[.int .i64 T.r, .int .i64 T.c, .slice a6 T.l.length c6] 31)), y.w.cell? ⟨x.w.heap.size, 0, none⟩ = some (.int .i64 f) := fun y => Since.cell (by simp [go_sem]) (by first | (simp; done) | (simp; omega)) y
  have hb0_1 : ∀ y : Since ((x.w.alloc (.cells #[.int .i64 f, .int .i64 t, .int .i64 each, .int .i64 A.r, .int .i64 A.c, .slice a1 A.l.length c1, .slice a2 n2 c2, .slice a3 n3 c3, .slice a4 n4 c4, .slice a5 N.length c5] 36)).alloc (.cells #[.int .i64 T.r, .int .i64 T.c, .slice a6 T.l.length c6] 31)), y.w.cell? ⟨x.w.heap.size, 1, none⟩ = some (.int .i64 t) := fun y => Since.cell (by simp [go_sem]) (by first | (simp; done) | (simp; omega)) y
  have hb0_2 : ∀ y : Since ((x.w.alloc (.cells #[.int .i64 f, .int .i64 t, .int .i64 each, .int .i64 A.r, .int .i64 A.c, .slice a1 A.l.length c1, .slice a2 n2 c2, .slice a3 n3 c3, .slice a4 n4 c4, .slice a5 N.length c5] 36)).alloc (.cells #[.int .i64 T.r, .int .i64 T.c, .slice a6 T.l.length c6] 31)), y.w.cell? ⟨x.w.heap.size, 2, none⟩ = some (.int .i64 each) := fun y => Since.cell (by simp [go_sem]) (by first | (simp; done) | (simp; omega)) y
  have hb0_3 : ∀ y : Since ((x.w.alloc (.cells #[.int .i64 f, .int .i64 t, .int .i64 each, .int .i64 A.r, .int .i64 A.c, .slice a1 A.l.length c1, .slice a2 n2 c2, .slice a3 n3 c3, .slice a4 n4 c4, .slice a5 N.length c5] 36)).alloc (.cells #[.int .i64 T.r, .int .i64 T.c, .slice a6 T.l.length c6] 31)), y.w.cell? ⟨x.w.heap.size, 3, none⟩ = some (.int .i64 A.r) := fun y => Since.cell (by simp [go_sem]) (by first | (simp; done) | (simp; omega)) y
  have hb0_4 : ∀ y : Since ((x.w.alloc (.cells #[.int .i64 f, .int .i64 t, .int .i64 each, .int .i64 A.r, .int .i64 A.c, .slice a1 A.l.length c1, .slice a2 n2 c2, .slice a3 n3 c3, .slice a4 n4 c4, .slice a5 N.length c5] 36)).alloc (.cells #[.int .i64 T.r, .int .i64 T.c, .slice a6 T.l.length c6] 31)), y.w.cell? ⟨x.w.heap.size, 4, none⟩ = some (.int .i64 A.c) := fun y => Since.cell (by simp [go_sem]) (by first | (simp; done) | (simp; omega)) y
  have hb0_5 : ∀ y : Since ((x.w.alloc (.cells #[.int .i64 f, .int .i64 t, .int .i64 each, .int .i64 A.r, .int .i64 A.c, .slice a1 A.l.length c1, .slice a2 n2 c2, .slice a3 n3 c3, .slice a4 n4 c4, .slice a5 N.length c5] 36)).alloc (.cells #[.int .i64 T.r, .int .i64 T.c, .slice a6 T.l.length c6] 31)), y.w.cell? ⟨x.w.heap.size, 5, none⟩ = some (.slice a1 A.l.length c1) := fun y => Since.cell (by simp [go_sem]) (by first | (simp; done) | (simp; omega)) y
  have hb0_6 : ∀ y : Since ((x.w.alloc (.cells #[.int .i64 f, .int .i64 t, .int .i64 each, .int .i64 A.r, .int .i64 A.c, .slice a1 A.l.length c1, .slice a2 n2 c2, .slice a3 n3 c3, .slice a4 n4 c4, .slice a5 N.length c5] 36)).alloc (.cells #[.int .i64 T.r, .int .i64 T.c, .slice a6 T.l.length c6] 31)), y.w.cell? ⟨x.w.heap.size, 6, none⟩ = some (.slice a2 n2 c2) := fun y => Since.cell (by simp [go_sem]) (by first | (simp; done) | (simp; omega)) y
  have hb0_7 : ∀ y : Since ((x.w.alloc (.cells #[.int .i64 f, .int .i64 t, .int .i64 each, .int .i64 A.r, .int .i64 A.c, .slice a1 A.l.length c1, .slice a2 n2 c2, .slice a3 n3 c3, .slice a4 n4 c4, .slice a5 N.length c5] 36)).alloc (.cells #[.int .i64 T.r, .int .i64 T.c, .slice a6 T.l.length c6] 31)), y.w.cell? ⟨x.w.heap.size, 7, none⟩ = some (.slice a3 n3 c3) := fun y => Since.cell (by simp [go_sem]) (by first | (simp; done) | (simp; omega)) y
  have hb0_8 : ∀ y : Since ((x.w.alloc (.cells #[.int .i64 f, .int .i64 t, .int .i64 each, .int .i64 A.r, .int .i64 A.c, .slice a1 A.l.length c1, .slice a2 n2 c2, .slice a3 n3 c3, .slice a4 n4 c4, .slice a5 N.length c5] 36)).alloc (.cells #[.int .i64 T.r, .int .i64 T.c, .slice a6 T.l.length c6] 31)), y.w.cell? ⟨x.w.heap.size, 8, none⟩ = some (.slice a4 n4 c4) := fun y => Since.cell (by simp [go_sem]) (by first | (simp; done) | (simp; omega)) y
  have hb0_9 : ∀ y : Since ((x.w.alloc (.cells #[.int .i64 f, .int .i64 t, .int .i64 each, .int .i64 A.r, .int .i64 A.c, .slice a1 A.l.length c1, .slice a2 n2 c2, .slice a3 n3 c3, .slice a4 n4 c4, .slice a5 N.length c5] 36)).alloc (.cells #[.int .i64 T.r, .int .i64 T.c, .slice a6 T.l.length c6] 31)), y.w.cell? ⟨x.w.heap.size, 9, none⟩ = some (.slice a5 N.length c5) := fun y => Since.cell (by simp [go_sem]) (by first | (simp; done) | (simp; omega)) y
  have hf0 : ∀ (y : Since ((x.w.alloc (.cells #[.int .i64 f, .int .i64 t, .int .i64 each, .int .i64 A.r, .int .i64 A.c, .slice a1 A.l.length c1, .slice a2 n2 c2, .slice a3 n3 c3, .slice a4 n4 c4, .slice a5 N.length c5] 36)).alloc (.cells #[.int .i64 T.r, .int .i64 T.c, .slice a6 T.l.length c6] 31))) (o : Nat), y.w.frozen? ⟨x.w.heap.size, o, none⟩ = false := fun y o => Since.free (by simp [go_sem]) (by first | (simp; done) | (simp; omega)) y
  have hb1_0 : ∀ y : Since ((x.w.alloc (.cells #[.int .i64 f, .int .i64 t, .int .i64 each, .int .i64 A.r, .int .i64 A.c, .slice a1 A.l.length c1, .slice a2 n2 c2, .slice a3 n3 c3, .slice a4 n4 c4, .slice a5 N.length c5] 36)).alloc (.cells #[.int .i64 T.r, .int .i64 T.c, .slice a6 T.l.length c6] 31)), y.w.cell? ⟨x.w.heap.size + 1, 0, none⟩ = some (.int .i64 T.r) := fun y => Since.cell (by simp [go_sem]) (by first | (simp; done) | (simp; omega)) y
  have hb1_1 : ∀ y : Since ((x.w.alloc (.cells #[.int .i64 f, .int .i64 t, .int .i64 each, .int .i64 A.r, .int .i64 A.c, .slice a1 A.l.length c1, .slice a2 n2 c2, .slice a3 n3 c3, .slice a4 n4 c4, .slice a5 N.length c5] 36)).alloc (.cells #[.int .i64 T.r, .int .i64 T.c, .slice a6 T.l.length c6] 31)), y.w.cell? ⟨x.w.heap.size + 1, 1, none⟩ = some (.int .i64 T.c) := fun y => Since.cell (by simp [go_sem]) (by first | (simp; done) | (simp; omega)) y
  have hb1_2 : ∀ y : Since ((x.w.alloc (.cells #[.int .i64 f, .int .i64 t, .int .i64 each, .int .i64 A.r, .int .i64 A.c, .slice a1 A.l.length c1, .slice a2 n2 c2, .slice a3 n3 c3, .slice a4 n4 c4, .slice a5 N.length c5] 36)).alloc (.cells #[.int .i64 T.r, .int .i64 T.c, .slice a6 T.l.length c6] 31)), y.w.cell? ⟨x.w.heap.size + 1, 2, none⟩ = some (.slice a6 T.l.length c6) := fun y => Since.cell (by simp [go_sem]) (by first | (simp; done) | (simp; omega)) y
  have hf1 : ∀ (y : Since ((x.w.alloc (.cells #[.int .i64 f, .int .i64 t, .int .i64 each, .int .i64 A.r, .int .i64 A.c, .slice a1 A.l.length c1, .slice a2 n2 c2, .slice a3 n3 c3, .slice a4 n4 c4, .slice a5 N.length c5] 36)).alloc (.cells #[.int .i64 T.r, .int .i64 T.c, .slice a6 T.l.length c6] 31))) (o : Nat), y.w.frozen? ⟨x.w.heap.size + 1, o, none⟩ = false := fun y o => Since.free (by simp [go_sem]) (by first | (simp; done) | (simp; omega)) y
  have hWup : ∃ z : Since w, ((x.w.alloc (.cells #[.int .i64 f, .int .i64 t, .int .i64 each, .int .i64 A.r, .int .i64 A.c, .slice a1 A.l.length c1, .slice a2 n2 c2, .slice a3 n3 c3, .slice a4 n4 c4, .slice a5 N.length c5] 36)).alloc (.cells #[.int .i64 T.r, .int .i64 T.c, .slice a6 T.l.length c6] 31)) = z.w := Since.allocs x [.cells #[.int .i64 f, .int .i64 t, .int .i64 each, .int .i64 A.r, .int .i64 A.c, .slice a1 A.l.length c1, .slice a2 n2 c2, .slice a3 n3 c3, .slice a4 n4 c4, .slice a5 N.length c5] 36, .cells #[.int .i64 T.r, .int .i64 T.c, .slice a6 T.l.length c6] 31]
  obtain ⟨y0, hy0⟩ := Since.refl ((x.w.alloc (.cells #[.int .i64 f, .int .i64 t, .int .i64 each, .int .i64 A.r, .int .i64 A.c, .slice a1 A.l.length c1, .slice a2 n2 c2, .slice a3 n3 c3, .slice a4 n4 c4, .slice a5 N.length c5] 36)).alloc (.cells #[.int .i64 T.r, .int .i64 T.c, .slice a6 T.l.length c6] 31))
  have Hbx := Lib.hid (And.intro x.b.size (show x.w.heap.size + 2 = ((x.w.alloc (.cells #[.int .i64 f, .int .i64 t, .int .i64 each, .int .i64 A.r, .int .i64 A.c, .slice a1 A.l.length c1, .slice a2 n2 c2, .slice a3 n3 c3, .slice a4 n4 c4, .slice a5 N.length c5] 36)).alloc (.cells #[.int .i64 T.r, .int .i64 T.c, .slice a6 T.l.length c6] 31)).heap.size from by simp))
  generalize hW : ((x.w.alloc (.cells #[.int .i64 f, .int .i64 t, .int .i64 each, .int .i64 A.r, .int .i64 A.c, .slice a1 A.l.length c1, .slice a2 n2 c2, .slice a3 n3 c3, .slice a4 n4 c4, .slice a5 N.length c5] 36)).alloc (.cells #[.int .i64 T.r, .int .i64 T.c, .slice a6 T.l.length c6] 31)) = W at *
  clear hW
  generalize x.w.heap.size = bx at *
  have Hup := Lib.hid (Since.up hWup)
  rw [hy0]
  clear hy0
  have HAw := Lib.hid (fun z : Since W => awake_calls W z (R.out.2.2.to hWup))
  have HF1 := Lib.hid (fun z : Since W => flat_calls W z A.r A.c a1 A.l.length c1)
  have HF2 := Lib.hid (fun z : Since W => flat_calls W z T.r T.c a6 T.l.length c6)
  have HC1 := Lib.hid (fun z : Since W => HC.out W z (R.out.2.2.to hWup) (R.out.1.1.to hWup) (R.out.1.2.to hWup) (R.out.2.1.to hWup))
  have HD1 := Lib.hid (fun (u : World) (hu : IsSince W u) => show Calls Tryd.prog 17 #[.agg #[.int .i64 f, .int .i64 t, .int .i64 each, .int .i64 A.r, .int .i64 A.c, .slice a1 A.l.length c1, .slice a2 n2 c2, .slice a3 n3 c3, .slice a4 n4 c4, .slice a5 N.length c5], .agg #[.int .i64 T.r, .int .i64 T.c, .slice a6 T.l.length c6]] u (ChRes u (chV A T N) (chE A T N)) from HD.out u (Since.self u) ((R.out.1.1.to hWup).to hu) ((R.out.1.2.to hWup).to hu) ((R.out.2.1.to hWup).to hu))
  clear HC HD R hWup hf0 hf1
  by_cases hfl : A.l.length ≤ 100 ∧ T.l.length ≤ 100 ∧ N.length ≤ 40
  · obtain ⟨f1, f2, f3⟩ := hfl
    have d1 : decide ((A.l.length : Int) ≤ 100) = true := decide_eq_true (by omega)
    have d2 : decide ((T.l.length : Int) ≤ 100) = true := decide_eq_true (by omega)
    have d3 : ¬ (40 : Int) < (N.length : Int) := by omega
    clear f1 f2 f3
    go_upto_region 3 with (go_at_call 15; (first | ((with_reducible refine (HF1.out _).mono ?_); rintro _ _ ⟨rfl, z, rfl⟩) | ((with_reducible refine (HF2.out _).mono ?_); rintro _ _ ⟨rfl, z', rfl⟩)))
    clear HF1 HF2 d1 d2 d3
    go_upto_region 4 with (go_at_call 16; ((with_reducible refine (HC1.out _).mono ?_); rintro _ _ ⟨a8, c8, y1, rfl, rfl, r8⟩))
    have HR8 := Lib.hid r8
    clear HC1 r8
    go_upto_region 5 with (go_at_call 17; ((with_reducible refine (HD1.out _ (IsSince.of y1)).mono ?_); rintro _ _ ⟨a9, c9, y2, rfl, rfl, r9⟩))
    have HI := Lib.hid (show Calls Tryd.prog 18 #[.slice a8 (chV A T N).length c8, .slice a9 (chV A T N).length c9] y2.w (fun o w' => o = .returned (.bool true) ∧ ∃ y : Since W, w' = y.w) from by
      refine (rints_calls y2.w (Since.self _) a8 a9 _ _ c8 c9 HlV.out HlV.out (Since.row HR8.out y2) r9).mono ?_
      rintro _ _ ⟨rfl, z, rfl⟩
      obtain ⟨z1, e1⟩ := y2.trans z
      obtain ⟨z2, e2⟩ := y1.trans z1
      exact ⟨by rw [decide_eq_true rfl], z2, e1.trans e2⟩)
    clear HD1 r9 HR8 HlV
    go_wp2_with (first | (go_at_call 18; ((with_reducible refine HI.out.mono ?_); rintro _ _ ⟨rfl, y3, rfl⟩)) | (go_at_call 11; ((with_reducible refine (HAw.out _).mono ?_); rintro _ _ ⟨rfl, y4, rfl⟩)))
    go_ret
    exact ⟨rfl, Hup.out _⟩
  · have hx : ¬ A.l.length ≤ 100 ∨ (A.l.length ≤ 100 ∧ ¬ T.l.length ≤ 100) ∨ (A.l.length ≤ 100 ∧ T.l.length ≤ 100 ∧ ¬ N.length ≤ 40) := by omega
    clear hfl HC1 HD1
    rcases hx with h1 | ⟨h1, h2⟩ | ⟨h1, h2, h3⟩
    · have d1 : decide ((A.l.length : Int) ≤ 100) = false := decide_eq_false (by omega)
      clear h1
      go_wp2_with (first | (go_at_call 15; (first | ((with_reducible refine (HF1.out _).mono ?_); rintro _ _ ⟨rfl, z, rfl⟩) | ((with_reducible refine (HF2.out _).mono ?_); rintro _ _ ⟨rfl, z', rfl⟩))) | (go_at_call 11; ((with_reducible refine (HAw.out _).mono ?_); rintro _ _ ⟨rfl, y4, rfl⟩)))
      go_ret
      exact ⟨rfl, Hup.out _⟩
    · have d1 : decide ((A.l.length : Int) ≤ 100) = true := decide_eq_true (by omega)
      have d2 : decide ((T.l.length : Int) ≤ 100) = false := decide_eq_false (by omega)
      clear h1 h2
      go_wp2_with (first | (go_at_call 15; (first | ((with_reducible refine (HF1.out _).mono ?_); rintro _ _ ⟨rfl, z, rfl⟩) | ((with_reducible refine (HF2.out _).mono ?_); rintro _ _ ⟨rfl, z', rfl⟩))) | (go_at_call 11; ((with_reducible refine (HAw.out _).mono ?_); rintro _ _ ⟨rfl, y4, rfl⟩)))
      go_ret
      exact ⟨rfl, Hup.out _⟩
    · have d1 : decide ((A.l.length : Int) ≤ 100) = true := decide_eq_true (by omega)
      have d2 : decide ((T.l.length : Int) ≤ 100) = true := decide_eq_true (by omega)
      have d3 : (40 : Int) < (N.length : Int) := by omega
      clear h1 h2 h3
      go_wp2_with (first | (go_at_call 15; (first | ((with_reducible refine (HF1.out _).mono ?_); rintro _ _ ⟨rfl, z, rfl⟩) | ((with_reducible refine (HF2.out _).mono ?_); rintro _ _ ⟨rfl, z', rfl⟩))) | (go_at_call 11; ((with_reducible refine (HAw.out _).mono ?_); rintro _ _ ⟨rfl, y4, rfl⟩)))
      go_ret
      exact ⟨rfl, Hup.out _⟩
end Go.Proofs.YtdkcclngionihaaDoor
