/- The walks of replicas, fifth part: Less, the order of the sort. -/
import Derived.Test.YtcpfogbjbinjcaaGsW4
import Derived.Test.YtcpfogbjbinjcaaSortK
import Derived.Test.YtcpfogbjbinjcaaMapW
set_option linter.all false
namespace Go.Proofs.Ytcpfogbjbinjcaa
open Go.RowKit Go.ChangeMaps Go.Sort

theorem ecmp_less (x y : Ev) : decide (ecmp x y < 0) = less x y := by
  unfold ecmp
  cases h : less x y
  · cases h2 : less y x <;> simp
  · simp
set_option maxHeartbeats 1000000 in
theorem less_calls (x y : Ev) (w : World) : Calls Try.prog 45 #[x.ag, y.ag] w fun e w' => e = .returned (.bool (less x y)) ∧ Gr w w' := by
  have hc := ecmp_calls x y
  have hl := ecmp_less x y
  generalize ecmp x y = c at *
  generalize less x y = b at *
  have HL := Lib.hid hl
  have Hc := Lib.hid hc
  clear hl hc
  unfold Ev.ag
  go_enter Try.func45, Try.ntmps45
  go_wp2_with fail
  refine (Hc.out _).mono ?_
  rintro _ w' ⟨rfl, hg⟩
  have hG := ((Gr.alloc _ _).trans (Gr.alloc _ _)).trans hg
  have HG := Lib.hid hG
  clear hG hg
  go_wp2_with fail
  go_ret
  exact ⟨ret_bool HL.out, HG.out⟩
set_option maxHeartbeats 1000000 in
theorem order_calls (u v : Ev) (w : World) : Calls Try.prog 40 #[u.ag, v.ag] w fun e w' => e = .returned (.int .i64 (ecmp u v)) ∧ Gr w w' := by
  have h1 := less_calls u v
  have h2 := less_calls v u
  have he : ecmp u v = if less u v then -1 else if less v u then 1 else 0 := rfl
  generalize ecmp u v = c at *
  cases hxy : less u v
  · rw [hxy] at h1 he
    cases hyx : less v u
    all_goals
      rw [hyx] at h2 he
      have H1 := Lib.hid h1; have H2 := Lib.hid h2; have HE := Lib.hid he
      clear h1 h2 he hxy hyx
      unfold Ev.ag
      go_enter Try.func40, Try.ntmps40
      go_upto_region 1 with fail
      have hb0_0 : ∀ y : GrW ((w.alloc (.cells #[.int .i64 u.d, .int .i64 u.q, .int .i64 u.a, .int .i64 u.t, .int .i64 u.k, .int .i64 u.b, .int .i64 u.p, .int .i64 u.r, .int .i64 u.i] 33)).alloc (.cells #[.int .i64 v.d, .int .i64 v.q, .int .i64 v.a, .int .i64 v.t, .int .i64 v.k, .int .i64 v.b, .int .i64 v.p, .int .i64 v.r, .int .i64 v.i] 33)), y.w.cell? ⟨w.heap.size, 0, none⟩ = some (.int .i64 u.d) := GrW.cell (by simp [go_sem])
      have hb0_1 : ∀ y : GrW ((w.alloc (.cells #[.int .i64 u.d, .int .i64 u.q, .int .i64 u.a, .int .i64 u.t, .int .i64 u.k, .int .i64 u.b, .int .i64 u.p, .int .i64 u.r, .int .i64 u.i] 33)).alloc (.cells #[.int .i64 v.d, .int .i64 v.q, .int .i64 v.a, .int .i64 v.t, .int .i64 v.k, .int .i64 v.b, .int .i64 v.p, .int .i64 v.r, .int .i64 v.i] 33)), y.w.cell? ⟨w.heap.size, 1, none⟩ = some (.int .i64 u.q) := GrW.cell (by simp [go_sem])
      have hb0_2 : ∀ y : GrW ((w.alloc (.cells #[.int .i64 u.d, .int .i64 u.q, .int .i64 u.a, .int .i64 u.t, .int .i64 u.k, .int .i64 u.b, .int .i64 u.p, .int .i64 u.r, .int .i64 u.i] 33)).alloc (.cells #[.int .i64 v.d, .int .i64 v.q, .int .i64 v.a, .int .i64 v.t, .int .i64 v.k, .int .i64 v.b, .int .i64 v.p, .int .i64 v.r, .int .i64 v.i] 33)), y.w.cell? ⟨w.heap.size, 2, none⟩ = some (.int .i64 u.a) := GrW.cell (by simp [go_sem])
      have hb0_3 : ∀ y : GrW ((w.alloc (.cells #[.int .i64 u.d, .int .i64 u.q, .int .i64 u.a, .int .i64 u.t, .int .i64 u.k, .int .i64 u.b, .int .i64 u.p, .int .i64 u.r, .int .i64 u.i] 33)).alloc (.cells #[.int .i64 v.d, .int .i64 v.q, .int .i64 v.a, .int .i64 v.t, .int .i64 v.k, .int .i64 v.b, .int .i64 v.p, .int .i64 v.r, .int .i64 v.i] 33)), y.w.cell? ⟨w.heap.size, 3, none⟩ = some (.int .i64 u.t) := GrW.cell (by simp [go_sem])
      have hb0_4 : ∀ y : GrW ((w.alloc (.cells #[.int .i64 u.d, .int .i64 u.q, .int .i64 u.a, .int .i64 u.t, .int .i64 u.k, .int .i64 u.b, .int .i64 u.p, .int .i64 u.r, .int .i64 u.i] 33)).alloc (.cells #[.int .i64 v.d, .int .i64 v.q, .int .i64 v.a, .int .i64 v.t, .int .i64 v.k, .int .i64 v.b, .int .i64 v.p, .int .i64 v.r, .int .i64 v.i] 33)), y.w.cell? ⟨w.heap.size, 4, none⟩ = some (.int .i64 u.k) := GrW.cell (by simp [go_sem])
      have hb0_5 : ∀ y : GrW ((w.alloc (.cells #[.int .i64 u.d, .int .i64 u.q, .int .i64 u.a, .int .i64 u.t, .int .i64 u.k, .int .i64 u.b, .int .i64 u.p, .int .i64 u.r, .int .i64 u.i] 33)).alloc (.cells #[.int .i64 v.d, .int .i64 v.q, .int .i64 v.a, .int .i64 v.t, .int .i64 v.k, .int .i64 v.b, .int .i64 v.p, .int .i64 v.r, .int .i64 v.i] 33)), y.w.cell? ⟨w.heap.size, 5, none⟩ = some (.int .i64 u.b) := GrW.cell (by simp [go_sem])
      have hb0_6 : ∀ y : GrW ((w.alloc (.cells #[.int .i64 u.d, .int .i64 u.q, .int .i64 u.a, .int .i64 u.t, .int .i64 u.k, .int .i64 u.b, .int .i64 u.p, .int .i64 u.r, .int .i64 u.i] 33)).alloc (.cells #[.int .i64 v.d, .int .i64 v.q, .int .i64 v.a, .int .i64 v.t, .int .i64 v.k, .int .i64 v.b, .int .i64 v.p, .int .i64 v.r, .int .i64 v.i] 33)), y.w.cell? ⟨w.heap.size, 6, none⟩ = some (.int .i64 u.p) := GrW.cell (by simp [go_sem])
      have hb0_7 : ∀ y : GrW ((w.alloc (.cells #[.int .i64 u.d, .int .i64 u.q, .int .i64 u.a, .int .i64 u.t, .int .i64 u.k, .int .i64 u.b, .int .i64 u.p, .int .i64 u.r, .int .i64 u.i] 33)).alloc (.cells #[.int .i64 v.d, .int .i64 v.q, .int .i64 v.a, .int .i64 v.t, .int .i64 v.k, .int .i64 v.b, .int .i64 v.p, .int .i64 v.r, .int .i64 v.i] 33)), y.w.cell? ⟨w.heap.size, 7, none⟩ = some (.int .i64 u.r) := GrW.cell (by simp [go_sem])
      have hb0_8 : ∀ y : GrW ((w.alloc (.cells #[.int .i64 u.d, .int .i64 u.q, .int .i64 u.a, .int .i64 u.t, .int .i64 u.k, .int .i64 u.b, .int .i64 u.p, .int .i64 u.r, .int .i64 u.i] 33)).alloc (.cells #[.int .i64 v.d, .int .i64 v.q, .int .i64 v.a, .int .i64 v.t, .int .i64 v.k, .int .i64 v.b, .int .i64 v.p, .int .i64 v.r, .int .i64 v.i] 33)), y.w.cell? ⟨w.heap.size, 8, none⟩ = some (.int .i64 u.i) := GrW.cell (by simp [go_sem])
      have hb1_0 : ∀ y : GrW ((w.alloc (.cells #[.int .i64 u.d, .int .i64 u.q, .int .i64 u.a, .int .i64 u.t, .int .i64 u.k, .int .i64 u.b, .int .i64 u.p, .int .i64 u.r, .int .i64 u.i] 33)).alloc (.cells #[.int .i64 v.d, .int .i64 v.q, .int .i64 v.a, .int .i64 v.t, .int .i64 v.k, .int .i64 v.b, .int .i64 v.p, .int .i64 v.r, .int .i64 v.i] 33)), y.w.cell? ⟨w.heap.size + 1, 0, none⟩ = some (.int .i64 v.d) := GrW.cell (by simp [go_sem])
      have hb1_1 : ∀ y : GrW ((w.alloc (.cells #[.int .i64 u.d, .int .i64 u.q, .int .i64 u.a, .int .i64 u.t, .int .i64 u.k, .int .i64 u.b, .int .i64 u.p, .int .i64 u.r, .int .i64 u.i] 33)).alloc (.cells #[.int .i64 v.d, .int .i64 v.q, .int .i64 v.a, .int .i64 v.t, .int .i64 v.k, .int .i64 v.b, .int .i64 v.p, .int .i64 v.r, .int .i64 v.i] 33)), y.w.cell? ⟨w.heap.size + 1, 1, none⟩ = some (.int .i64 v.q) := GrW.cell (by simp [go_sem])
      have hb1_2 : ∀ y : GrW ((w.alloc (.cells #[.int .i64 u.d, .int .i64 u.q, .int .i64 u.a, .int .i64 u.t, .int .i64 u.k, .int .i64 u.b, .int .i64 u.p, .int .i64 u.r, .int .i64 u.i] 33)).alloc (.cells #[.int .i64 v.d, .int .i64 v.q, .int .i64 v.a, .int .i64 v.t, .int .i64 v.k, .int .i64 v.b, .int .i64 v.p, .int .i64 v.r, .int .i64 v.i] 33)), y.w.cell? ⟨w.heap.size + 1, 2, none⟩ = some (.int .i64 v.a) := GrW.cell (by simp [go_sem])
      have hb1_3 : ∀ y : GrW ((w.alloc (.cells #[.int .i64 u.d, .int .i64 u.q, .int .i64 u.a, .int .i64 u.t, .int .i64 u.k, .int .i64 u.b, .int .i64 u.p, .int .i64 u.r, .int .i64 u.i] 33)).alloc (.cells #[.int .i64 v.d, .int .i64 v.q, .int .i64 v.a, .int .i64 v.t, .int .i64 v.k, .int .i64 v.b, .int .i64 v.p, .int .i64 v.r, .int .i64 v.i] 33)), y.w.cell? ⟨w.heap.size + 1, 3, none⟩ = some (.int .i64 v.t) := GrW.cell (by simp [go_sem])
      have hb1_4 : ∀ y : GrW ((w.alloc (.cells #[.int .i64 u.d, .int .i64 u.q, .int .i64 u.a, .int .i64 u.t, .int .i64 u.k, .int .i64 u.b, .int .i64 u.p, .int .i64 u.r, .int .i64 u.i] 33)).alloc (.cells #[.int .i64 v.d, .int .i64 v.q, .int .i64 v.a, .int .i64 v.t, .int .i64 v.k, .int .i64 v.b, .int .i64 v.p, .int .i64 v.r, .int .i64 v.i] 33)), y.w.cell? ⟨w.heap.size + 1, 4, none⟩ = some (.int .i64 v.k) := GrW.cell (by simp [go_sem])
      have hb1_5 : ∀ y : GrW ((w.alloc (.cells #[.int .i64 u.d, .int .i64 u.q, .int .i64 u.a, .int .i64 u.t, .int .i64 u.k, .int .i64 u.b, .int .i64 u.p, .int .i64 u.r, .int .i64 u.i] 33)).alloc (.cells #[.int .i64 v.d, .int .i64 v.q, .int .i64 v.a, .int .i64 v.t, .int .i64 v.k, .int .i64 v.b, .int .i64 v.p, .int .i64 v.r, .int .i64 v.i] 33)), y.w.cell? ⟨w.heap.size + 1, 5, none⟩ = some (.int .i64 v.b) := GrW.cell (by simp [go_sem])
      have hb1_6 : ∀ y : GrW ((w.alloc (.cells #[.int .i64 u.d, .int .i64 u.q, .int .i64 u.a, .int .i64 u.t, .int .i64 u.k, .int .i64 u.b, .int .i64 u.p, .int .i64 u.r, .int .i64 u.i] 33)).alloc (.cells #[.int .i64 v.d, .int .i64 v.q, .int .i64 v.a, .int .i64 v.t, .int .i64 v.k, .int .i64 v.b, .int .i64 v.p, .int .i64 v.r, .int .i64 v.i] 33)), y.w.cell? ⟨w.heap.size + 1, 6, none⟩ = some (.int .i64 v.p) := GrW.cell (by simp [go_sem])
      have hb1_7 : ∀ y : GrW ((w.alloc (.cells #[.int .i64 u.d, .int .i64 u.q, .int .i64 u.a, .int .i64 u.t, .int .i64 u.k, .int .i64 u.b, .int .i64 u.p, .int .i64 u.r, .int .i64 u.i] 33)).alloc (.cells #[.int .i64 v.d, .int .i64 v.q, .int .i64 v.a, .int .i64 v.t, .int .i64 v.k, .int .i64 v.b, .int .i64 v.p, .int .i64 v.r, .int .i64 v.i] 33)), y.w.cell? ⟨w.heap.size + 1, 7, none⟩ = some (.int .i64 v.r) := GrW.cell (by simp [go_sem])
      have hb1_8 : ∀ y : GrW ((w.alloc (.cells #[.int .i64 u.d, .int .i64 u.q, .int .i64 u.a, .int .i64 u.t, .int .i64 u.k, .int .i64 u.b, .int .i64 u.p, .int .i64 u.r, .int .i64 u.i] 33)).alloc (.cells #[.int .i64 v.d, .int .i64 v.q, .int .i64 v.a, .int .i64 v.t, .int .i64 v.k, .int .i64 v.b, .int .i64 v.p, .int .i64 v.r, .int .i64 v.i] 33)), y.w.cell? ⟨w.heap.size + 1, 8, none⟩ = some (.int .i64 v.i) := GrW.cell (by simp [go_sem])
      have HG := Lib.hid (show Gr w ((w.alloc (.cells #[.int .i64 u.d, .int .i64 u.q, .int .i64 u.a, .int .i64 u.t, .int .i64 u.k, .int .i64 u.b, .int .i64 u.p, .int .i64 u.r, .int .i64 u.i] 33)).alloc (.cells #[.int .i64 v.d, .int .i64 v.q, .int .i64 v.a, .int .i64 v.t, .int .i64 v.k, .int .i64 v.b, .int .i64 v.p, .int .i64 v.r, .int .i64 v.i] 33)) from (Gr.alloc _ _).trans (Gr.alloc _ _))
      obtain ⟨y0, hy0⟩ := GrW.refl ((w.alloc (.cells #[.int .i64 u.d, .int .i64 u.q, .int .i64 u.a, .int .i64 u.t, .int .i64 u.k, .int .i64 u.b, .int .i64 u.p, .int .i64 u.r, .int .i64 u.i] 33)).alloc (.cells #[.int .i64 v.d, .int .i64 v.q, .int .i64 v.a, .int .i64 v.t, .int .i64 v.k, .int .i64 v.b, .int .i64 v.p, .int .i64 v.r, .int .i64 v.i] 33))
      generalize hW : ((w.alloc (.cells #[.int .i64 u.d, .int .i64 u.q, .int .i64 u.a, .int .i64 u.t, .int .i64 u.k, .int .i64 u.b, .int .i64 u.p, .int .i64 u.r, .int .i64 u.i] 33)).alloc (.cells #[.int .i64 v.d, .int .i64 v.q, .int .i64 v.a, .int .i64 v.t, .int .i64 v.k, .int .i64 v.b, .int .i64 v.p, .int .i64 v.r, .int .i64 v.i] 33)) = W at *
      clear hW
      generalize w.heap.size = bx at *
      rw [hy0]
      clear hy0
      go_wp2_with fail
      refine (H1.out _).mono ?_
      rintro _ w1 ⟨rfl, hg⟩
      obtain ⟨y1, rfl⟩ := GrW.step _ hg
      clear hg
      go_wp2_with fail
      refine (H2.out _).mono ?_
      rintro _ w1 ⟨rfl, hg⟩
      obtain ⟨y2, rfl⟩ := GrW.step _ hg
      clear hg
      go_wp2_with fail
      go_ret
      exact ⟨ret_int HE.out.symm, HG.out.trans y2.g⟩
  · rw [hxy] at h1 he
    have H1 := Lib.hid h1; have HE := Lib.hid he
    clear h1 h2 he hxy
    unfold Ev.ag
    go_enter Try.func40, Try.ntmps40
    go_upto_region 1 with fail
    have hb0_0 : ∀ y : GrW ((w.alloc (.cells #[.int .i64 u.d, .int .i64 u.q, .int .i64 u.a, .int .i64 u.t, .int .i64 u.k, .int .i64 u.b, .int .i64 u.p, .int .i64 u.r, .int .i64 u.i] 33)).alloc (.cells #[.int .i64 v.d, .int .i64 v.q, .int .i64 v.a, .int .i64 v.t, .int .i64 v.k, .int .i64 v.b, .int .i64 v.p, .int .i64 v.r, .int .i64 v.i] 33)), y.w.cell? ⟨w.heap.size, 0, none⟩ = some (.int .i64 u.d) := GrW.cell (by simp [go_sem])
    have hb0_1 : ∀ y : GrW ((w.alloc (.cells #[.int .i64 u.d, .int .i64 u.q, .int .i64 u.a, .int .i64 u.t, .int .i64 u.k, .int .i64 u.b, .int .i64 u.p, .int .i64 u.r, .int .i64 u.i] 33)).alloc (.cells #[.int .i64 v.d, .int .i64 v.q, .int .i64 v.a, .int .i64 v.t, .int .i64 v.k, .int .i64 v.b, .int .i64 v.p, .int .i64 v.r, .int .i64 v.i] 33)), y.w.cell? ⟨w.heap.size, 1, none⟩ = some (.int .i64 u.q) := GrW.cell (by simp [go_sem])
    have hb0_2 : ∀ y : GrW ((w.alloc (.cells #[.int .i64 u.d, .int .i64 u.q, .int .i64 u.a, .int .i64 u.t, .int .i64 u.k, .int .i64 u.b, .int .i64 u.p, .int .i64 u.r, .int .i64 u.i] 33)).alloc (.cells #[.int .i64 v.d, .int .i64 v.q, .int .i64 v.a, .int .i64 v.t, .int .i64 v.k, .int .i64 v.b, .int .i64 v.p, .int .i64 v.r, .int .i64 v.i] 33)), y.w.cell? ⟨w.heap.size, 2, none⟩ = some (.int .i64 u.a) := GrW.cell (by simp [go_sem])
    have hb0_3 : ∀ y : GrW ((w.alloc (.cells #[.int .i64 u.d, .int .i64 u.q, .int .i64 u.a, .int .i64 u.t, .int .i64 u.k, .int .i64 u.b, .int .i64 u.p, .int .i64 u.r, .int .i64 u.i] 33)).alloc (.cells #[.int .i64 v.d, .int .i64 v.q, .int .i64 v.a, .int .i64 v.t, .int .i64 v.k, .int .i64 v.b, .int .i64 v.p, .int .i64 v.r, .int .i64 v.i] 33)), y.w.cell? ⟨w.heap.size, 3, none⟩ = some (.int .i64 u.t) := GrW.cell (by simp [go_sem])
    have hb0_4 : ∀ y : GrW ((w.alloc (.cells #[.int .i64 u.d, .int .i64 u.q, .int .i64 u.a, .int .i64 u.t, .int .i64 u.k, .int .i64 u.b, .int .i64 u.p, .int .i64 u.r, .int .i64 u.i] 33)).alloc (.cells #[.int .i64 v.d, .int .i64 v.q, .int .i64 v.a, .int .i64 v.t, .int .i64 v.k, .int .i64 v.b, .int .i64 v.p, .int .i64 v.r, .int .i64 v.i] 33)), y.w.cell? ⟨w.heap.size, 4, none⟩ = some (.int .i64 u.k) := GrW.cell (by simp [go_sem])
    have hb0_5 : ∀ y : GrW ((w.alloc (.cells #[.int .i64 u.d, .int .i64 u.q, .int .i64 u.a, .int .i64 u.t, .int .i64 u.k, .int .i64 u.b, .int .i64 u.p, .int .i64 u.r, .int .i64 u.i] 33)).alloc (.cells #[.int .i64 v.d, .int .i64 v.q, .int .i64 v.a, .int .i64 v.t, .int .i64 v.k, .int .i64 v.b, .int .i64 v.p, .int .i64 v.r, .int .i64 v.i] 33)), y.w.cell? ⟨w.heap.size, 5, none⟩ = some (.int .i64 u.b) := GrW.cell (by simp [go_sem])
    have hb0_6 : ∀ y : GrW ((w.alloc (.cells #[.int .i64 u.d, .int .i64 u.q, .int .i64 u.a, .int .i64 u.t, .int .i64 u.k, .int .i64 u.b, .int .i64 u.p, .int .i64 u.r, .int .i64 u.i] 33)).alloc (.cells #[.int .i64 v.d, .int .i64 v.q, .int .i64 v.a, .int .i64 v.t, .int .i64 v.k, .int .i64 v.b, .int .i64 v.p, .int .i64 v.r, .int .i64 v.i] 33)), y.w.cell? ⟨w.heap.size, 6, none⟩ = some (.int .i64 u.p) := GrW.cell (by simp [go_sem])
    have hb0_7 : ∀ y : GrW ((w.alloc (.cells #[.int .i64 u.d, .int .i64 u.q, .int .i64 u.a, .int .i64 u.t, .int .i64 u.k, .int .i64 u.b, .int .i64 u.p, .int .i64 u.r, .int .i64 u.i] 33)).alloc (.cells #[.int .i64 v.d, .int .i64 v.q, .int .i64 v.a, .int .i64 v.t, .int .i64 v.k, .int .i64 v.b, .int .i64 v.p, .int .i64 v.r, .int .i64 v.i] 33)), y.w.cell? ⟨w.heap.size, 7, none⟩ = some (.int .i64 u.r) := GrW.cell (by simp [go_sem])
    have hb0_8 : ∀ y : GrW ((w.alloc (.cells #[.int .i64 u.d, .int .i64 u.q, .int .i64 u.a, .int .i64 u.t, .int .i64 u.k, .int .i64 u.b, .int .i64 u.p, .int .i64 u.r, .int .i64 u.i] 33)).alloc (.cells #[.int .i64 v.d, .int .i64 v.q, .int .i64 v.a, .int .i64 v.t, .int .i64 v.k, .int .i64 v.b, .int .i64 v.p, .int .i64 v.r, .int .i64 v.i] 33)), y.w.cell? ⟨w.heap.size, 8, none⟩ = some (.int .i64 u.i) := GrW.cell (by simp [go_sem])
    have hb1_0 : ∀ y : GrW ((w.alloc (.cells #[.int .i64 u.d, .int .i64 u.q, .int .i64 u.a, .int .i64 u.t, .int .i64 u.k, .int .i64 u.b, .int .i64 u.p, .int .i64 u.r, .int .i64 u.i] 33)).alloc (.cells #[.int .i64 v.d, .int .i64 v.q, .int .i64 v.a, .int .i64 v.t, .int .i64 v.k, .int .i64 v.b, .int .i64 v.p, .int .i64 v.r, .int .i64 v.i] 33)), y.w.cell? ⟨w.heap.size + 1, 0, none⟩ = some (.int .i64 v.d) := GrW.cell (by simp [go_sem])
    have hb1_1 : ∀ y : GrW ((w.alloc (.cells #[.int .i64 u.d, .int .i64 u.q, .int .i64 u.a, .int .i64 u.t, .int .i64 u.k, .int .i64 u.b, .int .i64 u.p, .int .i64 u.r, .int .i64 u.i] 33)).alloc (.cells #[.int .i64 v.d, .int .i64 v.q, .int .i64 v.a, .int .i64 v.t, .int .i64 v.k, .int .i64 v.b, .int .i64 v.p, .int .i64 v.r, .int .i64 v.i] 33)), y.w.cell? ⟨w.heap.size + 1, 1, none⟩ = some (.int .i64 v.q) := GrW.cell (by simp [go_sem])
    have hb1_2 : ∀ y : GrW ((w.alloc (.cells #[.int .i64 u.d, .int .i64 u.q, .int .i64 u.a, .int .i64 u.t, .int .i64 u.k, .int .i64 u.b, .int .i64 u.p, .int .i64 u.r, .int .i64 u.i] 33)).alloc (.cells #[.int .i64 v.d, .int .i64 v.q, .int .i64 v.a, .int .i64 v.t, .int .i64 v.k, .int .i64 v.b, .int .i64 v.p, .int .i64 v.r, .int .i64 v.i] 33)), y.w.cell? ⟨w.heap.size + 1, 2, none⟩ = some (.int .i64 v.a) := GrW.cell (by simp [go_sem])
    have hb1_3 : ∀ y : GrW ((w.alloc (.cells #[.int .i64 u.d, .int .i64 u.q, .int .i64 u.a, .int .i64 u.t, .int .i64 u.k, .int .i64 u.b, .int .i64 u.p, .int .i64 u.r, .int .i64 u.i] 33)).alloc (.cells #[.int .i64 v.d, .int .i64 v.q, .int .i64 v.a, .int .i64 v.t, .int .i64 v.k, .int .i64 v.b, .int .i64 v.p, .int .i64 v.r, .int .i64 v.i] 33)), y.w.cell? ⟨w.heap.size + 1, 3, none⟩ = some (.int .i64 v.t) := GrW.cell (by simp [go_sem])
    have hb1_4 : ∀ y : GrW ((w.alloc (.cells #[.int .i64 u.d, .int .i64 u.q, .int .i64 u.a, .int .i64 u.t, .int .i64 u.k, .int .i64 u.b, .int .i64 u.p, .int .i64 u.r, .int .i64 u.i] 33)).alloc (.cells #[.int .i64 v.d, .int .i64 v.q, .int .i64 v.a, .int .i64 v.t, .int .i64 v.k, .int .i64 v.b, .int .i64 v.p, .int .i64 v.r, .int .i64 v.i] 33)), y.w.cell? ⟨w.heap.size + 1, 4, none⟩ = some (.int .i64 v.k) := GrW.cell (by simp [go_sem])
    have hb1_5 : ∀ y : GrW ((w.alloc (.cells #[.int .i64 u.d, .int .i64 u.q, .int .i64 u.a, .int .i64 u.t, .int .i64 u.k, .int .i64 u.b, .int .i64 u.p, .int .i64 u.r, .int .i64 u.i] 33)).alloc (.cells #[.int .i64 v.d, .int .i64 v.q, .int .i64 v.a, .int .i64 v.t, .int .i64 v.k, .int .i64 v.b, .int .i64 v.p, .int .i64 v.r, .int .i64 v.i] 33)), y.w.cell? ⟨w.heap.size + 1, 5, none⟩ = some (.int .i64 v.b) := GrW.cell (by simp [go_sem])
    have hb1_6 : ∀ y : GrW ((w.alloc (.cells #[.int .i64 u.d, .int .i64 u.q, .int .i64 u.a, .int .i64 u.t, .int .i64 u.k, .int .i64 u.b, .int .i64 u.p, .int .i64 u.r, .int .i64 u.i] 33)).alloc (.cells #[.int .i64 v.d, .int .i64 v.q, .int .i64 v.a, .int .i64 v.t, .int .i64 v.k, .int .i64 v.b, .int .i64 v.p, .int .i64 v.r, .int .i64 v.i] 33)), y.w.cell? ⟨w.heap.size + 1, 6, none⟩ = some (.int .i64 v.p) := GrW.cell (by simp [go_sem])
    have hb1_7 : ∀ y : GrW ((w.alloc (.cells #[.int .i64 u.d, .int .i64 u.q, .int .i64 u.a, .int .i64 u.t, .int .i64 u.k, .int .i64 u.b, .int .i64 u.p, .int .i64 u.r, .int .i64 u.i] 33)).alloc (.cells #[.int .i64 v.d, .int .i64 v.q, .int .i64 v.a, .int .i64 v.t, .int .i64 v.k, .int .i64 v.b, .int .i64 v.p, .int .i64 v.r, .int .i64 v.i] 33)), y.w.cell? ⟨w.heap.size + 1, 7, none⟩ = some (.int .i64 v.r) := GrW.cell (by simp [go_sem])
    have hb1_8 : ∀ y : GrW ((w.alloc (.cells #[.int .i64 u.d, .int .i64 u.q, .int .i64 u.a, .int .i64 u.t, .int .i64 u.k, .int .i64 u.b, .int .i64 u.p, .int .i64 u.r, .int .i64 u.i] 33)).alloc (.cells #[.int .i64 v.d, .int .i64 v.q, .int .i64 v.a, .int .i64 v.t, .int .i64 v.k, .int .i64 v.b, .int .i64 v.p, .int .i64 v.r, .int .i64 v.i] 33)), y.w.cell? ⟨w.heap.size + 1, 8, none⟩ = some (.int .i64 v.i) := GrW.cell (by simp [go_sem])
    have HG := Lib.hid (show Gr w ((w.alloc (.cells #[.int .i64 u.d, .int .i64 u.q, .int .i64 u.a, .int .i64 u.t, .int .i64 u.k, .int .i64 u.b, .int .i64 u.p, .int .i64 u.r, .int .i64 u.i] 33)).alloc (.cells #[.int .i64 v.d, .int .i64 v.q, .int .i64 v.a, .int .i64 v.t, .int .i64 v.k, .int .i64 v.b, .int .i64 v.p, .int .i64 v.r, .int .i64 v.i] 33)) from (Gr.alloc _ _).trans (Gr.alloc _ _))
    obtain ⟨y0, hy0⟩ := GrW.refl ((w.alloc (.cells #[.int .i64 u.d, .int .i64 u.q, .int .i64 u.a, .int .i64 u.t, .int .i64 u.k, .int .i64 u.b, .int .i64 u.p, .int .i64 u.r, .int .i64 u.i] 33)).alloc (.cells #[.int .i64 v.d, .int .i64 v.q, .int .i64 v.a, .int .i64 v.t, .int .i64 v.k, .int .i64 v.b, .int .i64 v.p, .int .i64 v.r, .int .i64 v.i] 33))
    generalize hW : ((w.alloc (.cells #[.int .i64 u.d, .int .i64 u.q, .int .i64 u.a, .int .i64 u.t, .int .i64 u.k, .int .i64 u.b, .int .i64 u.p, .int .i64 u.r, .int .i64 u.i] 33)).alloc (.cells #[.int .i64 v.d, .int .i64 v.q, .int .i64 v.a, .int .i64 v.t, .int .i64 v.k, .int .i64 v.b, .int .i64 v.p, .int .i64 v.r, .int .i64 v.i] 33)) = W at *
    clear hW
    generalize w.heap.size = bx at *
    rw [hy0]
    clear hy0
    go_wp2_with fail
    refine (H1.out _).mono ?_
    rintro _ w1 ⟨rfl, hg⟩
    obtain ⟨y1, rfl⟩ := GrW.step _ hg
    clear hg
    go_wp2_with fail
    go_ret
    exact ⟨ret_int HE.out.symm, HG.out.trans y1.g⟩

end Go.Proofs.Ytcpfogbjbinjcaa
