/- The walks of windows, first part: validity, comparison, search, sort. -/
import Derived.Test.YtnkmngkinjjbfaaDoorClMath
import Derived.Test.YtnkmngkinjjbfaaDoorPsGr
import Derived.Test.YtnkmngkinjjbfaaDoorSortK
import Derived.Test.YtnkmngkinjjbfaaDoorClLay
set_option linter.all false
namespace Go.Proofs.YtnkmngkinjjbfaaDoor
open Go.RowKit Go.Sort Go.Shelf Go.Lib

theorem vw_calls (w : World) (x : Since w) (e : Win) :
    Calls Tryd.prog 22 #[.agg #[.int .i64 e.f, .int .i64 e.t]] x.w fun o w' => o = .returned (.bool (vldW e)) ∧ ∃ y : Since w, w' = y.w := by
  have HG := Lib.hid (vldW_iff e)
  go_enter Tryd.func22, Tryd.ntmps22
  go_upto_region 1 with fail
  have hb0_0 : ∀ y : Since (x.w.alloc (.cells #[.int .i64 e.f, .int .i64 e.t] 30)), y.w.cell? ⟨x.w.heap.size, 0, none⟩ = some (.int .i64 e.f) := fun y => Since.cell (by simp [go_sem]) (by first | (simp; done) | (simp; omega)) y
  have hb0_1 : ∀ y : Since (x.w.alloc (.cells #[.int .i64 e.f, .int .i64 e.t] 30)), y.w.cell? ⟨x.w.heap.size, 1, none⟩ = some (.int .i64 e.t) := fun y => Since.cell (by simp [go_sem]) (by first | (simp; done) | (simp; omega)) y
  have hf0 : ∀ (y : Since (x.w.alloc (.cells #[.int .i64 e.f, .int .i64 e.t] 30))) (o : Nat), y.w.frozen? ⟨x.w.heap.size, o, none⟩ = false := fun y o => Since.free (by simp [go_sem]) (by first | (simp; done) | (simp; omega)) y
  have hWup : ∃ z : Since w, (x.w.alloc (.cells #[.int .i64 e.f, .int .i64 e.t] 30)) = z.w := x.alloc _
  obtain ⟨y0, hy0⟩ := Since.refl (x.w.alloc (.cells #[.int .i64 e.f, .int .i64 e.t] 30))
  have Hbx := Lib.hid (And.intro x.b.size (show x.w.heap.size + 1 = (x.w.alloc (.cells #[.int .i64 e.f, .int .i64 e.t] 30)).heap.size from by simp))
  generalize hW : (x.w.alloc (.cells #[.int .i64 e.f, .int .i64 e.t] 30)) = W at *
  clear hW
  generalize x.w.heap.size = bx at *
  have Hup := Lib.hid (Since.up hWup)
  rw [hy0]
  clear hy0
  clear hWup hf0
  rcases (by omega : e.f < 0 ∨ (0 ≤ e.f ∧ e.t < e.f) ∨ (0 ≤ e.f ∧ e.f ≤ e.t ∧ 4294944000 < e.t) ∨ (0 ≤ e.f ∧ e.f ≤ e.t ∧ e.t ≤ 4294944000)) with h | ⟨h, h'⟩ | ⟨h, h', h''⟩ | ⟨h, h', h''⟩
  case inr.inr.inr =>
    have Hr := Lib.hid (show vldW e = true from HG.out.2 (by omega))
    clear HG
    go_wp2_with fail
    go_ret
    exact ⟨ret_bool (by first | exact Hr.out.symm | (rw [Hr.out]; simp; omega)), Hup.out _⟩
  all_goals
    have Hr := Lib.hid (show vldW e = false by
      cases hg : vldW e
      · rfl
      · have := HG.out.1 hg; omega)
    clear HG
    go_wp2_with fail
    go_ret
    exact ⟨ret_bool (by first | exact Hr.out.symm | (rw [Hr.out]; simp; omega)), Hup.out _⟩
theorem nvw_calls (w : World) (x : Since w) (e : Win) :
    Calls Tryd.prog 46 #[.agg #[.int .i64 e.f, .int .i64 e.t]] x.w fun o w' => o = .returned (.bool (!vldW e)) ∧ ∃ y : Since w, w' = y.w := by
  go_enter Tryd.func46, Tryd.ntmps46
  go_upto_region 1 with fail
  have hb0_0 : ∀ y : Since (x.w.alloc (.cells #[.int .i64 e.f, .int .i64 e.t] 30)), y.w.cell? ⟨x.w.heap.size, 0, none⟩ = some (.int .i64 e.f) := fun y => Since.cell (by simp [go_sem]) (by first | (simp; done) | (simp; omega)) y
  have hb0_1 : ∀ y : Since (x.w.alloc (.cells #[.int .i64 e.f, .int .i64 e.t] 30)), y.w.cell? ⟨x.w.heap.size, 1, none⟩ = some (.int .i64 e.t) := fun y => Since.cell (by simp [go_sem]) (by first | (simp; done) | (simp; omega)) y
  have hf0 : ∀ (y : Since (x.w.alloc (.cells #[.int .i64 e.f, .int .i64 e.t] 30))) (o : Nat), y.w.frozen? ⟨x.w.heap.size, o, none⟩ = false := fun y o => Since.free (by simp [go_sem]) (by first | (simp; done) | (simp; omega)) y
  have hWup : ∃ z : Since w, (x.w.alloc (.cells #[.int .i64 e.f, .int .i64 e.t] 30)) = z.w := x.alloc _
  obtain ⟨y0, hy0⟩ := Since.refl (x.w.alloc (.cells #[.int .i64 e.f, .int .i64 e.t] 30))
  have Hbx := Lib.hid (And.intro x.b.size (show x.w.heap.size + 1 = (x.w.alloc (.cells #[.int .i64 e.f, .int .i64 e.t] 30)).heap.size from by simp))
  generalize hW : (x.w.alloc (.cells #[.int .i64 e.f, .int .i64 e.t] 30)) = W at *
  clear hW
  generalize x.w.heap.size = bx at *
  have Hup := Lib.hid (Since.up hWup)
  rw [hy0]
  clear hy0
  clear hWup hf0
  have Hc := Lib.hid (fun y : Since W => vw_calls W y e)
  cases hv : vldW e
  all_goals
    have Hv := Lib.hid hv
    rw [hv] at Hc
    clear hv
    go_wp2_with (go_at_call 22; ((with_reducible refine (Hc.out _).mono ?_); rintro _ _ ⟨rfl, y1, rfl⟩))
    go_ret
    exact ⟨ret_bool (by rw [Hv.out]; rfl), Hup.out _⟩
def wcmp (a b : Win) : Int := ccmp a.f b.f
theorem wcmp_calls (a b : Win) (w : World) : Calls Tryd.prog 48 #[.agg #[.int .i64 a.f, .int .i64 a.t], .agg #[.int .i64 b.f, .int .i64 b.t]] w fun e w' => e = .returned (.int .i64 (wcmp a b)) ∧ Gr w w' := by
  have Hv := Lib.hid (show wcmp a b = ccmp a.f b.f from rfl)
  have Hg := Lib.hid ((Gr.alloc w (.cells #[.int .i64 a.f, .int .i64 a.t] 30)).trans (Gr.alloc _ (.cells #[.int .i64 b.f, .int .i64 b.t] 30)))
  go_enter Tryd.func48, Tryd.ntmps48
  go_wp2_with (go_at_call 49; refine (ccmp_calls _ _ _).mono ?_; rintro _ _ ⟨rfl, rfl⟩)
  go_ret
  exact ⟨ret_int Hv.out.symm, Hg.out⟩
theorem ltOf_wcmp : ltOf wcmp = fun a b : Win => decide (a.f < b.f) := by
  funext a b
  show decide (wcmp a b < 0) = _
  unfold wcmp ccmp
  rw [decide_eq_decide]
  split
  · omega
  · split <;> omega
theorem swo_w : SWO (ltOf wcmp) := by
  rw [ltOf_wcmp]
  refine ⟨fun x => by simp, fun x y z h1 h2 => ?_, fun x y z h1 h2 => ?_⟩
  · simp at h1 h2 ⊢; omega
  · simp at h1 h2 ⊢; omega
end Go.Proofs.YtnkmngkinjjbfaaDoor
