/- The laws of replicas: GossipNil. -/
import Derived.Test.YtcpfogbjbinjcaaGsN
set_option linter.all false
namespace Go.Proofs.Ytcpfogbjbinjcaa
open Go.RowKit Go.ChangeMaps

set_option maxRecDepth 100000 in
set_option maxHeartbeats 4000000 in
theorem gossipNil_calls (w : World) (x : Since w) (d q a t k b p r i : Int) (v : Value) : Calls Try.prog 11 #[.agg #[.int .i64 d, .int .i64 q, .int .i64 a, .int .i64 t, .int .i64 k, .int .i64 b, .int .i64 p, .int .i64 r, .int .i64 i], v] x.w fun o w' => o = .returned (.bool true) ∧ ∃ y : Since w, w' = y.w := by
  go_enter Try.func11, Try.ntmps11
  go_upto_region 1 with fail
  have hb0_0 : ∀ y : Since (x.w.alloc (.cells #[.int .i64 d, .int .i64 q, .int .i64 a, .int .i64 t, .int .i64 k, .int .i64 b, .int .i64 p, .int .i64 r, .int .i64 i] 33)), y.w.cell? ⟨x.w.heap.size, 0, none⟩ = some (.int .i64 d) := fun y => Since.cell (by simp [go_sem]) (by first | (simp; done) | (simp; omega)) y
  have hb0_1 : ∀ y : Since (x.w.alloc (.cells #[.int .i64 d, .int .i64 q, .int .i64 a, .int .i64 t, .int .i64 k, .int .i64 b, .int .i64 p, .int .i64 r, .int .i64 i] 33)), y.w.cell? ⟨x.w.heap.size, 1, none⟩ = some (.int .i64 q) := fun y => Since.cell (by simp [go_sem]) (by first | (simp; done) | (simp; omega)) y
  have hb0_2 : ∀ y : Since (x.w.alloc (.cells #[.int .i64 d, .int .i64 q, .int .i64 a, .int .i64 t, .int .i64 k, .int .i64 b, .int .i64 p, .int .i64 r, .int .i64 i] 33)), y.w.cell? ⟨x.w.heap.size, 2, none⟩ = some (.int .i64 a) := fun y => Since.cell (by simp [go_sem]) (by first | (simp; done) | (simp; omega)) y
  have hb0_3 : ∀ y : Since (x.w.alloc (.cells #[.int .i64 d, .int .i64 q, .int .i64 a, .int .i64 t, .int .i64 k, .int .i64 b, .int .i64 p, .int .i64 r, .int .i64 i] 33)), y.w.cell? ⟨x.w.heap.size, 3, none⟩ = some (.int .i64 t) := fun y => Since.cell (by simp [go_sem]) (by first | (simp; done) | (simp; omega)) y
  have hb0_4 : ∀ y : Since (x.w.alloc (.cells #[.int .i64 d, .int .i64 q, .int .i64 a, .int .i64 t, .int .i64 k, .int .i64 b, .int .i64 p, .int .i64 r, .int .i64 i] 33)), y.w.cell? ⟨x.w.heap.size, 4, none⟩ = some (.int .i64 k) := fun y => Since.cell (by simp [go_sem]) (by first | (simp; done) | (simp; omega)) y
  have hb0_5 : ∀ y : Since (x.w.alloc (.cells #[.int .i64 d, .int .i64 q, .int .i64 a, .int .i64 t, .int .i64 k, .int .i64 b, .int .i64 p, .int .i64 r, .int .i64 i] 33)), y.w.cell? ⟨x.w.heap.size, 5, none⟩ = some (.int .i64 b) := fun y => Since.cell (by simp [go_sem]) (by first | (simp; done) | (simp; omega)) y
  have hb0_6 : ∀ y : Since (x.w.alloc (.cells #[.int .i64 d, .int .i64 q, .int .i64 a, .int .i64 t, .int .i64 k, .int .i64 b, .int .i64 p, .int .i64 r, .int .i64 i] 33)), y.w.cell? ⟨x.w.heap.size, 6, none⟩ = some (.int .i64 p) := fun y => Since.cell (by simp [go_sem]) (by first | (simp; done) | (simp; omega)) y
  have hb0_7 : ∀ y : Since (x.w.alloc (.cells #[.int .i64 d, .int .i64 q, .int .i64 a, .int .i64 t, .int .i64 k, .int .i64 b, .int .i64 p, .int .i64 r, .int .i64 i] 33)), y.w.cell? ⟨x.w.heap.size, 7, none⟩ = some (.int .i64 r) := fun y => Since.cell (by simp [go_sem]) (by first | (simp; done) | (simp; omega)) y
  have hb0_8 : ∀ y : Since (x.w.alloc (.cells #[.int .i64 d, .int .i64 q, .int .i64 a, .int .i64 t, .int .i64 k, .int .i64 b, .int .i64 p, .int .i64 r, .int .i64 i] 33)), y.w.cell? ⟨x.w.heap.size, 8, none⟩ = some (.int .i64 i) := fun y => Since.cell (by simp [go_sem]) (by first | (simp; done) | (simp; omega)) y
  have hf0 : ∀ (y : Since (x.w.alloc (.cells #[.int .i64 d, .int .i64 q, .int .i64 a, .int .i64 t, .int .i64 k, .int .i64 b, .int .i64 p, .int .i64 r, .int .i64 i] 33))) (o : Nat), y.w.frozen? ⟨x.w.heap.size, o, none⟩ = false := fun y o => Since.free (by simp [go_sem]) (by first | (simp; done) | (simp; omega)) y
  have hWup : ∃ z : Since w, (x.w.alloc (.cells #[.int .i64 d, .int .i64 q, .int .i64 a, .int .i64 t, .int .i64 k, .int .i64 b, .int .i64 p, .int .i64 r, .int .i64 i] 33)) = z.w := x.alloc _
  obtain ⟨y0, hy0⟩ := Since.refl (x.w.alloc (.cells #[.int .i64 d, .int .i64 q, .int .i64 a, .int .i64 t, .int .i64 k, .int .i64 b, .int .i64 p, .int .i64 r, .int .i64 i] 33))
  have Hbx := Lib.hid (And.intro x.b.size (show x.w.heap.size + 1 = (x.w.alloc (.cells #[.int .i64 d, .int .i64 q, .int .i64 a, .int .i64 t, .int .i64 k, .int .i64 b, .int .i64 p, .int .i64 r, .int .i64 i] 33)).heap.size from by simp))
  generalize hW : (x.w.alloc (.cells #[.int .i64 d, .int .i64 q, .int .i64 a, .int .i64 t, .int .i64 k, .int .i64 b, .int .i64 p, .int .i64 r, .int .i64 i] 33)) = W at *
  clear hW
  generalize x.w.heap.size = bx at *
  have Hup := Lib.hid (Since.up hWup)
  rw [hy0]
  clear hy0
  clear hWup
  go_wp2_with (first
    | (go_at_call 16; refine (nil_add W _ _ _ _ _ _ _ _ _ _).mono ?_; rintro _ _ ⟨rfl, y1, rfl⟩)
    | (go_at_call 19; refine (nil_events W _).mono ?_; rintro _ _ ⟨rfl, y1, rfl⟩)
    | (go_at_call 23; refine (nil_seen W _).mono ?_; rintro _ _ ⟨rfl, y1, rfl⟩)
    | (go_at_call 32; refine (nil_since W _ _).mono ?_; rintro _ _ ⟨rfl, y1, rfl⟩)
    | (go_at_call 24; refine (nil_horizon W _).mono ?_; rintro _ _ ⟨rfl, y1, rfl⟩)
    | (go_at_call 28; refine (nil_merge W _ _).mono ?_; rintro _ _ ⟨rfl, y1, rfl⟩)
    | (go_at_call 26; refine (nil_copy W _).mono ?_; rintro _ _ ⟨rfl, y1, rfl⟩)
    | (go_at_call 12; refine (awake_calls W _).mono ?_; rintro _ _ ⟨rfl, y1, rfl⟩))
  go_ret
  exact ⟨rfl, Hup.out _⟩
end Go.Proofs.Ytcpfogbjbinjcaa
