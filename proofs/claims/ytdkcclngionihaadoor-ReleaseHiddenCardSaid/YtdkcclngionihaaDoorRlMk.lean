/- The weights of the noise of a release, walked (the program). Written by mkc1.py. -/
import Derived.Test.YtdkcclngionihaaDoorRlMj
set_option linter.all false
namespace Go.Proofs.YtdkcclngionihaaDoor
open Go.RowKit

theorem intrel_ne {a b : Int} (h : a ≠ b) : (a != b) = true := by simpa using h
theorem intrel_eq {a b : Int} (h : a = b) : (a != b) = false := by simpa using h
set_option linter.unusedSimpArgs false in
set_option maxRecDepth 100000 in
set_option maxHeartbeats 8000000 in
theorem chances_calls (w : World) (x : Since w) (hs : Signs w) (f t each : Int) (A T : Tab) (N : List Int) (a1 a2 a3 a4 a5 a6 : Option Addr) (c1 n2 c2 n3 c3 n4 c4 c5 c6 : Nat) (h1 : IntRow w a1 A.l) (h5 : IntRow w a5 N) (h6 : IntRow w a6 T.l) (hl1 : A.l.length ≤ 9223372036854775807) (hl5 : N.length ≤ 9223372036854775807) (hl6 : T.l.length ≤ 9223372036854775807) :
    Calls Tryd.prog 16 #[.agg #[.int .i64 f, .int .i64 t, .int .i64 each, .int .i64 A.r, .int .i64 A.c, .slice a1 A.l.length c1, .slice a2 n2 c2, .slice a3 n3 c3, .slice a4 n4 c4, .slice a5 N.length c5], .agg #[.int .i64 T.r, .int .i64 T.c, .slice a6 T.l.length c6]] x.w (ChRes w (chV A T N) (chE A T N)) := by
  have HAr := Lib.hid h1; have HNr := Lib.hid h5; have HTr := Lib.hid h6; have Hsg := Lib.hid hs
  have Hlen := Lib.hid (And.intro hl1 (And.intro hl5 hl6))
  have HE := Lib.hid (show chE A T N = if chkE A ≠ 0 then chkE A else if chkE T ≠ 0 then chkE T else if A.r ≠ T.r ∨ A.c ≠ T.c then 3 else check N from rfl)
  have HNo := Lib.hid (fun e (h : chE A T N = e) (he : e ≠ 0) (y : Since w) => chres_no h he y)
  have HYes := Lib.hid (fun (h : chE A T N = 0) (y : Since w) g n L => chres_yes (A := A) (T := T) (N := N) h y (g := g) (n := n) (L := L))
  generalize ChRes w (chV A T N) (chE A T N) = PO at *
  generalize chE A T N = E at *
  clear h1 h5 h6 hs hl1 hl5 hl6
  go_enter Tryd.func16, Tryd.ntmps16
  go_upto_region 1 with fail
  have hb0_0 : ∀ y : Since ((x.w.alloc (.cells #[.int .i64 f, .int .i64 t, .int .i64 each, .int .i64 A.r, .int .i64 A.c, .slice a1 A.l.length c1, .slice a2 n2 c2, .slice a3 n3 c3, .slice a4 n4 c4, .slice a5 N.length c5] 36)).alloc (.cells #[.int .i64 T.r, .int .i64 T.c, .slice a6 T.l.length c6] 31)), y.w.cell? ⟨x.w.heap.size, 0, none⟩ = some (.int .i64 f) := fun y => Since.cell (by simp [go_sem]) (by first | (simp; done) | (simp; omega)) y
  have hb0_1 : ∀ y : Since ((x.w.alloc (.cells #[.int .i64 f, .int .i64 t, .int .i64 each, .int .i64 A.r, .int .i64 A.c, .slice a1 A.l.length c1, .slice a2 n2 c2, .slice a3 n3 c3, .slice a4 n4 c4, .slice a5 N.length c5] 36)).alloc (.cells #[.int .i64 T.r, .int .i64 T.c, .slice a6 T.l.length c6] 31)), y.w.cell? ⟨x.w.heap.size, 1, none⟩ = some (.int .i64 t) := fun y => Since.cell (by simp [go_sem]) (by first | (simp; done) | (simp; omega)) y
  have hb0_2 : ∀ y : Since ((x.w.alloc (.cells #[.int .i64 f, .int .i64 t, .int .i64 each, .int .i64 A.r, .int .i64 A.c, .slice a1 A.l.length c1, .slice a2 n2 c2, .slice a3 n3 c3, .slice a4 n4 c4, .slice a5 N.length c5] 36)).alloc (.cells #[.int .i64 T.r, .int .i64 T.c, .slice a6 T.l.length c6] 31)), y.w.cell? ⟨x.w.heap.size, 2, none⟩ = some (.int .i64 each) := fun y => Since.cell (by simp [go_sem]) (by first | (simp; done) | (simp; omega)) y
  have hb0_3 : ∀ y : Since ((x.w.alloc (.cells #[.int .i64 f, .int .i64 t, .int .i64 each, .int .i64 A.r, .int .i64 A.c, .slice a1 A.l.length c1, .slice a2 n2 c2, .slice a3 n3 c3, .slice a4 n4 c4, .slice a5 N.length c5] 36)).alloc (.cells #[.int .i64 T.r, .int .i64 T.c, .slice a6 T.l.length c6] 31)), y.w.cell? ⟨x.w.heap.size, 3, none⟩ = some (.int .i64 A.r) := fun y => Since.cell (by simp [go_sem]) (by first | (simp; done) | (simp; omega)) y
  have hb0_4 : ∀ y : Since ((x.w.alloc (.cells #[.int .i64 f, .int .i64 t, .int .i64 each, .int .i64 A.r, .int .i64 A.c, .slice a1 A.l.length c1, .slice a2 n2 c2, .slice a3 n3 c3, .slice a4 n4 c4, .slice a5 N.length c5] 36)).alloc (.cells #[.int .i64 T.r, .int .i64 T.c, .slice a6 T.l.length c6] 31)), y.w.cell? ⟨x.w.heap.size, 4, none⟩ = some (.int .i64 A.c) := fun y => Since.cell (by simp [go_sem]) (by first | (simp; done) | (simp; omega)) y
  have hb0_5 : ∀ y : Since ((x.w.alloc (.cells #[.int .i64 f, .int .i64 t, .int .i64 each, .int .i64 A.r, .int .i64 A.c, .slice a1 A.l.length c1, .slice a2 n2 c2, .slice a3 n3 c3, .slice a4 n4 c4, .slice a5 N.length c5] 36)).alloc (.cells #[.int .i64 T.r, .int .i64 T.c, .slice a6 T.l.length c6] 31)), y.w.cell? ⟨x.w.heap.size, 5, none⟩ = some (.slice a1 A.l.length c1) := fun y => Since.cell (by simp [go_sem]) (by first | (simp; done) | (simp; omega)) y
  have hb0_6 : ∀ y : Since ((x.w.alloc (.cells #[.int .i64 f, .int .i64 t, .int .i64 each, .int .i64 A.r, .int .i64 A.c, .slice a1 A.l.length c1, .slice a2 n2 c2, .slice a3 n3 c3, .slice a4 n4 c4, .slice a5 N.length c5] 36)).alloc (.cells #[.int .i64 T.r, .int .i64 T.c, .slice a6 T.l.length c6] 31)), y.w.cell? ⟨x.w.heap.size, 6, none⟩ = some (.slice a2 n2 c2) := fun y => Since.cell (by simp [go_sem]) (by first | (simp; done) | (simp; omega)) y
  have hb0_7 : ∀ y : Since ((x.w.alloc (.cells #[.int .i64 f, .int .i64 t, .int .i64 each, .int .i64 A.r, .int .i64 A.c, .slice a1 A.l.length c1, .slice a2 n2 c2, .slice a3 n3 c3, .slice a4 n4 c4, .slice a5 N.length c5] 36)).alloc (.cells #[.int .i64 T.r, .int .i64 T.c, .slice a6 T.l.length c6] 31)), y.w.cell? ⟨x.w.heap.size, 7, none⟩ = some (.slice a3 n3 c3) := fun y => Since.cell (by simp [go_sem]) (by first | (simp; done) | (simp; omega)) y
  have hb0_8 : ∀ y : Since ((x.w.alloc (.cells #[.int .i64 f, .int .i64 t, .int .i64 each, .int .i64 A.r, .int .i64 A.c, .slice a1 A.l.length c1, .slice a2 n2 c2, .slice a3 n3 c3, .slice a4 n4 c4, .slice a5 N.length c5] 36)).alloc (.cells #[.int .i64 T.r, .int .i64 T.c, .slice a6 T.l.length c6] 31)), y.w.cell? ⟨x.w.heap.size, 8, none⟩ = some (.slice a4 n4 c4) := fun y => Since.cell (by simp [go_sem]) (by first | (simp; done) | (simp; omega)) y
  have hb0_9 : ∀ y : Since ((x.w.alloc (.cells #[.int .i64 f, .int .i64 t, .int .i64 each, .int .i64 A.r, .int .i64 A.c, .slice a1 A.l.length c1, .slice a2 n2 c2, .slice a3 n3 c3, .slice a4 n4 c4, .slice a5 N.length c5] 36)).alloc (.cells #[.int .i64 T.r, .int .i64 T.c, .slice a6 T.l.length c6] 31)), y.w.cell? ⟨x.w.heap.size, 9, none⟩ = some (.slice a5 N.length c5) := fun y => Since.cell (by simp [go_sem]) (by first | (simp; done) | (simp; omega)) y
  have hf0 : ∀ (y : Since ((x.w.alloc (.cells #[.int .i64 f, .int .i64 t, .int .i64 each, .int .i64 A.r, .int .i64 A.c, .slice a1 A.l.length c1, .slice a2 n2 c2, .slice a3 n3 c3, .slice a4 n4 c4, .slice a5 N.length c5] 36)).alloc (.cells #[.int .i64 T.r, .int .i64 T.c, .slice a6 T.l.length c6] 31))) (o : Nat), y.w.frozen? ⟨x.w.heap.size, o, none⟩ = false := fun y o => Since.free (by simp [go_sem]) (by first | (simp; done) | (simp; omega)) y
  have hb1_0 : ∀ y : Since ((x.w.alloc (.cells #[.int .i64 f, .int .i64 t, .int .i64 each, .int .i64 A.r, .int .i64 A.c, .slice a1 A.l.length c1, .slice a2 n2 c2, .slice a3 n3 c3, .slice a4 n4 c4, .slice a5 N.length c5] 36)).alloc (.cells #[.int .i64 T.r, .int .i64 T.c, .slice a6 T.l.length c6] 31)), y.w.cell? ⟨x.w.heap.size + 1, 0, none⟩ = some (.int .i64 T.r) := fun y => Since.cell (by simp [go_sem]) (by first | (simp; done) | (simp; omega)) y
  have hb1_1 : ∀ y : Since ((x.w.alloc (.cells #[.int .i64 f, .int .i64 t, .int .i64 each, .int .i64 A.r, .int .i64 A.c, .slice a1 A.l.length c1, .slice a2 n2 c2, .slice a3 n3 c3, .slice a4 n4 c4, .slice a5 N.length c5] 36)).alloc (.cells #[.int .i64 T.r, .int .i64 T.c, .slice a6 T.l.length c6] 31)), y.w.cell? ⟨x.w.heap.size + 1, 1, none⟩ = some (.int .i64 T.c) := fun y => Since.cell (by simp [go_sem]) (by first | (simp; done) | (simp; omega)) y
  have hb1_2 : ∀ y : Since ((x.w.alloc (.cells #[.int .i64 f, .int .i64 t, .int .i64 each, .int .i64 A.r, .int .i64 A.c, .slice a1 A.l.length c1, .slice a2 n2 c2, .slice a3 n3 c3, .slice a4 n4 c4, .slice a5 N.length c5] 36)).alloc (.cells #[.int .i64 T.r, .int .i64 T.c, .slice a6 T.l.length c6] 31)), y.w.cell? ⟨x.w.heap.size + 1, 2, none⟩ = some (.slice a6 T.l.length c6) := fun y => Since.cell (by simp [go_sem]) (by first | (simp; done) | (simp; omega)) y
  have hf1 : ∀ (y : Since ((x.w.alloc (.cells #[.int .i64 f, .int .i64 t, .int .i64 each, .int .i64 A.r, .int .i64 A.c, .slice a1 A.l.length c1, .slice a2 n2 c2, .slice a3 n3 c3, .slice a4 n4 c4, .slice a5 N.length c5] 36)).alloc (.cells #[.int .i64 T.r, .int .i64 T.c, .slice a6 T.l.length c6] 31))) (o : Nat), y.w.frozen? ⟨x.w.heap.size + 1, o, none⟩ = false := fun y o => Since.free (by simp [go_sem]) (by first | (simp; done) | (simp; omega)) y
  have hWup : ∃ z : Since w, ((x.w.alloc (.cells #[.int .i64 f, .int .i64 t, .int .i64 each, .int .i64 A.r, .int .i64 A.c, .slice a1 A.l.length c1, .slice a2 n2 c2, .slice a3 n3 c3, .slice a4 n4 c4, .slice a5 N.length c5] 36)).alloc (.cells #[.int .i64 T.r, .int .i64 T.c, .slice a6 T.l.length c6] 31)) = z.w := Since.allocs x [.cells #[.int .i64 f, .int .i64 t, .int .i64 each, .int .i64 A.r, .int .i64 A.c, .slice a1 A.l.length c1, .slice a2 n2 c2, .slice a3 n3 c3, .slice a4 n4 c4, .slice a5 N.length c5] 36, .cells #[.int .i64 T.r, .int .i64 T.c, .slice a6 T.l.length c6] 31]
  obtain ⟨y0, hy0⟩ := Since.refl ((x.w.alloc (.cells #[.int .i64 f, .int .i64 t, .int .i64 each, .int .i64 A.r, .int .i64 A.c, .slice a1 A.l.length c1, .slice a2 n2 c2, .slice a3 n3 c3, .slice a4 n4 c4, .slice a5 N.length c5] 36)).alloc (.cells #[.int .i64 T.r, .int .i64 T.c, .slice a6 T.l.length c6] 31))
  have Hbx := Lib.hid (And.intro x.b.size (show x.w.heap.size + 2 = ((x.w.alloc (.cells #[.int .i64 f, .int .i64 t, .int .i64 each, .int .i64 A.r, .int .i64 A.c, .slice a1 A.l.length c1, .slice a2 n2 c2, .slice a3 n3 c3, .slice a4 n4 c4, .slice a5 N.length c5] 36)).alloc (.cells #[.int .i64 T.r, .int .i64 T.c, .slice a6 T.l.length c6] 31)).heap.size from by simp))
  generalize hW : ((x.w.alloc (.cells #[.int .i64 f, .int .i64 t, .int .i64 each, .int .i64 A.r, .int .i64 A.c, .slice a1 A.l.length c1, .slice a2 n2 c2, .slice a3 n3 c3, .slice a4 n4 c4, .slice a5 N.length c5] 36)).alloc (.cells #[.int .i64 T.r, .int .i64 T.c, .slice a6 T.l.length c6] 31)) = W at *
  clear hW
  generalize x.w.heap.size = bx at *
  have Hup := Lib.hid (Since.up hWup)
  rw [hy0]
  clear hy0
  replace HAr := Lib.hid (HAr.out.to hWup)
  replace HNr := Lib.hid (HNr.out.to hWup)
  replace HTr := Lib.hid (HTr.out.to hWup)
  replace Hsg := Lib.hid (Hsg.out.to hWup)
  clear hWup hf0 hf1
  have HNo2 := Lib.hid (show ∀ e, E = e → e ≠ 0 → ∀ z : Since W, PO (.returned (.tuple #[.slice none 0 0, .int .i64 e])) z.w from fun e h he z => by obtain ⟨z2, hz⟩ := Hup.out z; rw [hz]; exact HNo.out e h he z2)
  have HA := Lib.hid (show chkE A ≠ 0 → ∀ z : Since W, PO (.returned (.tuple #[.slice none 0 0, .int .i64 (chkE A)])) z.w from fun h => HNo2.out _ (by rw [HE.out, if_pos h]) h)
  have HT := Lib.hid (show chkE A = 0 → chkE T ≠ 0 → ∀ z : Since W, PO (.returned (.tuple #[.slice none 0 0, .int .i64 (chkE T)])) z.w from fun h0 h => HNo2.out _ (by rw [HE.out, if_neg (by rw [h0]; simp), if_pos h]) h)
  obtain ⟨OKJ, hOKJ⟩ : ∃ p : Nat → Prop, p 0 ∧ (chkE A = 0 → p 1) ∧ (p 1 → chkE T = 0 → p 2) ∧ (p 1 → chkE A = 0) ∧ (p 2 → chkE A = 0 ∧ chkE T = 0) :=
    ⟨fun n => (1 ≤ n → chkE A = 0) ∧ (2 ≤ n → chkE T = 0), ⟨fun h => by omega, fun h => by omega⟩, fun h => ⟨fun _ => h, fun h => by omega⟩, fun h1 h => ⟨fun _ => h1.1 (by omega), fun _ => h⟩, fun h => h.1 (by omega), fun h => ⟨h.1 (by omega), h.2 (by omega)⟩⟩
  have HOK := Lib.hid hOKJ
  clear hOKJ
  go_upto_region 2 with fail
  have hx0 : (y0.w.alloc (.cells #[.int .i64 A.r, .int .i64 A.c, .slice a1 A.l.length c1, .int .i64 T.r, .int .i64 T.c, .slice a6 T.l.length c6] 31)).cell? ⟨y0.w.heap.size, 0, none⟩ = some (.int .i64 A.r) := by simp [go_sem]
  have hx1 : (y0.w.alloc (.cells #[.int .i64 A.r, .int .i64 A.c, .slice a1 A.l.length c1, .int .i64 T.r, .int .i64 T.c, .slice a6 T.l.length c6] 31)).cell? ⟨y0.w.heap.size, 1, none⟩ = some (.int .i64 A.c) := by simp [go_sem]
  have hx2 : (y0.w.alloc (.cells #[.int .i64 A.r, .int .i64 A.c, .slice a1 A.l.length c1, .int .i64 T.r, .int .i64 T.c, .slice a6 T.l.length c6] 31)).cell? ⟨y0.w.heap.size, 2, none⟩ = some (.slice a1 A.l.length c1) := by simp [go_sem]
  have hx3 : (y0.w.alloc (.cells #[.int .i64 A.r, .int .i64 A.c, .slice a1 A.l.length c1, .int .i64 T.r, .int .i64 T.c, .slice a6 T.l.length c6] 31)).cell? ⟨y0.w.heap.size, 3, none⟩ = some (.int .i64 T.r) := by simp [go_sem]
  have hx4 : (y0.w.alloc (.cells #[.int .i64 A.r, .int .i64 A.c, .slice a1 A.l.length c1, .int .i64 T.r, .int .i64 T.c, .slice a6 T.l.length c6] 31)).cell? ⟨y0.w.heap.size, 4, none⟩ = some (.int .i64 T.c) := by simp [go_sem]
  have hx5 : (y0.w.alloc (.cells #[.int .i64 A.r, .int .i64 A.c, .slice a1 A.l.length c1, .int .i64 T.r, .int .i64 T.c, .slice a6 T.l.length c6] 31)).cell? ⟨y0.w.heap.size, 5, none⟩ = some (.slice a6 T.l.length c6) := by simp [go_sem]
  have hxf : ∀ o, (y0.w.alloc (.cells #[.int .i64 A.r, .int .i64 A.c, .slice a1 A.l.length c1, .int .i64 T.r, .int .i64 T.c, .slice a6 T.l.length c6] 31)).frozen? ⟨y0.w.heap.size, o, none⟩ = false := fun o => by simp [go_sem]
  have hlt0 : y0.w.heap.size < (y0.w.alloc (.cells #[.int .i64 A.r, .int .i64 A.c, .slice a1 A.l.length c1, .int .i64 T.r, .int .i64 T.c, .slice a6 T.l.length c6] 31)).heap.size := by simp
  have hst0 : ∃ zz : Since y0.w, (y0.w.alloc (.cells #[.int .i64 A.r, .int .i64 A.c, .slice a1 A.l.length c1, .int .i64 T.r, .int .i64 T.c, .slice a6 T.l.length c6] 31)) = zz.w := IsSince.alloc (IsSince.self _) _
  have hsz0 := y0.b.size
  obtain ⟨y1, e2⟩ := IsSince.alloc (IsSince.of y0) (.cells #[.int .i64 A.r, .int .i64 A.c, .slice a1 A.l.length c1, .int .i64 T.r, .int .i64 T.c, .slice a6 T.l.length c6] 31)
  rw [e2] at hx0 hx1 hx2 hx3 hx4 hx5 hxf hlt0 hst0 ⊢
  skip
  clear e2 hst0
  generalize y0.w.heap.size = gs at *
  have Hhx0 : ∀ q : Since y1.w, q.w.cell? ⟨gs, 0, none⟩ = some (.int .i64 A.r) := fun q => Since.cell hx0 (by omega) q
  have Hhx1 : ∀ q : Since y1.w, q.w.cell? ⟨gs, 1, none⟩ = some (.int .i64 A.c) := fun q => Since.cell hx1 (by omega) q
  have Hhx2 : ∀ q : Since y1.w, q.w.cell? ⟨gs, 2, none⟩ = some (.slice a1 A.l.length c1) := fun q => Since.cell hx2 (by omega) q
  have Hhx3 : ∀ q : Since y1.w, q.w.cell? ⟨gs, 3, none⟩ = some (.int .i64 T.r) := fun q => Since.cell hx3 (by omega) q
  have Hhx4 : ∀ q : Since y1.w, q.w.cell? ⟨gs, 4, none⟩ = some (.int .i64 T.c) := fun q => Since.cell hx4 (by omega) q
  have Hhx5 : ∀ q : Since y1.w, q.w.cell? ⟨gs, 5, none⟩ = some (.slice a6 T.l.length c6) := fun q => Since.cell hx5 (by omega) q
  have Hhxf : ∀ (q : Since y1.w) (o : Nat), q.w.frozen? ⟨gs, o, none⟩ = false := fun q o => Since.free (hxf o) (by omega) q
  have Hhxg := Lib.hid (And.intro hsz0 hlt0)
  clear hlt0 hsz0
  clear hx0 hx1 hx2 hx3 hx4 hx5 Hhxf Hhxg hxf
  go_loopw [18] (fun si wr => ∃ (j : Nat) (y : Since y1.w), j ≤ 2 ∧ si = .int .i64 (j : Int) ∧ wr = y.w ∧ OKJ j) (fun si _ => 2 - (intOf si).toNat)
  case atStart => exact ⟨0, Since.self _, by omega, rfl, rfl, HOK.out.1⟩
  case round =>
    obtain ⟨j, y, hj, rfl, rfl, hn⟩ := hrel
    by_cases hlt : j < 2
    · obtain rfl | rfl : j = 0 ∨ j = 1 := by omega
      · rw [show (((0 : Nat)) : Int) = 0 from rfl]
        have HN := Lib.hid (show chkE A ≠ 0 → ∀ z : Since W, PO (.returned (.tuple #[.slice none 0 0, .int .i64 (chkE A)])) z.w from fun hA => HA.out hA)
        have HS := Lib.hid (show chkE A = 0 → OKJ 1 from HOK.out.2.1)
        clear hn
        go_upto_region 4 with fail
        have hy0 : (y.w.alloc (.cells #[.int .i64 A.r, .int .i64 A.c, .slice a1 A.l.length c1] 31)).cell? ⟨y.w.heap.size, 0, none⟩ = some (.int .i64 A.r) := by simp [go_sem]
        have hy1 : (y.w.alloc (.cells #[.int .i64 A.r, .int .i64 A.c, .slice a1 A.l.length c1] 31)).cell? ⟨y.w.heap.size, 1, none⟩ = some (.int .i64 A.c) := by simp [go_sem]
        have hy2 : (y.w.alloc (.cells #[.int .i64 A.r, .int .i64 A.c, .slice a1 A.l.length c1] 31)).cell? ⟨y.w.heap.size, 2, none⟩ = some (.slice a1 A.l.length c1) := by simp [go_sem]
        have hyf : ∀ o, (y.w.alloc (.cells #[.int .i64 A.r, .int .i64 A.c, .slice a1 A.l.length c1] 31)).frozen? ⟨y.w.heap.size, o, none⟩ = false := fun o => by simp [go_sem]
        have hlt0 : y.w.heap.size < (y.w.alloc (.cells #[.int .i64 A.r, .int .i64 A.c, .slice a1 A.l.length c1] 31)).heap.size := by simp
        have hst0 : ∃ zz : Since y.w, (y.w.alloc (.cells #[.int .i64 A.r, .int .i64 A.c, .slice a1 A.l.length c1] 31)) = zz.w := IsSince.alloc (IsSince.self _) _
        have hsz0 := y.b.size
        obtain ⟨y2, e2⟩ := IsSince.alloc (IsSince.of y) (.cells #[.int .i64 A.r, .int .i64 A.c, .slice a1 A.l.length c1] 31)
        rw [e2] at hy0 hy1 hy2 hyf hlt0 hst0 ⊢
        skip
        clear e2 hst0
        generalize y.w.heap.size = gt at *
        have Hhy0 : ∀ q : Since y2.w, q.w.cell? ⟨gt, 0, none⟩ = some (.int .i64 A.r) := fun q => Since.cell hy0 (by omega) q
        have Hhy1 : ∀ q : Since y2.w, q.w.cell? ⟨gt, 1, none⟩ = some (.int .i64 A.c) := fun q => Since.cell hy1 (by omega) q
        have Hhy2 : ∀ q : Since y2.w, q.w.cell? ⟨gt, 2, none⟩ = some (.slice a1 A.l.length c1) := fun q => Since.cell hy2 (by omega) q
        have Hhyf : ∀ (q : Since y2.w) (o : Nat), q.w.frozen? ⟨gt, o, none⟩ = false := fun q o => Since.free (hyf o) (by omega) q
        have Hhyg := Lib.hid (And.intro hsz0 hlt0)
        clear hlt0 hsz0
        obtain ⟨z2, hz2⟩ := y1.trans y2
        have HC := Lib.hid (tcheck_calls y2.w (Since.self y2.w) A a1 c1 ((HAr.out.to ⟨y1, rfl⟩).to ⟨y2, rfl⟩) (by have := Hlen.out; omega))
        change Code.wp _ _ _ _ (Since.self y2.w).w
        clear HA HT hy0 hy1 hy2 Hhyf Hhyg hyf
        go_upto_region 5 with (go_at_call 36; ((with_reducible refine HC.out.mono ?_); rintro _ _ ⟨rfl, y3, rfl⟩))
        clear HC
        obtain ⟨z3, hz3⟩ := y2.trans y3
        have Hz3 := Lib.hid hz3
        clear hz3 hz2
        by_cases h0 : chkE A = 0
        · have HS2 := Lib.hid (HS.out h0)
          rw [h0, Hz3.out]
          clear HN HS h0
          go_wp2_with fail
          go_roundw
          case rel => exact ⟨1, z3, by omega, by go_num, rfl, HS2.out⟩
          case measure => simp [intOf] <;> omega
        · obtain ⟨z4, hz4⟩ := y1.trans z3
          have HN2 := Lib.hid (hz4 ▸ HN.out h0 z4)
          rw [Hz3.out]
          clear HN HS hz4
          generalize chkE A = e at *
          go_wp2_with fail
          exact HN2.out
      · rw [show (((1 : Nat)) : Int) = 1 from rfl]
        have HN := Lib.hid (show chkE T ≠ 0 → ∀ z : Since W, PO (.returned (.tuple #[.slice none 0 0, .int .i64 (chkE T)])) z.w from fun hT => HT.out (HOK.out.2.2.2.1 hn) hT)
        have HS := Lib.hid (show chkE T = 0 → OKJ 2 from HOK.out.2.2.1 hn)
        clear hn
        go_upto_region 4 with fail
        have hy0 : (y.w.alloc (.cells #[.int .i64 T.r, .int .i64 T.c, .slice a6 T.l.length c6] 31)).cell? ⟨y.w.heap.size, 0, none⟩ = some (.int .i64 T.r) := by simp [go_sem]
        have hy1 : (y.w.alloc (.cells #[.int .i64 T.r, .int .i64 T.c, .slice a6 T.l.length c6] 31)).cell? ⟨y.w.heap.size, 1, none⟩ = some (.int .i64 T.c) := by simp [go_sem]
        have hy2 : (y.w.alloc (.cells #[.int .i64 T.r, .int .i64 T.c, .slice a6 T.l.length c6] 31)).cell? ⟨y.w.heap.size, 2, none⟩ = some (.slice a6 T.l.length c6) := by simp [go_sem]
        have hyf : ∀ o, (y.w.alloc (.cells #[.int .i64 T.r, .int .i64 T.c, .slice a6 T.l.length c6] 31)).frozen? ⟨y.w.heap.size, o, none⟩ = false := fun o => by simp [go_sem]
        have hlt0 : y.w.heap.size < (y.w.alloc (.cells #[.int .i64 T.r, .int .i64 T.c, .slice a6 T.l.length c6] 31)).heap.size := by simp
        have hst0 : ∃ zz : Since y.w, (y.w.alloc (.cells #[.int .i64 T.r, .int .i64 T.c, .slice a6 T.l.length c6] 31)) = zz.w := IsSince.alloc (IsSince.self _) _
        have hsz0 := y.b.size
        obtain ⟨y2, e2⟩ := IsSince.alloc (IsSince.of y) (.cells #[.int .i64 T.r, .int .i64 T.c, .slice a6 T.l.length c6] 31)
        rw [e2] at hy0 hy1 hy2 hyf hlt0 hst0 ⊢
        skip
        clear e2 hst0
        generalize y.w.heap.size = gt at *
        have Hhy0 : ∀ q : Since y2.w, q.w.cell? ⟨gt, 0, none⟩ = some (.int .i64 T.r) := fun q => Since.cell hy0 (by omega) q
        have Hhy1 : ∀ q : Since y2.w, q.w.cell? ⟨gt, 1, none⟩ = some (.int .i64 T.c) := fun q => Since.cell hy1 (by omega) q
        have Hhy2 : ∀ q : Since y2.w, q.w.cell? ⟨gt, 2, none⟩ = some (.slice a6 T.l.length c6) := fun q => Since.cell hy2 (by omega) q
        have Hhyf : ∀ (q : Since y2.w) (o : Nat), q.w.frozen? ⟨gt, o, none⟩ = false := fun q o => Since.free (hyf o) (by omega) q
        have Hhyg := Lib.hid (And.intro hsz0 hlt0)
        clear hlt0 hsz0
        obtain ⟨z2, hz2⟩ := y1.trans y2
        have HC := Lib.hid (tcheck_calls y2.w (Since.self y2.w) T a6 c6 ((HTr.out.to ⟨y1, rfl⟩).to ⟨y2, rfl⟩) (by have := Hlen.out; omega))
        change Code.wp _ _ _ _ (Since.self y2.w).w
        clear HA HT hy0 hy1 hy2 Hhyf Hhyg hyf
        go_upto_region 5 with (go_at_call 36; ((with_reducible refine HC.out.mono ?_); rintro _ _ ⟨rfl, y3, rfl⟩))
        clear HC
        obtain ⟨z3, hz3⟩ := y2.trans y3
        have Hz3 := Lib.hid hz3
        clear hz3 hz2
        by_cases h0 : chkE T = 0
        · have HS2 := Lib.hid (HS.out h0)
          rw [h0, Hz3.out]
          clear HN HS h0
          go_wp2_with fail
          go_roundw
          case rel => exact ⟨2, z3, by omega, by go_num, rfl, HS2.out⟩
          case measure => simp [intOf] <;> omega
        · obtain ⟨z4, hz4⟩ := y1.trans z3
          have HN2 := Lib.hid (hz4 ▸ HN.out h0 z4)
          rw [Hz3.out]
          clear HN HS hz4
          generalize chkE T = e at *
          go_wp2_with fail
          exact HN2.out
    · obtain rfl : j = 2 := by omega
      obtain ⟨hA0, hT0⟩ := HOK.out.2.2.2.2 hn
      have HE2 := Lib.hid (show E = if A.r ≠ T.r ∨ A.c ≠ T.c then 3 else check N by rw [HE.out, if_neg (by rw [hA0]; simp), if_neg (by rw [hT0]; simp)])
      have HiA := Lib.hid (chk_inv hA0)
      have HiT := Lib.hid (chk_inv hT0)
      have hT64 := chk_len64 hT0
      have hA64 := chk_len64 hA0
      obtain ⟨z1, hz1⟩ := y1.trans y
      rw [hz1]
      clear HA HT HE HOK hn hA0 hT0 Hhx0 Hhx1 Hhx2 Hhx3 Hhx4 Hhx5 hz1 hj
      by_cases hr : A.r = T.r
      · by_cases hc : A.c = T.c
        · have HE3 := Lib.hid (show E = check N by rw [HE2.out, if_neg (by rw [hr, hc]; simp)])
          have HlA := Lib.hid (show A.l.length = T.l.length from by have h1 := HiA.out.2.2.1; have h2 := HiT.out.2.2.1; rw [hr, hc, ← h2] at h1; omega)
          have hr' := intrel_eq hr
          have hc' := intrel_eq hc
          have HCk := Lib.hid (fun z : Since W => ncheck_calls W z a5 N c5 Hlen.out.2.1 HNr.out)
          have Hr := Lib.hid hr; have Hc := Lib.hid hc
          clear hr hc HE2
          go_upto_region 11 with (go_at_call 37; ((with_reducible refine (HCk.out _).mono ?_); rintro _ _ ⟨rfl, z2, rfl⟩))
          clear hr' hc'
          by_cases h0 : check N = 0
          · have HY2 := Lib.hid (show ∀ (z : Since W) (g : Nat) (L : List Int), L = chL A T N → BoxIs z.w g (L.map (.int .i64)) → PO (.returned (.tuple #[.slice (some ⟨g, 0, none⟩) T.l.length T.l.length, .int .i64 0])) z.w from fun z g L hL hb => by
              obtain ⟨z2, hz⟩ := Hup.out z
              rw [hz] at hb ⊢
              exact HYes.out (HE3.out.trans h0) z2 g _ L hL (by rw [hL]; simp [chL]) hb)
            rw [h0]
            have hmk := fun q : World => make1_run sIntF rfl T.l.length (by omega) (by omega) q
            clear HNo HNo2 HYes HE3 h0 HCk
            go_upto_region 14 with fail
            clear hmk
            obtain ⟨z3, hz3⟩ := z2.alloc (.cells (List.replicate T.l.length (Value.int .i64 0)).toArray 3)
            have hb := BoxIs.new z2.w (List.replicate T.l.length (Value.int .i64 0)) 3
            have hgO : W.heap.size ≤ z2.w.heap.size := z2.b.size
            rw [List.toArray_replicate] at hz3 hb
            rw [hz3] at hb ⊢
            have HB := Lib.hid (show BoxIs z3.w z2.w.heap.size ((List.replicate T.l.length 0).map (.int .i64)) by rw [List.map_replicate]; exact hb)
            clear hb hz3
            generalize z2.w.heap.size = gO at *
            go_upto_region 15 with fail
            go_loopw [55] (fun si wr => ∃ (k : Nat) (L : List Int) (z : Since W), k ≤ T.l.length ∧ si = .int .i64 (k : Int) ∧ wr = z.w ∧ L.length = T.l.length ∧ BoxIs z.w gO (L.map (.int .i64)) ∧ ∀ j, j < k → at0 L j = weight N (at0 A.l j - at0 T.l j)) (fun si _ => T.l.length - (intOf si).toNat)
            case atStart => exact ⟨0, _, z3, by omega, rfl, rfl, by simp, HB.out, fun j hj => by omega⟩
            case round =>
              clear HB
              obtain ⟨k, L, z, hk, rfl, rfl, hl, hB, hw⟩ := hrel
              have HB := Lib.hid hB; have Hl := Lib.hid hl; have Hw := Lib.hid hw
              clear hB hl hw
              by_cases hlt : k < T.l.length
              · have hk0 : (0 : Int) ≤ (k : Int) := by omega
                have hkl : (k : Int) < (T.l.length : Int) := by omega
                have hkA : (k : Int) < (A.l.length : Int) := by have := HlA.out; omega
                obtain ⟨b1, o1, rfl, hb1, hc1'⟩ := HTr.out k hlt
                have f0 : z.w.cell? ⟨b1, o1 + k, none⟩ = some (.int .i64 (at0 T.l k)) := Since.cell hc1' hb1 z
                obtain ⟨b2, o2, rfl, hb2, hc2'⟩ := HAr.out k (by have := HlA.out; omega)
                have f1 : ∀ q : Since W, q.w.cell? ⟨b2, o2 + k, none⟩ = some (.int .i64 (at0 A.l k)) := fun q => Since.cell hc2' hb2 q
                have f1' := Since.cellTo ⟨z, rfl⟩ f1
                clear hb1 hc1' hb2 hc2' f1
                obtain ⟨u1, u2⟩ := HiA.out.2.2.2 k (by have := HlA.out; omega)
                obtain ⟨u3, u4⟩ := HiT.out.2.2.2 k hlt
                have HWt := Lib.hid (fun q : Since z.w => weight_calls z.w q (Hsg.out.to ⟨z, rfl⟩) a5 N c5 (at0 A.l k - at0 T.l k) ⟨by omega, by omega⟩ Hlen.out.2.1 (HNr.out.to ⟨z, rfl⟩))
                have HSt := Lib.hid (fun (q : Since z.w) (v : Int) (hv : v = weight N (at0 A.l k - at0 T.l k)) => show ∃ z5 : Since W, q.w.setCell ⟨gO, k, none⟩ (.int .i64 v) = z5.w ∧ (L.set k v).length = T.l.length ∧ BoxIs z5.w gO ((L.set k v).map (.int .i64)) ∧ ∀ j, j < k + 1 → at0 (L.set k v) j = weight N (at0 A.l j - at0 T.l j) from by
                  obtain ⟨z4, h4⟩ := z.trans q
                  obtain ⟨z5, h5⟩ := z4.set ⟨gO, k, none⟩ hgO (.int .i64 v)
                  have hb := (HB.out.since q).setI (i := k) (by rw [Hl.out]; exact hlt) v
                  rw [h4, h5] at hb
                  refine ⟨z5, by rw [h4, h5], by rw [List.length_set]; exact Hl.out, hb, fun j hj => ?_⟩
                  by_cases e : j = k
                  · subst e
                    unfold at0 at *
                    rw [List.getD_eq_getElem?_getD, List.getElem?_set_self (by rw [Hl.out]; exact hlt)]
                    exact hv
                  · have := Hw.out j (by omega)
                    unfold at0 at *
                    rw [List.getD_eq_getElem?_getD, List.getElem?_set_ne (Ne.symm e), ← List.getD_eq_getElem?_getD]
                    exact this)
                generalize hwv : weight N (at0 A.l k - at0 T.l k) = wv at *
                have ws : IntKind.i64.wrap (at0 A.l k - at0 T.l k) = at0 A.l k - at0 T.l k := IntWalk.i64_in _ (by omega)
                have q0 := HB.out.atI (i := k) (by rw [Hl.out]; exact hlt)
                have HBl := Lib.hid (fun q : Since z.w => HB.out.since q)
                clear HB Hw hwv
                generalize at0 A.l k = ea at *
                generalize at0 T.l k = et at *
                go_upto_region 17 with fail
                have b5 := Since.cellTo ⟨z, rfl⟩ hb0_5
                have b9 := Since.cellTo ⟨z, rfl⟩ hb0_9
                have i5 := fun w' (h : IsSince z.w w') => IsSince.cell b5 h
                have i9 := fun w' (h : IsSince z.w w') => IsSince.cell b9 h
                have j0 := fun w' (h : IsSince z.w w') => IsSince.cell f1' h
                have g0 := fun w' (h : IsSince z.w w') => IsSince.cell (Since.cell q0 (HBl.out (Since.self _)).lt) h
                have g1 := fun w' (h : IsSince z.w w') => show w'.frozen? ⟨gO, k, none⟩ = false from by obtain ⟨q, rfl⟩ := h; exact (HBl.out q).f k
                refine wp_region_M (fun w' => IsSince z.w w') 14 (by kernel_rfl) (IsSince.drew' (IsSince.self _)) (fun hS => ?_)
                refine wpAnyM_takeU (i := 0) (v := ?_) rfl (by kernel_rfl) (by kernel_rfl) (by kernel_rfl) (by kernel_rfl) (fun _ _ _ h => h) hS (Or.inl ⟨by rfl, ?_⟩) ?_
                rotate_left
                · (intro w hSw; (try dsimp only at hSw); go_split_ands; go_simp; try (with_reducible rfl))
                (try simp only [Act.put, List.setIfInBounds_toArray, List.set_cons_zero, List.set_cons_succ])
                refine wpAnyM_takeU (i := 1) (v := ?_) rfl (by kernel_rfl) (by kernel_rfl) (by kernel_rfl) (by kernel_rfl) (fun _ _ _ h => h) hS (Or.inl ⟨by rfl, ?_⟩) ?_
                rotate_left
                · (intro w hSw; (try dsimp only at hSw); go_split_ands; go_simp; try (with_reducible rfl))
                (try simp only [Act.put, List.setIfInBounds_toArray, List.set_cons_zero, List.set_cons_succ])
                refine wpAnyM_takeU (i := 2) (v := ?_) rfl (by kernel_rfl) (by kernel_rfl) (by kernel_rfl) (by kernel_rfl) (fun _ _ _ h => h) hS (Or.inl ⟨by rfl, ?_⟩) ?_
                rotate_left
                · (intro w hSw; (try dsimp only at hSw); go_split_ands; go_simp; try (with_reducible rfl))
                (try simp only [Act.put, List.setIfInBounds_toArray, List.set_cons_zero, List.set_cons_succ])
                refine wpAnyM_takeU (i := 3) (v := ?_) rfl (by kernel_rfl) (by kernel_rfl) (by kernel_rfl) (by kernel_rfl) (fun _ _ _ h => h) hS (Or.inl ⟨by rfl, ?_⟩) ?_
                rotate_left
                · (intro w hSw; (try dsimp only at hSw); go_split_ands; go_simp; try (with_reducible rfl))
                (try simp only [Act.put, List.setIfInBounds_toArray, List.set_cons_zero, List.set_cons_succ])
                refine wpAnyM_takeU (i := 4) (v := ?_) rfl (by kernel_rfl) (by kernel_rfl) (by kernel_rfl) (by kernel_rfl) (fun _ _ _ h => h) hS (Or.inl ⟨by rfl, ?_⟩) ?_
                rotate_left
                · (intro w hSw; (try dsimp only at hSw); go_split_ands; go_simp; try (with_reducible rfl))
                (try simp only [Act.put, List.setIfInBounds_toArray, List.set_cons_zero, List.set_cons_succ])
                refine wpAnyM_takeU (i := 5) (v := ?_) rfl (by kernel_rfl) (by kernel_rfl) (by kernel_rfl) (by kernel_rfl) (fun _ _ _ h => h) hS (Or.inl ⟨by rfl, ?_⟩) ?_
                rotate_left
                · (intro w hSw; (try dsimp only at hSw); go_split_ands; go_simp; try (with_reducible rfl))
                (try simp only [Act.put, List.setIfInBounds_toArray, List.set_cons_zero, List.set_cons_succ])
                refine wpAnyM_takeU (i := 6) (v := ?_) rfl (by kernel_rfl) (by kernel_rfl) (by kernel_rfl) (by kernel_rfl) (fun _ _ _ h => h) hS (Or.inl ⟨by rfl, ?_⟩) ?_
                rotate_left
                · (intro w hSw; (try dsimp only at hSw); go_split_ands; go_simp; try (with_reducible rfl))
                (try simp only [Act.put, List.setIfInBounds_toArray, List.set_cons_zero, List.set_cons_succ])
                refine wpAnyM_takeU (i := 7) (v := ?_) rfl (by kernel_rfl) (by kernel_rfl) (by kernel_rfl) (by kernel_rfl) (fun _ _ _ h => h) hS (Or.inl ⟨by rfl, ?_⟩) ?_
                rotate_left
                · (intro w hSw; (try dsimp only at hSw); go_split_ands; go_simp; try (with_reducible rfl))
                (try simp only [Act.put, List.setIfInBounds_toArray, List.set_cons_zero, List.set_cons_succ])
                refine wpAnyM_takeU (i := 8) (v := ?_) rfl (by kernel_rfl) (by kernel_rfl) (by kernel_rfl) (by kernel_rfl) (fun _ _ _ h => h) hS (Or.inl ⟨by rfl, ?_⟩) ?_
                rotate_left
                · (intro w hSw; (try dsimp only at hSw); go_split_ands; go_simp; try (with_reducible rfl))
                (try simp only [Act.put, List.setIfInBounds_toArray, List.set_cons_zero, List.set_cons_succ])
                refine wpAnyM_takeU (i := 9) (v := ?_) rfl (by kernel_rfl) (by kernel_rfl) (by kernel_rfl) (by kernel_rfl) (fun _ _ _ h => h) hS (Or.inl ⟨by rfl, ?_⟩) ?_
                rotate_left
                · (intro w hSw; (try dsimp only at hSw); go_split_ands; go_simp; try (with_reducible rfl))
                (try simp only [Act.put, List.setIfInBounds_toArray, List.set_cons_zero, List.set_cons_succ])
                refine wpAnyM_takeU (i := 10) (v := ?_) rfl (by kernel_rfl) (by kernel_rfl) (by kernel_rfl) (by kernel_rfl) (fun _ _ _ h => h) hS (Or.inl ⟨by rfl, ?_⟩) ?_
                rotate_left
                · (intro w hSw; (try dsimp only at hSw); go_split_ands; go_simp; try (with_reducible rfl))
                (try simp only [Act.put, List.setIfInBounds_toArray, List.set_cons_zero, List.set_cons_succ])
                refine wpAnyM_takeU (i := 11) (v := ?_) rfl (by kernel_rfl) (by kernel_rfl) (by kernel_rfl) (by kernel_rfl) (fun _ _ _ h => h) hS (Or.inl ⟨by rfl, ?_⟩) ?_
                rotate_left
                · (intro w hSw; (try dsimp only at hSw); go_split_ands; go_simp; try (with_reducible rfl))
                (try simp only [Act.put, List.setIfInBounds_toArray, List.set_cons_zero, List.set_cons_succ])
                refine wpAnyM_one (i := 12) (by kernel_rfl) rfl (fun K hK => ?_)
                (go_simp; obtain ⟨q, hq⟩ := hS; rw [hq]; (with_reducible refine (HWt.out q).mono ?_); rintro _ _ ⟨rfl, q2, rfl⟩)
                refine hK.out _ _ (Or.inr (IsSince.of q2)) (fun hS' => ?_)
                replace hS := hS'.resolve_left (by decide)
                clear hK K hS'
                (try simp only [Act.put, List.setIfInBounds_toArray, List.set_cons_zero, List.set_cons_succ])
                refine wpAnyM_takeU (i := 13) (v := ?_) rfl (by kernel_rfl) (by kernel_rfl) (by kernel_rfl) (by kernel_rfl) (fun _ _ _ h => h) hS (Or.inl ⟨by rfl, ?_⟩) ?_
                rotate_left
                · (intro w hSw; (try dsimp only at hSw); go_split_ands; go_simp; try (with_reducible rfl))
                (try simp only [Act.put, List.setIfInBounds_toArray, List.set_cons_zero, List.set_cons_succ])
                refine wpAnyM_one (i := 14) (by kernel_rfl) rfl (fun K hK => ?_)
                go_simp
                refine hK.out _ _ (Or.inl rfl) (fun _ => ?_)
                clear hK K hS
                (try simp only [Act.put, List.setIfInBounds_toArray, List.set_cons_zero, List.set_cons_succ])
                refine wpAnyM_done (by kernel_rfl) ?_
                obtain ⟨z5, h5, h6, h7, h8⟩ := HSt.out q2 wv rfl
                have H6 := Lib.hid h6; have H7 := Lib.hid h7; have H8 := Lib.hid h8
                rw [h5]
                clear h5 h6 h7 h8 HSt HWt HBl i5 i9 j0 g0 g1 b5 b9 ws q0
                go_wp2_with fail
                go_roundw
                case rel => exact ⟨k + 1, _, z5, by omega, by go_num, rfl, H6.out, H7.out, H8.out⟩
                case measure => simp [intOf] <;> omega
              · obtain rfl : k = T.l.length := by omega
                have HL := Lib.hid (show L = chL A T N from at0_extS (by rw [Hl.out]; simp [chL]) fun i hi => by
                  have hi' : i < T.l.length := by rw [← Hl.out]; exact hi
                  unfold chL
                  rw [Hw.out i hi', at0_map _ _ _ hi'])
                have HP := Lib.hid (HY2.out z gO L HL.out HB.out)
                clear HY2 HL Hw
                go_wp2_with fail
                exact HP.out
          · have HN2 := Lib.hid (HNo2.out _ HE3.out h0)
            clear HNo HNo2 HYes HE3 HCk
            generalize check N = e at *
            go_wp2_with fail
            exact HN2.out z2
        · have HN2 := Lib.hid (HNo2.out 3 (by rw [HE2.out, if_pos (Or.inr hc)]) (by decide))
          have hr' := intrel_eq hr
          have hc' := intrel_ne hc
          clear hr hc HE2 HNo HNo2 HYes
          go_wp2_with fail
          exact HN2.out z1
      · have HN2 := Lib.hid (HNo2.out 3 (by rw [HE2.out, if_pos (Or.inl hr)]) (by decide))
        have hr' := intrel_ne hr
        clear hr HE2 HNo HNo2 HYes
        go_wp2_with fail
        exact HN2.out z1
end Go.Proofs.YtdkcclngionihaaDoor
/- Alike releases, walked (the program). -/
namespace Go.Proofs.YtdkcclngionihaaDoor
open Go.RowKit

theorem pow_in {n : Int} (h1 : 1 ≤ n) (h2 : n ≤ 1024) : ∀ k : Nat, k ≤ 3 → 1 ≤ n ^ k ∧ n ^ k ≤ 1073741824 ∧ (k = 0 → n ^ k = 1) := fun k hk => by
  have m2 : 1 * 1 ≤ n * n ∧ n * n ≤ 1024 * 1024 := ⟨Int.mul_le_mul h1 h1 (by decide) (by omega), Int.mul_le_mul h2 h2 (by omega) (by decide)⟩
  have m3 : 1 * 1 ≤ n * n * n ∧ n * n * n ≤ 1048576 * 1024 := ⟨Int.mul_le_mul (by omega) h1 (by decide) (by omega), Int.mul_le_mul (by omega) h2 (by omega) (by decide)⟩
  obtain rfl | rfl | rfl | rfl : k = 0 ∨ k = 1 ∨ k = 2 ∨ k = 3 := by omega
  · simp
  · rw [Int.pow_succ, Int.pow_zero]; refine ⟨by omega, by omega, fun h => by cases h⟩
  · rw [Int.pow_succ, Int.pow_succ, Int.pow_zero, Int.one_mul]; refine ⟨by omega, by omega, fun h => by cases h⟩
  · rw [Int.pow_succ, Int.pow_succ, Int.pow_succ, Int.pow_zero, Int.one_mul]; refine ⟨by omega, by omega, fun h => by cases h⟩
set_option maxRecDepth 100000 in
set_option maxHeartbeats 4000000 in
theorem rlpower_calls (w : World) (x : Since w) (n : Int) (k : Nat) (h1 : 1 ≤ n) (h2 : n ≤ 1024) (hk : k ≤ 3) :
    Calls Tryd.prog 42 #[.int .i64 n, .int .i64 (k : Int)] x.w fun o w' => o = .returned (.int .i64 (n ^ k)) ∧ ∃ y : Since w, w' = y.w := by
  have HP := Lib.hid (pow_in h1 h2)
  go_enter Tryd.func42, Tryd.ntmps42
  go_upto_region 3 with fail
  go_loopw [5, 7] (fun p si wr => ∃ j : Nat, j ≤ k ∧ p = .int .i64 (n ^ j) ∧ si = .int .i64 (j : Int) ∧ wr = x.w) (fun _ si _ => k - (intOf si).toNat)
  case atStart => exact ⟨0, by omega, by rw [Int.pow_zero], rfl, rfl⟩
  case round =>
    obtain ⟨j, hj, rfl, rfl, rfl⟩ := hrel
    by_cases hlt : j < k
    · have hj0 : (0 : Int) ≤ (j : Int) := by omega
      have hjk : (j : Int) < (k : Int) := by omega
      have p1 := (HP.out (j + 1) (by omega)).1
      have p2 := (HP.out (j + 1) (by omega)).2.1
      have Hn := Lib.hid (Int.pow_succ n j)
      rw [Hn.out] at p1 p2
      generalize n ^ j = P at *
      have ws : IntKind.i64.wrap (P * n) = P * n := IntWalk.i64_in _ (by omega)
      go_wp2_with fail
      go_roundw
      case rel => exact ⟨j + 1, by omega, by rw [Hn.out], by go_num, by first | trivial | rfl⟩
      case measure => simp [intOf] <;> omega
    · obtain rfl : j = k := by omega
      go_wp2_with fail
      go_ret
      exact ⟨rfl, x, rfl⟩
/-- a cell fits the ratio -/
def okC (num den a b w v : Int) : Bool := decide ((a - b).natAbs ≤ 3) && (decide (den ^ (a - b).natAbs * w ≤ num ^ (a - b).natAbs * v) && decide (den ^ (a - b).natAbs * v ≤ num ^ (a - b).natAbs * w))
def alOk (A T U : Tab) (N : List Int) (num den : Int) : Prop := chE A T N = 0 ∧ chE A U N = 0 ∧ 1 ≤ den ∧ den ≤ num ∧ num ≤ 1024
noncomputable def alC (A T U : Tab) (N : List Int) (num den : Int) (i : Nat) : Bool := okC num den (at0 T.l i) (at0 U.l i) (weight N (at0 A.l i - at0 T.l i)) (weight N (at0 A.l i - at0 U.l i))
noncomputable def alB (A T U : Tab) (N : List Int) (num den : Int) : Bool := open Classical in if alOk A T U N num den ∧ ∀ i, i < T.l.length → alC A T U N num den i = true then true else false
theorem alB_no {A T U : Tab} {N : List Int} {num den : Int} (h : ¬ alOk A T U N num den) : alB A T U N num den = false := by unfold alB; exact if_neg fun h' => h h'.1
theorem alB_cell {A T U : Tab} {N : List Int} {num den : Int} {i : Nat} (hi : i < T.l.length) (h : alC A T U N num den i = false) : alB A T U N num den = false := by
  unfold alB
  exact if_neg fun h' => by
    have := h'.2 i hi
    rw [h] at this; cases this
theorem alB_yes {A T U : Tab} {N : List Int} {num den : Int} (h : alOk A T U N num den) (hc : ∀ i, i < T.l.length → alC A T U N num den i = true) : alB A T U N num den = true := by unfold alB; exact if_pos ⟨h, hc⟩
theorem chE_inv {A T : Tab} {N : List Int} (h : chE A T N = 0) : chkE A = 0 ∧ chkE T = 0 ∧ A.r = T.r ∧ A.c = T.c ∧ check N = 0 := by
  unfold chE at h
  by_cases h1 : chkE A = 0
  · rw [if_neg (by rw [h1]; simp)] at h
    by_cases h2 : chkE T = 0
    · rw [if_neg (by rw [h2]; simp)] at h
      by_cases h3 : A.r ≠ T.r ∨ A.c ≠ T.c
      · rw [if_pos h3] at h; cases h
      · rw [if_neg h3] at h
        exact ⟨h1, h2, by omega, by omega, h⟩
    · rw [if_pos h2] at h; exact absurd h h2
  · rw [if_pos h1] at h; exact absurd h h1
theorem chE_len {A T : Tab} {N : List Int} (h : chE A T N = 0) : A.l.length = T.l.length ∧ T.l.length ≤ 64 := by
  obtain ⟨h1, h2, h3, h4, _⟩ := chE_inv h
  have a := (chk_inv h1).2.2.1
  have b := (chk_inv h2).2.2.1
  rw [h3, h4, ← b] at a
  exact ⟨by omega, chk_len64 h2⟩
theorem chV_at {A T : Tab} {N : List Int} (h : chE A T N = 0) : (chV A T N).length = T.l.length ∧ ∀ i, i < T.l.length → at0 (chV A T N) i = weight N (at0 A.l i - at0 T.l i) := by
  have : chV A T N = chL A T N := by unfold chV; rw [if_pos h]
  rw [this]
  exact ⟨by simp [chL], fun i hi => by unfold chL; rw [at0_map _ _ _ hi]⟩
theorem weight_in (N : List Int) (v : Int) : 0 ≤ weight N v ∧ weight N v ≤ 16777216 := by
  by_cases h : Good N
  · rw [weight_good h]; exact wt_bd h v
  · rw [weight_bad h]; exact ⟨Int.le_refl _, by decide⟩
theorem mul_in {a b : Int} (h1 : 0 ≤ a) (h2 : a ≤ 1073741824) (h3 : 0 ≤ b) (h4 : b ≤ 16777216) : 0 ≤ a * b ∧ a * b ≤ 18014398509481984 := by
  have := mul_bd (a := a) (b := b) (A := 1073741824) (B := 16777216) h1 h2 h3 h4
  omega
theorem abs_max (a b : Int) : max (a - b) (b - a) = ((a - b).natAbs : Int) := by omega
set_option linter.unusedSimpArgs false in
set_option maxRecDepth 100000 in
set_option maxHeartbeats 16000000 in
theorem alike_calls (w : World) (x : Since w) (hs : Signs w) (f t each : Int) (A T U : Tab) (N : List Int) (num den : Int) (a1 a2 a3 a4 a5 a6 a7 : Option Addr) (c1 n2 c2 n3 c3 n4 c4 c5 c6 c7 : Nat) (h1 : IntRow w a1 A.l) (h5 : IntRow w a5 N) (h6 : IntRow w a6 T.l) (h7 : IntRow w a7 U.l) (hl1 : A.l.length ≤ 9223372036854775807) (hl5 : N.length ≤ 9223372036854775807) (hl6 : T.l.length ≤ 9223372036854775807) (hl7 : U.l.length ≤ 9223372036854775807) :
    Calls Tryd.prog 19 #[.agg #[.int .i64 f, .int .i64 t, .int .i64 each, .int .i64 A.r, .int .i64 A.c, .slice a1 A.l.length c1, .slice a2 n2 c2, .slice a3 n3 c3, .slice a4 n4 c4, .slice a5 N.length c5], .agg #[.int .i64 T.r, .int .i64 T.c, .slice a6 T.l.length c6], .agg #[.int .i64 U.r, .int .i64 U.c, .slice a7 U.l.length c7], .agg #[.int .i64 num, .int .i64 den]] x.w fun o w' => o = .returned (.bool (alB A T U N num den)) ∧ ∃ y : Since w, w' = y.w := by
  have HTr := Lib.hid h6; have HUr := Lib.hid h7
  have HC1 := Lib.hid (fun (W : World) (y : Since W) hs h1 h5 h6 => chances_calls W y hs f t each A T N a1 a2 a3 a4 a5 a6 c1 n2 c2 n3 c3 n4 c4 c5 c6 h1 h5 h6 hl1 hl5 hl6)
  have HC2 := Lib.hid (fun (W : World) (y : Since W) hs h1 h5 h6 => chances_calls W y hs f t each A U N a1 a2 a3 a4 a5 a7 c1 n2 c2 n3 c3 n4 c4 c5 c7 h1 h5 h6 hl1 hl5 hl7)
  have HN := Lib.hid (fun h => alB_no (A := A) (T := T) (U := U) (N := N) (num := num) (den := den) h)
  have HCell := Lib.hid (fun i hi h => alB_cell (A := A) (T := T) (U := U) (N := N) (num := num) (den := den) (i := i) hi h)
  have HYes := Lib.hid (fun h hc => alB_yes (A := A) (T := T) (U := U) (N := N) (num := num) (den := den) h hc)
  have HAr := Lib.hid h1; have HNr := Lib.hid h5; have Hsg := Lib.hid hs
  generalize alB A T U N num den = B at *
  clear h1 h5 h6 h7 hs hl1 hl5 hl6 hl7
  go_enter Tryd.func19, Tryd.ntmps19
  go_upto_region 1 with fail
  have hb0_0 : ∀ y : Since ((((x.w.alloc (.cells #[.int .i64 f, .int .i64 t, .int .i64 each, .int .i64 A.r, .int .i64 A.c, .slice a1 A.l.length c1, .slice a2 n2 c2, .slice a3 n3 c3, .slice a4 n4 c4, .slice a5 N.length c5] 36)).alloc (.cells #[.int .i64 T.r, .int .i64 T.c, .slice a6 T.l.length c6] 31)).alloc (.cells #[.int .i64 U.r, .int .i64 U.c, .slice a7 U.l.length c7] 31)).alloc (.cells #[.int .i64 num, .int .i64 den] 50)), y.w.cell? ⟨x.w.heap.size, 0, none⟩ = some (.int .i64 f) := fun y => Since.cell (by simp [go_sem]) (by first | (simp; done) | (simp; omega)) y
  have hb0_1 : ∀ y : Since ((((x.w.alloc (.cells #[.int .i64 f, .int .i64 t, .int .i64 each, .int .i64 A.r, .int .i64 A.c, .slice a1 A.l.length c1, .slice a2 n2 c2, .slice a3 n3 c3, .slice a4 n4 c4, .slice a5 N.length c5] 36)).alloc (.cells #[.int .i64 T.r, .int .i64 T.c, .slice a6 T.l.length c6] 31)).alloc (.cells #[.int .i64 U.r, .int .i64 U.c, .slice a7 U.l.length c7] 31)).alloc (.cells #[.int .i64 num, .int .i64 den] 50)), y.w.cell? ⟨x.w.heap.size, 1, none⟩ = some (.int .i64 t) := fun y => Since.cell (by simp [go_sem]) (by first | (simp; done) | (simp; omega)) y
  have hb0_2 : ∀ y : Since ((((x.w.alloc (.cells #[.int .i64 f, .int .i64 t, .int .i64 each, .int .i64 A.r, .int .i64 A.c, .slice a1 A.l.length c1, .slice a2 n2 c2, .slice a3 n3 c3, .slice a4 n4 c4, .slice a5 N.length c5] 36)).alloc (.cells #[.int .i64 T.r, .int .i64 T.c, .slice a6 T.l.length c6] 31)).alloc (.cells #[.int .i64 U.r, .int .i64 U.c, .slice a7 U.l.length c7] 31)).alloc (.cells #[.int .i64 num, .int .i64 den] 50)), y.w.cell? ⟨x.w.heap.size, 2, none⟩ = some (.int .i64 each) := fun y => Since.cell (by simp [go_sem]) (by first | (simp; done) | (simp; omega)) y
  have hb0_3 : ∀ y : Since ((((x.w.alloc (.cells #[.int .i64 f, .int .i64 t, .int .i64 each, .int .i64 A.r, .int .i64 A.c, .slice a1 A.l.length c1, .slice a2 n2 c2, .slice a3 n3 c3, .slice a4 n4 c4, .slice a5 N.length c5] 36)).alloc (.cells #[.int .i64 T.r, .int .i64 T.c, .slice a6 T.l.length c6] 31)).alloc (.cells #[.int .i64 U.r, .int .i64 U.c, .slice a7 U.l.length c7] 31)).alloc (.cells #[.int .i64 num, .int .i64 den] 50)), y.w.cell? ⟨x.w.heap.size, 3, none⟩ = some (.int .i64 A.r) := fun y => Since.cell (by simp [go_sem]) (by first | (simp; done) | (simp; omega)) y
  have hb0_4 : ∀ y : Since ((((x.w.alloc (.cells #[.int .i64 f, .int .i64 t, .int .i64 each, .int .i64 A.r, .int .i64 A.c, .slice a1 A.l.length c1, .slice a2 n2 c2, .slice a3 n3 c3, .slice a4 n4 c4, .slice a5 N.length c5] 36)).alloc (.cells #[.int .i64 T.r, .int .i64 T.c, .slice a6 T.l.length c6] 31)).alloc (.cells #[.int .i64 U.r, .int .i64 U.c, .slice a7 U.l.length c7] 31)).alloc (.cells #[.int .i64 num, .int .i64 den] 50)), y.w.cell? ⟨x.w.heap.size, 4, none⟩ = some (.int .i64 A.c) := fun y => Since.cell (by simp [go_sem]) (by first | (simp; done) | (simp; omega)) y
  have hb0_5 : ∀ y : Since ((((x.w.alloc (.cells #[.int .i64 f, .int .i64 t, .int .i64 each, .int .i64 A.r, .int .i64 A.c, .slice a1 A.l.length c1, .slice a2 n2 c2, .slice a3 n3 c3, .slice a4 n4 c4, .slice a5 N.length c5] 36)).alloc (.cells #[.int .i64 T.r, .int .i64 T.c, .slice a6 T.l.length c6] 31)).alloc (.cells #[.int .i64 U.r, .int .i64 U.c, .slice a7 U.l.length c7] 31)).alloc (.cells #[.int .i64 num, .int .i64 den] 50)), y.w.cell? ⟨x.w.heap.size, 5, none⟩ = some (.slice a1 A.l.length c1) := fun y => Since.cell (by simp [go_sem]) (by first | (simp; done) | (simp; omega)) y
  have hb0_6 : ∀ y : Since ((((x.w.alloc (.cells #[.int .i64 f, .int .i64 t, .int .i64 each, .int .i64 A.r, .int .i64 A.c, .slice a1 A.l.length c1, .slice a2 n2 c2, .slice a3 n3 c3, .slice a4 n4 c4, .slice a5 N.length c5] 36)).alloc (.cells #[.int .i64 T.r, .int .i64 T.c, .slice a6 T.l.length c6] 31)).alloc (.cells #[.int .i64 U.r, .int .i64 U.c, .slice a7 U.l.length c7] 31)).alloc (.cells #[.int .i64 num, .int .i64 den] 50)), y.w.cell? ⟨x.w.heap.size, 6, none⟩ = some (.slice a2 n2 c2) := fun y => Since.cell (by simp [go_sem]) (by first | (simp; done) | (simp; omega)) y
  have hb0_7 : ∀ y : Since ((((x.w.alloc (.cells #[.int .i64 f, .int .i64 t, .int .i64 each, .int .i64 A.r, .int .i64 A.c, .slice a1 A.l.length c1, .slice a2 n2 c2, .slice a3 n3 c3, .slice a4 n4 c4, .slice a5 N.length c5] 36)).alloc (.cells #[.int .i64 T.r, .int .i64 T.c, .slice a6 T.l.length c6] 31)).alloc (.cells #[.int .i64 U.r, .int .i64 U.c, .slice a7 U.l.length c7] 31)).alloc (.cells #[.int .i64 num, .int .i64 den] 50)), y.w.cell? ⟨x.w.heap.size, 7, none⟩ = some (.slice a3 n3 c3) := fun y => Since.cell (by simp [go_sem]) (by first | (simp; done) | (simp; omega)) y
  have hb0_8 : ∀ y : Since ((((x.w.alloc (.cells #[.int .i64 f, .int .i64 t, .int .i64 each, .int .i64 A.r, .int .i64 A.c, .slice a1 A.l.length c1, .slice a2 n2 c2, .slice a3 n3 c3, .slice a4 n4 c4, .slice a5 N.length c5] 36)).alloc (.cells #[.int .i64 T.r, .int .i64 T.c, .slice a6 T.l.length c6] 31)).alloc (.cells #[.int .i64 U.r, .int .i64 U.c, .slice a7 U.l.length c7] 31)).alloc (.cells #[.int .i64 num, .int .i64 den] 50)), y.w.cell? ⟨x.w.heap.size, 8, none⟩ = some (.slice a4 n4 c4) := fun y => Since.cell (by simp [go_sem]) (by first | (simp; done) | (simp; omega)) y
  have hb0_9 : ∀ y : Since ((((x.w.alloc (.cells #[.int .i64 f, .int .i64 t, .int .i64 each, .int .i64 A.r, .int .i64 A.c, .slice a1 A.l.length c1, .slice a2 n2 c2, .slice a3 n3 c3, .slice a4 n4 c4, .slice a5 N.length c5] 36)).alloc (.cells #[.int .i64 T.r, .int .i64 T.c, .slice a6 T.l.length c6] 31)).alloc (.cells #[.int .i64 U.r, .int .i64 U.c, .slice a7 U.l.length c7] 31)).alloc (.cells #[.int .i64 num, .int .i64 den] 50)), y.w.cell? ⟨x.w.heap.size, 9, none⟩ = some (.slice a5 N.length c5) := fun y => Since.cell (by simp [go_sem]) (by first | (simp; done) | (simp; omega)) y
  have hf0 : ∀ (y : Since ((((x.w.alloc (.cells #[.int .i64 f, .int .i64 t, .int .i64 each, .int .i64 A.r, .int .i64 A.c, .slice a1 A.l.length c1, .slice a2 n2 c2, .slice a3 n3 c3, .slice a4 n4 c4, .slice a5 N.length c5] 36)).alloc (.cells #[.int .i64 T.r, .int .i64 T.c, .slice a6 T.l.length c6] 31)).alloc (.cells #[.int .i64 U.r, .int .i64 U.c, .slice a7 U.l.length c7] 31)).alloc (.cells #[.int .i64 num, .int .i64 den] 50))) (o : Nat), y.w.frozen? ⟨x.w.heap.size, o, none⟩ = false := fun y o => Since.free (by simp [go_sem]) (by first | (simp; done) | (simp; omega)) y
  have hb1_0 : ∀ y : Since ((((x.w.alloc (.cells #[.int .i64 f, .int .i64 t, .int .i64 each, .int .i64 A.r, .int .i64 A.c, .slice a1 A.l.length c1, .slice a2 n2 c2, .slice a3 n3 c3, .slice a4 n4 c4, .slice a5 N.length c5] 36)).alloc (.cells #[.int .i64 T.r, .int .i64 T.c, .slice a6 T.l.length c6] 31)).alloc (.cells #[.int .i64 U.r, .int .i64 U.c, .slice a7 U.l.length c7] 31)).alloc (.cells #[.int .i64 num, .int .i64 den] 50)), y.w.cell? ⟨x.w.heap.size + 1, 0, none⟩ = some (.int .i64 T.r) := fun y => Since.cell (by simp [go_sem]) (by first | (simp; done) | (simp; omega)) y
  have hb1_1 : ∀ y : Since ((((x.w.alloc (.cells #[.int .i64 f, .int .i64 t, .int .i64 each, .int .i64 A.r, .int .i64 A.c, .slice a1 A.l.length c1, .slice a2 n2 c2, .slice a3 n3 c3, .slice a4 n4 c4, .slice a5 N.length c5] 36)).alloc (.cells #[.int .i64 T.r, .int .i64 T.c, .slice a6 T.l.length c6] 31)).alloc (.cells #[.int .i64 U.r, .int .i64 U.c, .slice a7 U.l.length c7] 31)).alloc (.cells #[.int .i64 num, .int .i64 den] 50)), y.w.cell? ⟨x.w.heap.size + 1, 1, none⟩ = some (.int .i64 T.c) := fun y => Since.cell (by simp [go_sem]) (by first | (simp; done) | (simp; omega)) y
  have hb1_2 : ∀ y : Since ((((x.w.alloc (.cells #[.int .i64 f, .int .i64 t, .int .i64 each, .int .i64 A.r, .int .i64 A.c, .slice a1 A.l.length c1, .slice a2 n2 c2, .slice a3 n3 c3, .slice a4 n4 c4, .slice a5 N.length c5] 36)).alloc (.cells #[.int .i64 T.r, .int .i64 T.c, .slice a6 T.l.length c6] 31)).alloc (.cells #[.int .i64 U.r, .int .i64 U.c, .slice a7 U.l.length c7] 31)).alloc (.cells #[.int .i64 num, .int .i64 den] 50)), y.w.cell? ⟨x.w.heap.size + 1, 2, none⟩ = some (.slice a6 T.l.length c6) := fun y => Since.cell (by simp [go_sem]) (by first | (simp; done) | (simp; omega)) y
  have hf1 : ∀ (y : Since ((((x.w.alloc (.cells #[.int .i64 f, .int .i64 t, .int .i64 each, .int .i64 A.r, .int .i64 A.c, .slice a1 A.l.length c1, .slice a2 n2 c2, .slice a3 n3 c3, .slice a4 n4 c4, .slice a5 N.length c5] 36)).alloc (.cells #[.int .i64 T.r, .int .i64 T.c, .slice a6 T.l.length c6] 31)).alloc (.cells #[.int .i64 U.r, .int .i64 U.c, .slice a7 U.l.length c7] 31)).alloc (.cells #[.int .i64 num, .int .i64 den] 50))) (o : Nat), y.w.frozen? ⟨x.w.heap.size + 1, o, none⟩ = false := fun y o => Since.free (by simp [go_sem]) (by first | (simp; done) | (simp; omega)) y
  have hb2_0 : ∀ y : Since ((((x.w.alloc (.cells #[.int .i64 f, .int .i64 t, .int .i64 each, .int .i64 A.r, .int .i64 A.c, .slice a1 A.l.length c1, .slice a2 n2 c2, .slice a3 n3 c3, .slice a4 n4 c4, .slice a5 N.length c5] 36)).alloc (.cells #[.int .i64 T.r, .int .i64 T.c, .slice a6 T.l.length c6] 31)).alloc (.cells #[.int .i64 U.r, .int .i64 U.c, .slice a7 U.l.length c7] 31)).alloc (.cells #[.int .i64 num, .int .i64 den] 50)), y.w.cell? ⟨x.w.heap.size + 2, 0, none⟩ = some (.int .i64 U.r) := fun y => Since.cell (by simp [go_sem]) (by first | (simp; done) | (simp; omega)) y
  have hb2_1 : ∀ y : Since ((((x.w.alloc (.cells #[.int .i64 f, .int .i64 t, .int .i64 each, .int .i64 A.r, .int .i64 A.c, .slice a1 A.l.length c1, .slice a2 n2 c2, .slice a3 n3 c3, .slice a4 n4 c4, .slice a5 N.length c5] 36)).alloc (.cells #[.int .i64 T.r, .int .i64 T.c, .slice a6 T.l.length c6] 31)).alloc (.cells #[.int .i64 U.r, .int .i64 U.c, .slice a7 U.l.length c7] 31)).alloc (.cells #[.int .i64 num, .int .i64 den] 50)), y.w.cell? ⟨x.w.heap.size + 2, 1, none⟩ = some (.int .i64 U.c) := fun y => Since.cell (by simp [go_sem]) (by first | (simp; done) | (simp; omega)) y
  have hb2_2 : ∀ y : Since ((((x.w.alloc (.cells #[.int .i64 f, .int .i64 t, .int .i64 each, .int .i64 A.r, .int .i64 A.c, .slice a1 A.l.length c1, .slice a2 n2 c2, .slice a3 n3 c3, .slice a4 n4 c4, .slice a5 N.length c5] 36)).alloc (.cells #[.int .i64 T.r, .int .i64 T.c, .slice a6 T.l.length c6] 31)).alloc (.cells #[.int .i64 U.r, .int .i64 U.c, .slice a7 U.l.length c7] 31)).alloc (.cells #[.int .i64 num, .int .i64 den] 50)), y.w.cell? ⟨x.w.heap.size + 2, 2, none⟩ = some (.slice a7 U.l.length c7) := fun y => Since.cell (by simp [go_sem]) (by first | (simp; done) | (simp; omega)) y
  have hf2 : ∀ (y : Since ((((x.w.alloc (.cells #[.int .i64 f, .int .i64 t, .int .i64 each, .int .i64 A.r, .int .i64 A.c, .slice a1 A.l.length c1, .slice a2 n2 c2, .slice a3 n3 c3, .slice a4 n4 c4, .slice a5 N.length c5] 36)).alloc (.cells #[.int .i64 T.r, .int .i64 T.c, .slice a6 T.l.length c6] 31)).alloc (.cells #[.int .i64 U.r, .int .i64 U.c, .slice a7 U.l.length c7] 31)).alloc (.cells #[.int .i64 num, .int .i64 den] 50))) (o : Nat), y.w.frozen? ⟨x.w.heap.size + 2, o, none⟩ = false := fun y o => Since.free (by simp [go_sem]) (by first | (simp; done) | (simp; omega)) y
  have hb3_0 : ∀ y : Since ((((x.w.alloc (.cells #[.int .i64 f, .int .i64 t, .int .i64 each, .int .i64 A.r, .int .i64 A.c, .slice a1 A.l.length c1, .slice a2 n2 c2, .slice a3 n3 c3, .slice a4 n4 c4, .slice a5 N.length c5] 36)).alloc (.cells #[.int .i64 T.r, .int .i64 T.c, .slice a6 T.l.length c6] 31)).alloc (.cells #[.int .i64 U.r, .int .i64 U.c, .slice a7 U.l.length c7] 31)).alloc (.cells #[.int .i64 num, .int .i64 den] 50)), y.w.cell? ⟨x.w.heap.size + 3, 0, none⟩ = some (.int .i64 num) := fun y => Since.cell (by simp [go_sem]) (by first | (simp; done) | (simp; omega)) y
  have hb3_1 : ∀ y : Since ((((x.w.alloc (.cells #[.int .i64 f, .int .i64 t, .int .i64 each, .int .i64 A.r, .int .i64 A.c, .slice a1 A.l.length c1, .slice a2 n2 c2, .slice a3 n3 c3, .slice a4 n4 c4, .slice a5 N.length c5] 36)).alloc (.cells #[.int .i64 T.r, .int .i64 T.c, .slice a6 T.l.length c6] 31)).alloc (.cells #[.int .i64 U.r, .int .i64 U.c, .slice a7 U.l.length c7] 31)).alloc (.cells #[.int .i64 num, .int .i64 den] 50)), y.w.cell? ⟨x.w.heap.size + 3, 1, none⟩ = some (.int .i64 den) := fun y => Since.cell (by simp [go_sem]) (by first | (simp; done) | (simp; omega)) y
  have hf3 : ∀ (y : Since ((((x.w.alloc (.cells #[.int .i64 f, .int .i64 t, .int .i64 each, .int .i64 A.r, .int .i64 A.c, .slice a1 A.l.length c1, .slice a2 n2 c2, .slice a3 n3 c3, .slice a4 n4 c4, .slice a5 N.length c5] 36)).alloc (.cells #[.int .i64 T.r, .int .i64 T.c, .slice a6 T.l.length c6] 31)).alloc (.cells #[.int .i64 U.r, .int .i64 U.c, .slice a7 U.l.length c7] 31)).alloc (.cells #[.int .i64 num, .int .i64 den] 50))) (o : Nat), y.w.frozen? ⟨x.w.heap.size + 3, o, none⟩ = false := fun y o => Since.free (by simp [go_sem]) (by first | (simp; done) | (simp; omega)) y
  have hWup : ∃ z : Since w, ((((x.w.alloc (.cells #[.int .i64 f, .int .i64 t, .int .i64 each, .int .i64 A.r, .int .i64 A.c, .slice a1 A.l.length c1, .slice a2 n2 c2, .slice a3 n3 c3, .slice a4 n4 c4, .slice a5 N.length c5] 36)).alloc (.cells #[.int .i64 T.r, .int .i64 T.c, .slice a6 T.l.length c6] 31)).alloc (.cells #[.int .i64 U.r, .int .i64 U.c, .slice a7 U.l.length c7] 31)).alloc (.cells #[.int .i64 num, .int .i64 den] 50)) = z.w := Since.allocs x [.cells #[.int .i64 f, .int .i64 t, .int .i64 each, .int .i64 A.r, .int .i64 A.c, .slice a1 A.l.length c1, .slice a2 n2 c2, .slice a3 n3 c3, .slice a4 n4 c4, .slice a5 N.length c5] 36, .cells #[.int .i64 T.r, .int .i64 T.c, .slice a6 T.l.length c6] 31, .cells #[.int .i64 U.r, .int .i64 U.c, .slice a7 U.l.length c7] 31, .cells #[.int .i64 num, .int .i64 den] 50]
  obtain ⟨y0, hy0⟩ := Since.refl ((((x.w.alloc (.cells #[.int .i64 f, .int .i64 t, .int .i64 each, .int .i64 A.r, .int .i64 A.c, .slice a1 A.l.length c1, .slice a2 n2 c2, .slice a3 n3 c3, .slice a4 n4 c4, .slice a5 N.length c5] 36)).alloc (.cells #[.int .i64 T.r, .int .i64 T.c, .slice a6 T.l.length c6] 31)).alloc (.cells #[.int .i64 U.r, .int .i64 U.c, .slice a7 U.l.length c7] 31)).alloc (.cells #[.int .i64 num, .int .i64 den] 50))
  have Hbx := Lib.hid (And.intro x.b.size (show x.w.heap.size + 4 = ((((x.w.alloc (.cells #[.int .i64 f, .int .i64 t, .int .i64 each, .int .i64 A.r, .int .i64 A.c, .slice a1 A.l.length c1, .slice a2 n2 c2, .slice a3 n3 c3, .slice a4 n4 c4, .slice a5 N.length c5] 36)).alloc (.cells #[.int .i64 T.r, .int .i64 T.c, .slice a6 T.l.length c6] 31)).alloc (.cells #[.int .i64 U.r, .int .i64 U.c, .slice a7 U.l.length c7] 31)).alloc (.cells #[.int .i64 num, .int .i64 den] 50)).heap.size from by simp))
  generalize hW : ((((x.w.alloc (.cells #[.int .i64 f, .int .i64 t, .int .i64 each, .int .i64 A.r, .int .i64 A.c, .slice a1 A.l.length c1, .slice a2 n2 c2, .slice a3 n3 c3, .slice a4 n4 c4, .slice a5 N.length c5] 36)).alloc (.cells #[.int .i64 T.r, .int .i64 T.c, .slice a6 T.l.length c6] 31)).alloc (.cells #[.int .i64 U.r, .int .i64 U.c, .slice a7 U.l.length c7] 31)).alloc (.cells #[.int .i64 num, .int .i64 den] 50)) = W at *
  clear hW
  generalize x.w.heap.size = bx at *
  have Hup := Lib.hid (Since.up hWup)
  rw [hy0]
  clear hy0
  replace HAr := Lib.hid (HAr.out.to hWup)
  replace HNr := Lib.hid (HNr.out.to hWup)
  replace HTr := Lib.hid (HTr.out.to hWup)
  replace HUr := Lib.hid (HUr.out.to hWup)
  replace Hsg := Lib.hid (Hsg.out.to hWup)
  clear hWup hf0 hf1 hf2 hf3
  have H1 := Lib.hid (HC1.out W y0 Hsg.out HAr.out HNr.out HTr.out)
  clear HC1
  go_upto_region 2 with (go_at_call 16; ((with_reducible refine H1.out.mono ?_); rintro _ _ ⟨a8, c8, y1, rfl, rfl, r8⟩))
  have HV := Lib.hid r8
  replace hb0_0 := Since.cellTo ⟨y1, rfl⟩ hb0_0
  replace hb0_1 := Since.cellTo ⟨y1, rfl⟩ hb0_1
  replace hb0_2 := Since.cellTo ⟨y1, rfl⟩ hb0_2
  replace hb0_3 := Since.cellTo ⟨y1, rfl⟩ hb0_3
  replace hb0_4 := Since.cellTo ⟨y1, rfl⟩ hb0_4
  replace hb0_5 := Since.cellTo ⟨y1, rfl⟩ hb0_5
  replace hb0_6 := Since.cellTo ⟨y1, rfl⟩ hb0_6
  replace hb0_7 := Since.cellTo ⟨y1, rfl⟩ hb0_7
  replace hb0_8 := Since.cellTo ⟨y1, rfl⟩ hb0_8
  replace hb0_9 := Since.cellTo ⟨y1, rfl⟩ hb0_9
  replace hb1_0 := Since.cellTo ⟨y1, rfl⟩ hb1_0
  replace hb1_1 := Since.cellTo ⟨y1, rfl⟩ hb1_1
  replace hb1_2 := Since.cellTo ⟨y1, rfl⟩ hb1_2
  replace hb2_0 := Since.cellTo ⟨y1, rfl⟩ hb2_0
  replace hb2_1 := Since.cellTo ⟨y1, rfl⟩ hb2_1
  replace hb2_2 := Since.cellTo ⟨y1, rfl⟩ hb2_2
  replace hb3_0 := Since.cellTo ⟨y1, rfl⟩ hb3_0
  replace hb3_1 := Since.cellTo ⟨y1, rfl⟩ hb3_1
  obtain ⟨q1, hq0⟩ := Since.refl y1.w
  rw [hq0]
  clear hq0
  have H2 := Lib.hid (HC2.out y1.w q1 (Hsg.out.to ⟨y1, rfl⟩) (HAr.out.to ⟨y1, rfl⟩) (HNr.out.to ⟨y1, rfl⟩) (HUr.out.to ⟨y1, rfl⟩))
  clear H1 r8 HC2
  go_upto_region 3 with (go_at_call 16; ((with_reducible refine H2.out.mono ?_); rintro _ _ ⟨a9, c9, y2, rfl, rfl, r9⟩))
  have HX := Lib.hid r9
  clear H2 r9
  have HU2 := Lib.hid (fun q : Since y2.w => show ∃ z : Since w, q.w = z.w from by obtain ⟨z, hz⟩ := y2.trans q; obtain ⟨z3, hz3⟩ := y1.trans z; rw [hz, hz3]; exact Hup.out z3)
  by_cases hok : alOk A T U N num den
  · obtain ⟨e1, e2, d1, d2, d3⟩ := hok
    have HCe := Lib.hid (fun i hi h => HCell.out i hi h)
    have HYe := Lib.hid (HYes.out ⟨e1, e2, d1, d2, d3⟩)
    obtain ⟨l1, l2⟩ := chE_len e1
    obtain ⟨l3, l4⟩ := chE_len e2
    obtain ⟨v1, v2⟩ := chV_at e1
    obtain ⟨v3, v4⟩ := chV_at e2
    have HiT := Lib.hid (chk_inv (chE_inv e1).2.1).2.2.2
    have HiU := Lib.hid (chk_inv (chE_inv e2).2.1).2.2.2
    rw [e1, e2]
    have Hv1 := Lib.hid v1; have Hv2 := Lib.hid v2; have Hv3 := Lib.hid v3; have Hv4 := Lib.hid v4
    have HVr := Lib.hid (show Row y2.w a8 T.l.length (fun i => .int .i64 (at0 (chV A T N) i)) from v1 ▸ Since.row HV.out y2)
    have HXr := Lib.hid (show Row y2.w a9 U.l.length (fun i => .int .i64 (at0 (chV A U N) i)) from v3 ▸ HX.out)
    have HTr2 := Lib.hid ((HTr.out.to ⟨y1, rfl⟩).to ⟨y2, rfl⟩)
    have HUr2 := Lib.hid ((HUr.out.to ⟨y1, rfl⟩).to ⟨y2, rfl⟩)
    rw [v1, v3]
    replace hb0_0 := Since.cellTo ⟨y2, rfl⟩ hb0_0
    replace hb0_1 := Since.cellTo ⟨y2, rfl⟩ hb0_1
    replace hb0_2 := Since.cellTo ⟨y2, rfl⟩ hb0_2
    replace hb0_3 := Since.cellTo ⟨y2, rfl⟩ hb0_3
    replace hb0_4 := Since.cellTo ⟨y2, rfl⟩ hb0_4
    replace hb0_5 := Since.cellTo ⟨y2, rfl⟩ hb0_5
    replace hb0_6 := Since.cellTo ⟨y2, rfl⟩ hb0_6
    replace hb0_7 := Since.cellTo ⟨y2, rfl⟩ hb0_7
    replace hb0_8 := Since.cellTo ⟨y2, rfl⟩ hb0_8
    replace hb0_9 := Since.cellTo ⟨y2, rfl⟩ hb0_9
    replace hb1_0 := Since.cellTo ⟨y2, rfl⟩ hb1_0
    replace hb1_1 := Since.cellTo ⟨y2, rfl⟩ hb1_1
    replace hb1_2 := Since.cellTo ⟨y2, rfl⟩ hb1_2
    replace hb2_0 := Since.cellTo ⟨y2, rfl⟩ hb2_0
    replace hb2_1 := Since.cellTo ⟨y2, rfl⟩ hb2_1
    replace hb2_2 := Since.cellTo ⟨y2, rfl⟩ hb2_2
    replace hb3_0 := Since.cellTo ⟨y2, rfl⟩ hb3_0
    replace hb3_1 := Since.cellTo ⟨y2, rfl⟩ hb3_1
    obtain ⟨q2, hq0⟩ := Since.refl y2.w
    rw [hq0]
    clear hq0
    have hm64 : T.l.length ≤ 64 := l2
    have hmu : U.l.length = T.l.length := by omega
    rw [hmu] at HXr ⊢
    have Hmu := Lib.hid hmu
    clear e1 e2 v1 v2 v3 v4 HN HCell HYes l1 l3 l2 l4 hmu HV HX HTr HUr HAr HNr Hsg
    go_upto_region 6 with fail
    go_loopw [54] (fun si wr => ∃ (k : Nat) (y : Since y2.w), k ≤ T.l.length ∧ si = .int .i64 (k : Int) ∧ wr = y.w ∧ ∀ j, j < k → alC A T U N num den j = true) (fun si _ => T.l.length - (intOf si).toNat)
    case atStart => exact ⟨0, q2, by omega, rfl, rfl, fun j hj => by omega⟩
    case round =>
      obtain ⟨k, y, hk, rfl, rfl, hn⟩ := hrel
      have Hn := Lib.hid hn
      clear hn
      by_cases hlt : k < T.l.length
      · have hk0 : (0 : Int) ≤ (k : Int) := by omega
        have hkl : (k : Int) < (T.l.length : Int) := by omega
        have hku : (k : Int) < (U.l.length : Int) := by have := Hmu.out; omega
        obtain ⟨b1, o1, rfl, hb1, hc1'⟩ := HTr2.out k hlt
        have f0 : ∀ q : Since y2.w, q.w.cell? ⟨b1, o1 + k, none⟩ = some (.int .i64 (at0 T.l k)) := fun q => Since.cell hc1' hb1 q
        obtain ⟨b2, o2, rfl, hb2, hc2'⟩ := HUr2.out k (by have := Hmu.out; omega)
        have f1 : ∀ q : Since y2.w, q.w.cell? ⟨b2, o2 + k, none⟩ = some (.int .i64 (at0 U.l k)) := fun q => Since.cell hc2' hb2 q
        obtain ⟨b3, o3, rfl, hb3, hc3'⟩ := HVr.out k hlt
        have f2 : ∀ q : Since y2.w, q.w.cell? ⟨b3, o3 + k, none⟩ = some (.int .i64 (at0 (chV A T N) k)) := fun q => Since.cell hc3' hb3 q
        obtain ⟨b4, o4, rfl, hb4, hc4'⟩ := HXr.out k hlt
        have f3 : ∀ q : Since y2.w, q.w.cell? ⟨b4, o4 + k, none⟩ = some (.int .i64 (at0 (chV A U N) k)) := fun q => Since.cell hc4' hb4 q
        clear hb1 hc1' hb2 hc2' hb3 hc3' hb4 hc4'
        rw [Hv2.out k hlt] at f2
        rw [Hv4.out k (by have := Hmu.out; omega)] at f3
        obtain ⟨u1, u2⟩ := HiT.out k hlt
        obtain ⟨u3, u4⟩ := HiU.out k (by have := Hmu.out; omega)
        obtain ⟨u5, u6⟩ := weight_in N (at0 A.l k - at0 T.l k)
        obtain ⟨u7, u8⟩ := weight_in N (at0 A.l k - at0 U.l k)
        have HC := Lib.hid (HCe.out k hlt)
        have HD := Lib.hid (show alC A T U N num den k = okC num den (at0 T.l k) (at0 U.l k) (weight N (at0 A.l k - at0 T.l k)) (weight N (at0 A.l k - at0 U.l k)) from rfl)
        have Hst := Lib.hid (fun (hp : alC A T U N num den k = true) q (hq : q < k + 1) => show alC A T U N num den q = true from by
          by_cases e : q = k
          · rw [e]; exact hp
          · exact Hn.out q (by omega))
        generalize alC A T U N num den k = CC at *
        generalize weight N (at0 A.l k - at0 T.l k) = wv at *
        generalize weight N (at0 A.l k - at0 U.l k) = vv at *
        generalize at0 T.l k = ea at *
        generalize at0 U.l k = eb at *
        have ws1 : IntKind.i64.wrap (ea - eb) = ea - eb := IntWalk.i64_in _ (by omega)
        have ws2 : IntKind.i64.wrap (eb - ea) = eb - ea := IntWalk.i64_in _ (by omega)
        replace hb0_0 := Since.cellTo ⟨y, rfl⟩ hb0_0
        replace hb0_1 := Since.cellTo ⟨y, rfl⟩ hb0_1
        replace hb0_2 := Since.cellTo ⟨y, rfl⟩ hb0_2
        replace hb0_3 := Since.cellTo ⟨y, rfl⟩ hb0_3
        replace hb0_4 := Since.cellTo ⟨y, rfl⟩ hb0_4
        replace hb0_5 := Since.cellTo ⟨y, rfl⟩ hb0_5
        replace hb0_6 := Since.cellTo ⟨y, rfl⟩ hb0_6
        replace hb0_7 := Since.cellTo ⟨y, rfl⟩ hb0_7
        replace hb0_8 := Since.cellTo ⟨y, rfl⟩ hb0_8
        replace hb0_9 := Since.cellTo ⟨y, rfl⟩ hb0_9
        replace hb1_0 := Since.cellTo ⟨y, rfl⟩ hb1_0
        replace hb1_1 := Since.cellTo ⟨y, rfl⟩ hb1_1
        replace hb1_2 := Since.cellTo ⟨y, rfl⟩ hb1_2
        replace hb2_0 := Since.cellTo ⟨y, rfl⟩ hb2_0
        replace hb2_1 := Since.cellTo ⟨y, rfl⟩ hb2_1
        replace hb2_2 := Since.cellTo ⟨y, rfl⟩ hb2_2
        replace hb3_0 := Since.cellTo ⟨y, rfl⟩ hb3_0
        replace hb3_1 := Since.cellTo ⟨y, rfl⟩ hb3_1
        replace f0 := Since.cellTo ⟨y, rfl⟩ f0
        replace f1 := Since.cellTo ⟨y, rfl⟩ f1
        replace f2 := Since.cellTo ⟨y, rfl⟩ f2
        replace f3 := Since.cellTo ⟨y, rfl⟩ f3
        change Code.wp _ _ _ _ (Since.self y.w).w
        go_upto_region 8 with fail
        refine wp_region_since (by kernel_rfl) (by kernel_rfl) ?_
        repeat (go_big_quiet_step (fail))
        refine wpQuiet_nil ?_
        rintro _ ⟨z1, rfl⟩
        rw [abs_max]
        have HK := Lib.hid (show okC num den ea eb wv vv = (decide ((ea - eb).natAbs ≤ 3) && (decide (den ^ (ea - eb).natAbs * wv ≤ num ^ (ea - eb).natAbs * vv) && decide (den ^ (ea - eb).natAbs * vv ≤ num ^ (ea - eb).natAbs * wv))) from rfl)
        have HUp := Lib.hid (fun q : Since y.w => show ∃ z : Since y2.w, q.w = z.w from y.trans q)
        clear ws1 ws2
        generalize (ea - eb).natAbs = K at *
        by_cases hK : K ≤ 3
        · have HPn := Lib.hid (pow_in (show 1 ≤ num by omega) (by omega) K hK)
          have HPd := Lib.hid (pow_in (show 1 ≤ den by omega) (by omega) K hK)
          have HP1 := Lib.hid (fun z : Since y.w => rlpower_calls y.w z num K (by omega) (by omega) hK)
          have HP2 := Lib.hid (fun z : Since y.w => rlpower_calls y.w z den K (by omega) (by omega) hK)
          obtain ⟨p1, p2, _⟩ := HPn.out
          obtain ⟨p3, p4, _⟩ := HPd.out
          have HK2 := Lib.hid (show CC = (decide (den ^ K * wv ≤ num ^ K * vv) && decide (den ^ K * vv ≤ num ^ K * wv)) by rw [HD.out, HK.out, decide_eq_true hK, Bool.true_and])
          clear HPn HPd HK HD
          generalize num ^ K = P at *
          generalize den ^ K = D at *
          have hK3 : ¬ (3 : Int) < (K : Int) := by omega
          go_upto_region 11 with fail
          refine wp_region_since (by kernel_rfl) (by kernel_rfl) ?_
          repeat (go_big_quiet_step ((first | (go_at_call 42; (with_reducible exact HP1.out _)) | (go_at_call 42; (with_reducible exact HP2.out _)))))
          refine wpQuiet_nil ?_
          rintro _ ⟨z2, rfl⟩
          obtain ⟨m1, m2⟩ := mul_in (show 0 ≤ D by omega) p4 u5 u6
          obtain ⟨m3, m4⟩ := mul_in (show 0 ≤ P by omega) p2 u7 u8
          obtain ⟨m5, m6⟩ := mul_in (show 0 ≤ D by omega) p4 u7 u8
          obtain ⟨m7, m8⟩ := mul_in (show 0 ≤ P by omega) p2 u5 u6
          have ws1 : IntKind.i64.wrap (D * wv) = D * wv := IntWalk.i64_in _ (by omega)
          have ws2 : IntKind.i64.wrap (P * vv) = P * vv := IntWalk.i64_in _ (by omega)
          have ws3 : IntKind.i64.wrap (D * vv) = D * vv := IntWalk.i64_in _ (by omega)
          have ws4 : IntKind.i64.wrap (P * wv) = P * wv := IntWalk.i64_in _ (by omega)
          clear m1 m2 m3 m4 m5 m6 m7 m8
          by_cases c1 : P * vv < D * wv
          · have hd1 : decide (P * vv < D * wv) = true := decide_eq_true c1
            have HB := Lib.hid (HC.out (by rw [HK2.out, decide_eq_false (by omega)]; rfl))
            clear c1 HK2 HC Hst HCe HYe HP1 HP2
            go_upto_region 12 with fail
            refine wp_region_since (by kernel_rfl) (by kernel_rfl) ?_
            repeat (go_big_quiet_step (fail))
            refine wpQuiet_nil ?_
            rintro _ ⟨z3, rfl⟩
            go_wp2_with fail
            go_ret
            obtain ⟨q, hq⟩ := HUp.out z3
            exact ⟨ret_bool HB.out.symm, hq ▸ HU2.out q⟩
          · have hd1 : decide (P * vv < D * wv) = false := decide_eq_false c1
            by_cases c2 : P * wv < D * vv
            · have hd2 : decide (P * wv < D * vv) = true := decide_eq_true c2
              have HB := Lib.hid (HC.out (by rw [HK2.out, decide_eq_true (show D * wv ≤ P * vv by omega), decide_eq_false (show ¬ D * vv ≤ P * wv by omega)]; rfl))
              clear c1 c2 HK2 HC Hst HCe HYe HP1 HP2
              go_upto_region 12 with fail
              refine wp_region_since (by kernel_rfl) (by kernel_rfl) ?_
              repeat (go_big_quiet_step (fail))
              refine wpQuiet_nil ?_
              rintro _ ⟨z3, rfl⟩
              go_wp2_with fail
              go_ret
              obtain ⟨q, hq⟩ := HUp.out z3
              exact ⟨ret_bool HB.out.symm, hq ▸ HU2.out q⟩
            · have hd2 : decide (P * wv < D * vv) = false := decide_eq_false c2
              have HS2 := Lib.hid (Hst.out (by rw [HK2.out, decide_eq_true (show D * wv ≤ P * vv by omega), decide_eq_true (show D * vv ≤ P * wv by omega)]; rfl))
              clear c1 c2 HK2 HC Hst HCe HYe HP1 HP2
              go_upto_region 12 with fail
              refine wp_region_since (by kernel_rfl) (by kernel_rfl) ?_
              repeat (go_big_quiet_step (fail))
              refine wpQuiet_nil ?_
              rintro _ ⟨z3, rfl⟩
              obtain ⟨q, hq⟩ := HUp.out z3
              rw [hq]
              go_wp2_with fail
              go_roundw
              case rel => exact ⟨k + 1, q, by omega, by go_num, rfl, HS2.out⟩
              case measure => simp [intOf] <;> omega
        · have hK3 : (3 : Int) < (K : Int) := by omega
          have HB := Lib.hid (HC.out (by rw [HD.out, HK.out, decide_eq_false hK]; rfl))
          clear HD HK HC Hst HCe HYe
          go_wp2_with fail
          go_ret
          obtain ⟨q, hq⟩ := HUp.out z1
          exact ⟨ret_bool HB.out.symm, hq ▸ HU2.out q⟩
      · obtain rfl : k = T.l.length := by omega
        have HB := Lib.hid (HYe.out Hn.out)
        clear HCe HYe
        go_wp2_with fail
        go_ret
        exact ⟨ret_bool HB.out.symm, HU2.out y⟩
  · have HB := Lib.hid (HN.out hok)
    have hdec : chE A T N ≠ 0 ∨ (chE A T N = 0 ∧ chE A U N ≠ 0) ∨ (chE A T N = 0 ∧ chE A U N = 0 ∧ den < 1) ∨ (chE A T N = 0 ∧ chE A U N = 0 ∧ 1 ≤ den ∧ num < den) ∨ (chE A T N = 0 ∧ chE A U N = 0 ∧ 1 ≤ den ∧ den ≤ num ∧ 1024 < num) := by unfold alOk at hok; omega
    clear HN HCell HYes hok
    generalize chE A T N = E1 at *
    generalize chE A U N = E2 at *
    rcases hdec with h1 | ⟨h1, h2⟩ | ⟨h1, h2, h3⟩ | ⟨h1, h2, h3, h4⟩ | ⟨h1, h2, h3, h4, h5⟩
    · have h1' := intrel_ne h1
      clear h1
      go_wp2_with fail
      go_ret
      exact ⟨ret_bool HB.out.symm, HU2.out (Since.self _)⟩
    · have h1' := intrel_eq h1
      have h2' := intrel_ne h2
      clear h1 h2
      go_wp2_with fail
      go_ret
      exact ⟨ret_bool HB.out.symm, HU2.out (Since.self _)⟩
    all_goals
      have h1' := intrel_eq h1
      have h2' := intrel_eq h2
      clear h1 h2
      go_wp2_with fail
      go_ret
      exact ⟨ret_bool HB.out.symm, HU2.out (Since.self _)⟩
end Go.Proofs.YtdkcclngionihaaDoor
/- The weights of the noise of a release, walked (the reference). -/
namespace Go.Proofs.YtdkcclngionihaaDoor
open Go.RowKit

theorem nrow_of {w : World} {base : Nat} {v : Value} {n : Nat} {L : List Int} (hn : L.length = n) (h : w.ownsRow base 3 1 v n (L.map (.int .i64))) : ∃ a c, v = .slice a n c ∧ IntRow w a L := by
  obtain ⟨a, c, hv, _, hr, _⟩ := own_row h
  refine ⟨a, c, hv, fun i hi => ?_⟩
  obtain ⟨b, o, h1, h2, h3⟩ := hr i (by omega)
  refine ⟨b, o, h1, h2, h3.trans ?_⟩
  simp [at0, List.getD_eq_getElem?_getD, List.getElem?_eq_getElem hi]
set_option linter.unusedSimpArgs false in
set_option maxRecDepth 100000 in
set_option maxHeartbeats 8000000 in
theorem rchances_calls (w : World) (x : Since w) (f t each : Int) (A T : Tab) (N : List Int) (a1 a2 a3 a4 a5 a6 : Option Addr) (c1 n2 c2 n3 c3 n4 c4 c5 c6 : Nat) (h1 : IntRow w a1 A.l) (h5 : IntRow w a5 N) (h6 : IntRow w a6 T.l) (hl1 : A.l.length ≤ 9223372036854775807) (hl5 : N.length ≤ 9223372036854775807) (hl6 : T.l.length ≤ 9223372036854775807) :
    Calls Tryd.prog 17 #[.agg #[.int .i64 f, .int .i64 t, .int .i64 each, .int .i64 A.r, .int .i64 A.c, .slice a1 A.l.length c1, .slice a2 n2 c2, .slice a3 n3 c3, .slice a4 n4 c4, .slice a5 N.length c5], .agg #[.int .i64 T.r, .int .i64 T.c, .slice a6 T.l.length c6]] x.w (ChRes w (chV A T N) (chE A T N)) := by
  have HAr := Lib.hid h1; have HNr := Lib.hid h5; have HTr := Lib.hid h6
  have Hlen := Lib.hid (And.intro hl1 (And.intro hl5 hl6))
  have HE := Lib.hid (show chE A T N = if chkE A ≠ 0 then chkE A else if chkE T ≠ 0 then chkE T else if A.r ≠ T.r ∨ A.c ≠ T.c then 3 else check N from rfl)
  have HNo := Lib.hid (fun e (h : chE A T N = e) (he : e ≠ 0) (y : Since w) => chres_no h he y)
  have HYes := Lib.hid (fun (h : chE A T N = 0) (y : Since w) a c (hr : IntRow y.w a (chL A T N)) => show ChRes w (chV A T N) (chE A T N) (.returned (.tuple #[.slice a T.l.length c, .int .i64 0])) y.w from by
    have hv : chV A T N = chL A T N := by unfold chV; rw [if_pos h]
    rw [hv, h]
    exact ⟨a, c, y, by rw [show (chL A T N).length = T.l.length by simp [chL]], rfl, hr⟩)
  generalize ChRes w (chV A T N) (chE A T N) = PO at *
  generalize chE A T N = E at *
  clear h1 h5 h6 hl1 hl5 hl6
  go_enter Tryd.func17, Tryd.ntmps17
  go_upto_region 1 with fail
  have hb0_0 : ∀ y : Since ((x.w.alloc (.cells #[.int .i64 f, .int .i64 t, .int .i64 each, .int .i64 A.r, .int .i64 A.c, .slice a1 A.l.length c1, .slice a2 n2 c2, .slice a3 n3 c3, .slice a4 n4 c4, .slice a5 N.length c5] 36)).alloc (.cells #[.int .i64 T.r, .int .i64 T.c, .slice a6 T.l.length c6] 31)), y.w.cell? ⟨x.w.heap.size, 0, none⟩ = some (.int .i64 f) := fun y => Since.cell (by simp [go_sem]) (by first | (simp; done) | (simp; omega)) y
  have hb0_1 : ∀ y : Since ((x.w.alloc (.cells #[.int .i64 f, .int .i64 t, .int .i64 each, .int .i64 A.r, .int .i64 A.c, .slice a1 A.l.length c1, .slice a2 n2 c2, .slice a3 n3 c3, .slice a4 n4 c4, .slice a5 N.length c5] 36)).alloc (.cells #[.int .i64 T.r, .int .i64 T.c, .slice a6 T.l.length c6] 31)), y.w.cell? ⟨x.w.heap.size, 1, none⟩ = some (.int .i64 t) := fun y => Since.cell (by simp [go_sem]) (by first | (simp; done) | (simp; omega)) y
  have hb0_2 : ∀ y : Since ((x.w.alloc (.cells #[.int .i64 f, .int .i64 t, .int .i64 each, .int .i64 A.r, .int .i64 A.c, .slice a1 A.l.length c1, .slice a2 n2 c2, .slice a3 n3 c3, .slice a4 n4 c4, .slice a5 N.length c5] 36)).alloc (.cells #[.int .i64 T.r, .int .i64 T.c, .slice a6 T.l.length c6] 31)), y.w.cell? ⟨x.w.heap.size, 2, none⟩ = some (.int .i64 each) := fun y => Since.cell (by simp [go_sem]) (by first | (simp; done) | (simp; omega)) y
  have hb0_3 : ∀ y : Since ((x.w.alloc (.cells #[.int .i64 f, .int .i64 t, .int .i64 each, .int .i64 A.r, .int .i64 A.c, .slice a1 A.l.length c1, .slice a2 n2 c2, .slice a3 n3 c3, .slice a4 n4 c4, .slice a5 N.length c5] 36)).alloc (.cells #[.int .i64 T.r, .int .i64 T.c, .slice a6 T.l.length c6] 31)), y.w.cell? ⟨x.w.heap.size, 3, none⟩ = some (.int .i64 A.r) := fun y => Since.cell (by simp [go_sem]) (by first | (simp; done) | (simp; omega)) y
  have hb0_4 : ∀ y : Since ((x.w.alloc (.cells #[.int .i64 f, .int .i64 t, .int .i64 each, .int .i64 A.r, .int .i64 A.c, .slice a1 A.l.length c1, .slice a2 n2 c2, .slice a3 n3 c3, .slice a4 n4 c4, .slice a5 N.length c5] 36)).alloc (.cells #[.int .i64 T.r, .int .i64 T.c, .slice a6 T.l.length c6] 31)), y.w.cell? ⟨x.w.heap.size, 4, none⟩ = some (.int .i64 A.c) := fun y => Since.cell (by simp [go_sem]) (by first | (simp; done) | (simp; omega)) y
  have hb0_5 : ∀ y : Since ((x.w.alloc (.cells #[.int .i64 f, .int .i64 t, .int .i64 each, .int .i64 A.r, .int .i64 A.c, .slice a1 A.l.length c1, .slice a2 n2 c2, .slice a3 n3 c3, .slice a4 n4 c4, .slice a5 N.length c5] 36)).alloc (.cells #[.int .i64 T.r, .int .i64 T.c, .slice a6 T.l.length c6] 31)), y.w.cell? ⟨x.w.heap.size, 5, none⟩ = some (.slice a1 A.l.length c1) := fun y => Since.cell (by simp [go_sem]) (by first | (simp; done) | (simp; omega)) y
  have hb0_6 : ∀ y : Since ((x.w.alloc (.cells #[.int .i64 f, .int .i64 t, .int .i64 each, .int .i64 A.r, .int .i64 A.c, .slice a1 A.l.length c1, .slice a2 n2 c2, .slice a3 n3 c3, .slice a4 n4 c4, .slice a5 N.length c5] 36)).alloc (.cells #[.int .i64 T.r, .int .i64 T.c, .slice a6 T.l.length c6] 31)), y.w.cell? ⟨x.w.heap.size, 6, none⟩ = some (.slice a2 n2 c2) := fun y => Since.cell (by simp [go_sem]) (by first | (simp; done) | (simp; omega)) y
  have hb0_7 : ∀ y : Since ((x.w.alloc (.cells #[.int .i64 f, .int .i64 t, .int .i64 each, .int .i64 A.r, .int .i64 A.c, .slice a1 A.l.length c1, .slice a2 n2 c2, .slice a3 n3 c3, .slice a4 n4 c4, .slice a5 N.length c5] 36)).alloc (.cells #[.int .i64 T.r, .int .i64 T.c, .slice a6 T.l.length c6] 31)), y.w.cell? ⟨x.w.heap.size, 7, none⟩ = some (.slice a3 n3 c3) := fun y => Since.cell (by simp [go_sem]) (by first | (simp; done) | (simp; omega)) y
  have hb0_8 : ∀ y : Since ((x.w.alloc (.cells #[.int .i64 f, .int .i64 t, .int .i64 each, .int .i64 A.r, .int .i64 A.c, .slice a1 A.l.length c1, .slice a2 n2 c2, .slice a3 n3 c3, .slice a4 n4 c4, .slice a5 N.length c5] 36)).alloc (.cells #[.int .i64 T.r, .int .i64 T.c, .slice a6 T.l.length c6] 31)), y.w.cell? ⟨x.w.heap.size, 8, none⟩ = some (.slice a4 n4 c4) := fun y => Since.cell (by simp [go_sem]) (by first | (simp; done) | (simp; omega)) y
  have hb0_9 : ∀ y : Since ((x.w.alloc (.cells #[.int .i64 f, .int .i64 t, .int .i64 each, .int .i64 A.r, .int .i64 A.c, .slice a1 A.l.length c1, .slice a2 n2 c2, .slice a3 n3 c3, .slice a4 n4 c4, .slice a5 N.length c5] 36)).alloc (.cells #[.int .i64 T.r, .int .i64 T.c, .slice a6 T.l.length c6] 31)), y.w.cell? ⟨x.w.heap.size, 9, none⟩ = some (.slice a5 N.length c5) := fun y => Since.cell (by simp [go_sem]) (by first | (simp; done) | (simp; omega)) y
  have hf0 : ∀ (y : Since ((x.w.alloc (.cells #[.int .i64 f, .int .i64 t, .int .i64 each, .int .i64 A.r, .int .i64 A.c, .slice a1 A.l.length c1, .slice a2 n2 c2, .slice a3 n3 c3, .slice a4 n4 c4, .slice a5 N.length c5] 36)).alloc (.cells #[.int .i64 T.r, .int .i64 T.c, .slice a6 T.l.length c6] 31))) (o : Nat), y.w.frozen? ⟨x.w.heap.size, o, none⟩ = false := fun y o => Since.free (by simp [go_sem]) (by first | (simp; done) | (simp; omega)) y
  have hb1_0 : ∀ y : Since ((x.w.alloc (.cells #[.int .i64 f, .int .i64 t, .int .i64 each, .int .i64 A.r, .int .i64 A.c, .slice a1 A.l.length c1, .slice a2 n2 c2, .slice a3 n3 c3, .slice a4 n4 c4, .slice a5 N.length c5] 36)).alloc (.cells #[.int .i64 T.r, .int .i64 T.c, .slice a6 T.l.length c6] 31)), y.w.cell? ⟨x.w.heap.size + 1, 0, none⟩ = some (.int .i64 T.r) := fun y => Since.cell (by simp [go_sem]) (by first | (simp; done) | (simp; omega)) y
  have hb1_1 : ∀ y : Since ((x.w.alloc (.cells #[.int .i64 f, .int .i64 t, .int .i64 each, .int .i64 A.r, .int .i64 A.c, .slice a1 A.l.length c1, .slice a2 n2 c2, .slice a3 n3 c3, .slice a4 n4 c4, .slice a5 N.length c5] 36)).alloc (.cells #[.int .i64 T.r, .int .i64 T.c, .slice a6 T.l.length c6] 31)), y.w.cell? ⟨x.w.heap.size + 1, 1, none⟩ = some (.int .i64 T.c) := fun y => Since.cell (by simp [go_sem]) (by first | (simp; done) | (simp; omega)) y
  have hb1_2 : ∀ y : Since ((x.w.alloc (.cells #[.int .i64 f, .int .i64 t, .int .i64 each, .int .i64 A.r, .int .i64 A.c, .slice a1 A.l.length c1, .slice a2 n2 c2, .slice a3 n3 c3, .slice a4 n4 c4, .slice a5 N.length c5] 36)).alloc (.cells #[.int .i64 T.r, .int .i64 T.c, .slice a6 T.l.length c6] 31)), y.w.cell? ⟨x.w.heap.size + 1, 2, none⟩ = some (.slice a6 T.l.length c6) := fun y => Since.cell (by simp [go_sem]) (by first | (simp; done) | (simp; omega)) y
  have hf1 : ∀ (y : Since ((x.w.alloc (.cells #[.int .i64 f, .int .i64 t, .int .i64 each, .int .i64 A.r, .int .i64 A.c, .slice a1 A.l.length c1, .slice a2 n2 c2, .slice a3 n3 c3, .slice a4 n4 c4, .slice a5 N.length c5] 36)).alloc (.cells #[.int .i64 T.r, .int .i64 T.c, .slice a6 T.l.length c6] 31))) (o : Nat), y.w.frozen? ⟨x.w.heap.size + 1, o, none⟩ = false := fun y o => Since.free (by simp [go_sem]) (by first | (simp; done) | (simp; omega)) y
  have hWup : ∃ z : Since w, ((x.w.alloc (.cells #[.int .i64 f, .int .i64 t, .int .i64 each, .int .i64 A.r, .int .i64 A.c, .slice a1 A.l.length c1, .slice a2 n2 c2, .slice a3 n3 c3, .slice a4 n4 c4, .slice a5 N.length c5] 36)).alloc (.cells #[.int .i64 T.r, .int .i64 T.c, .slice a6 T.l.length c6] 31)) = z.w := Since.allocs x [.cells #[.int .i64 f, .int .i64 t, .int .i64 each, .int .i64 A.r, .int .i64 A.c, .slice a1 A.l.length c1, .slice a2 n2 c2, .slice a3 n3 c3, .slice a4 n4 c4, .slice a5 N.length c5] 36, .cells #[.int .i64 T.r, .int .i64 T.c, .slice a6 T.l.length c6] 31]
  obtain ⟨y0, hy0⟩ := Since.refl ((x.w.alloc (.cells #[.int .i64 f, .int .i64 t, .int .i64 each, .int .i64 A.r, .int .i64 A.c, .slice a1 A.l.length c1, .slice a2 n2 c2, .slice a3 n3 c3, .slice a4 n4 c4, .slice a5 N.length c5] 36)).alloc (.cells #[.int .i64 T.r, .int .i64 T.c, .slice a6 T.l.length c6] 31))
  have Hbx := Lib.hid (And.intro x.b.size (show x.w.heap.size + 2 = ((x.w.alloc (.cells #[.int .i64 f, .int .i64 t, .int .i64 each, .int .i64 A.r, .int .i64 A.c, .slice a1 A.l.length c1, .slice a2 n2 c2, .slice a3 n3 c3, .slice a4 n4 c4, .slice a5 N.length c5] 36)).alloc (.cells #[.int .i64 T.r, .int .i64 T.c, .slice a6 T.l.length c6] 31)).heap.size from by simp))
  generalize hW : ((x.w.alloc (.cells #[.int .i64 f, .int .i64 t, .int .i64 each, .int .i64 A.r, .int .i64 A.c, .slice a1 A.l.length c1, .slice a2 n2 c2, .slice a3 n3 c3, .slice a4 n4 c4, .slice a5 N.length c5] 36)).alloc (.cells #[.int .i64 T.r, .int .i64 T.c, .slice a6 T.l.length c6] 31)) = W at *
  clear hW
  generalize x.w.heap.size = bx at *
  have Hup := Lib.hid (Since.up hWup)
  rw [hy0]
  clear hy0
  replace HAr := Lib.hid (HAr.out.to hWup)
  replace HNr := Lib.hid (HNr.out.to hWup)
  replace HTr := Lib.hid (HTr.out.to hWup)
  clear hWup hf0 hf1
  have HNo2 := Lib.hid (show ∀ e, E = e → e ≠ 0 → ∀ z : Since W, PO (.returned (.tuple #[.slice none 0 0, .int .i64 e])) z.w from fun e h he z => by obtain ⟨z2, hz⟩ := Hup.out z; rw [hz]; exact HNo.out e h he z2)
  have HY2 := Lib.hid (show E = 0 → ∀ (z : Since W) a c, IntRow z.w a (chL A T N) → PO (.returned (.tuple #[.slice a T.l.length c, .int .i64 0])) z.w from fun h z a c hr => by
    obtain ⟨z2, hz⟩ := Hup.out z
    rw [hz] at hr ⊢
    exact HYes.out h z2 a c hr)
  clear HNo HYes
  have HC1 := Lib.hid (rtcheck_calls W y0 A a1 c1 HAr.out Hlen.out.1)
  go_upto_region 2 with (go_at_call 39; ((with_reducible refine HC1.out.mono ?_); rintro _ _ ⟨rfl, z1, rfl⟩))
  clear HC1
  by_cases hA0 : chkE A = 0
  · have HiA := Lib.hid (chk_inv hA0)
    have hA64 := chk_len64 hA0
    have HE1 := Lib.hid (show E = if chkE T ≠ 0 then chkE T else if A.r ≠ T.r ∨ A.c ≠ T.c then 3 else check N by rw [HE.out, if_neg (by rw [hA0]; simp)])
    rw [hA0]
    clear HE hA0
    have HC2 := Lib.hid (rtcheck_calls W z1 T a6 c6 HTr.out Hlen.out.2.2)
    go_upto_region 5 with (go_at_call 39; ((with_reducible refine HC2.out.mono ?_); rintro _ _ ⟨rfl, z2, rfl⟩))
    clear HC2
    by_cases hT0 : chkE T = 0
    · have HiT := Lib.hid (chk_inv hT0)
      have hT64 := chk_len64 hT0
      have HE2 := Lib.hid (show E = if A.r ≠ T.r ∨ A.c ≠ T.c then 3 else check N by rw [HE1.out, if_neg (by rw [hT0]; simp)])
      rw [hT0]
      clear HE1 hT0
      by_cases hr : A.r = T.r
      · by_cases hc : A.c = T.c
        · have HE3 := Lib.hid (show E = check N by rw [HE2.out, if_neg (by rw [hr, hc]; simp)])
          have HlA := Lib.hid (show A.l.length = T.l.length from by have h1 := HiA.out.2.2.1; have h2 := HiT.out.2.2.1; rw [hr, hc, ← h2] at h1; omega)
          have hr' := intrel_eq hr
          have hc' := intrel_eq hc
          have HCk := Lib.hid (fun z : Since W => nrcheck_calls W z a5 N c5 Hlen.out.2.1 HNr.out)
          clear hr hc HE2
          go_upto_region 10 with (go_at_call 40; ((with_reducible refine (HCk.out _).mono ?_); rintro _ _ ⟨rfl, z3, rfl⟩))
          clear hr' hc'
          by_cases h0 : check N = 0
          · have HY3 := Lib.hid (HY2.out (HE3.out.trans h0))
            rw [h0]
            clear HNo2 HY2 HE3 h0 HCk
            go_upto_region 14 with fail
            obtain ⟨z4, hz4⟩ := z3.alloc (.cells ([] : List Value).toArray 3)
            have hown := own_new z3.w W.heap.size z3.b.size 3 [] (by decide)
            rw [hz4] at hown
            change Code.wp _ _ _ _ (z3.w.alloc (.cells ([] : List Value).toArray 3))
            rw [hz4]
            have Hown := Lib.hid hown
            have HoB := Lib.hid (show W.heap.size ≤ z4.w.heap.size from z4.b.size)
            clear hown hz4
            generalize z3.w.heap.size = go at *
            go_loopw [9, 10] (fun sv si wr => ∃ (k : Nat) (z : Since W), k ≤ T.l.length ∧ si = .int .i64 (k : Int) ∧ wr = z.w ∧ z.w.ownsRow W.heap.size 3 1 sv k (((List.range k).map fun i => weight N (at0 A.l i - at0 T.l i)).map (Value.int .i64))) (fun _ si _ => T.l.length - (intOf si).toNat)
            case atStart => exact ⟨0, z4, by omega, rfl, rfl, Hown.out⟩
            case round =>
              clear Hown HoB
              obtain ⟨k, z, hk, rfl, rfl, hown⟩ := hrel
              have Hown := Lib.hid hown
              clear hown
              by_cases hlt : k < T.l.length
              · have hk0 : (0 : Int) ≤ (k : Int) := by omega
                have hkl : (k : Int) < (T.l.length : Int) := by omega
                have hkA : (k : Int) < (A.l.length : Int) := by have := HlA.out; omega
                obtain ⟨b1, o1, rfl, hb1, hc1'⟩ := HTr.out k hlt
                have f0 : ∀ q : Since W, q.w.cell? ⟨b1, o1 + k, none⟩ = some (.int .i64 (at0 T.l k)) := fun q => Since.cell hc1' hb1 q
                obtain ⟨b2, o2, rfl, hb2, hc2'⟩ := HAr.out k (by have := HlA.out; omega)
                have f1 : ∀ q : Since W, q.w.cell? ⟨b2, o2 + k, none⟩ = some (.int .i64 (at0 A.l k)) := fun q => Since.cell hc2' hb2 q
                clear hb1 hc1' hb2 hc2'
                obtain ⟨u1, u2⟩ := HiA.out.2.2.2 k (by have := HlA.out; omega)
                obtain ⟨u3, u4⟩ := HiT.out.2.2.2 k hlt
                have HWt := Lib.hid (fun (u : World) (hu : IsSince W u) => show Calls Tryd.prog 41 #[.agg #[.slice a5 N.length c5], .int .i64 (at0 A.l k - at0 T.l k)] u (fun o w' => o = .returned (.int .i64 (weight N (at0 A.l k - at0 T.l k))) ∧ ∃ y : Since u, w' = y.w) from rweight_calls u (Since.self u) a5 N c5 (at0 A.l k - at0 T.l k) ⟨by omega, by omega⟩ Hlen.out.2.1 (HNr.out.to hu))
                have Hsn := Lib.hid (show ((List.range (k + 1)).map fun i => weight N (at0 A.l i - at0 T.l i)).map (Value.int .i64) = ((List.range k).map fun i => weight N (at0 A.l i - at0 T.l i)).map (Value.int .i64) ++ [Value.int .i64 (weight N (at0 A.l k - at0 T.l k))] by rw [List.range_succ, List.map_append, List.map_append]; rfl)
                generalize weight N (at0 A.l k - at0 T.l k) = wv at *
                have ws : IntKind.i64.wrap (at0 A.l k - at0 T.l k) = at0 A.l k - at0 T.l k := IntWalk.i64_in _ (by omega)
                generalize at0 A.l k = ea at *
                generalize at0 T.l k = et at *
                go_upto_region 16 with fail
                have i2 := fun w' (h : IsSince W w') => IsSince.cell hb1_2 h
                have i5 := fun w' (h : IsSince W w') => IsSince.cell hb0_5 h
                have i9 := fun w' (h : IsSince W w') => IsSince.cell hb0_9 h
                have j0 := fun w' (h : IsSince W w') => IsSince.cell f0 h
                have j1 := fun w' (h : IsSince W w') => IsSince.cell f1 h
                refine wp_region_M (fun w' => IsSince W w') 18 (by kernel_rfl) (IsSince.drew' (IsSince.of z)) (fun hS => ?_)
                refine wpAnyM_takeU (i := 0) (v := ?_) rfl (by kernel_rfl) (by kernel_rfl) (by kernel_rfl) (by kernel_rfl) (fun _ _ _ h => h) hS (Or.inl ⟨by rfl, ?_⟩) ?_
                rotate_left
                · (intro w hSw; (try dsimp only at hSw); go_split_ands; go_simp; try (with_reducible rfl))
                (try simp only [Act.put, List.setIfInBounds_toArray, List.set_cons_zero, List.set_cons_succ])
                refine wpAnyM_takeU (i := 1) (v := ?_) rfl (by kernel_rfl) (by kernel_rfl) (by kernel_rfl) (by kernel_rfl) (fun _ _ _ h => h) hS (Or.inl ⟨by rfl, ?_⟩) ?_
                rotate_left
                · (intro w hSw; (try dsimp only at hSw); go_split_ands; go_simp; try (with_reducible rfl))
                (try simp only [Act.put, List.setIfInBounds_toArray, List.set_cons_zero, List.set_cons_succ])
                refine wpAnyM_takeU (i := 2) (v := ?_) rfl (by kernel_rfl) (by kernel_rfl) (by kernel_rfl) (by kernel_rfl) (fun _ _ _ h => h) hS (Or.inl ⟨by rfl, ?_⟩) ?_
                rotate_left
                · (intro w hSw; (try dsimp only at hSw); go_split_ands; go_simp; try (with_reducible rfl))
                (try simp only [Act.put, List.setIfInBounds_toArray, List.set_cons_zero, List.set_cons_succ])
                refine wpAnyM_takeU (i := 3) (v := ?_) rfl (by kernel_rfl) (by kernel_rfl) (by kernel_rfl) (by kernel_rfl) (fun _ _ _ h => h) hS (Or.inl ⟨by rfl, ?_⟩) ?_
                rotate_left
                · (intro w hSw; (try dsimp only at hSw); go_split_ands; go_simp; try (with_reducible rfl))
                (try simp only [Act.put, List.setIfInBounds_toArray, List.set_cons_zero, List.set_cons_succ])
                refine wpAnyM_takeU (i := 4) (v := ?_) rfl (by kernel_rfl) (by kernel_rfl) (by kernel_rfl) (by kernel_rfl) (fun _ _ _ h => h) hS (Or.inl ⟨by rfl, ?_⟩) ?_
                rotate_left
                · (intro w hSw; (try dsimp only at hSw); go_split_ands; go_simp; try (with_reducible rfl))
                (try simp only [Act.put, List.setIfInBounds_toArray, List.set_cons_zero, List.set_cons_succ])
                refine wpAnyM_takeU (i := 5) (v := ?_) rfl (by kernel_rfl) (by kernel_rfl) (by kernel_rfl) (by kernel_rfl) (fun _ _ _ h => h) hS (Or.inl ⟨by rfl, ?_⟩) ?_
                rotate_left
                · (intro w hSw; (try dsimp only at hSw); go_split_ands; go_simp; try (with_reducible rfl))
                (try simp only [Act.put, List.setIfInBounds_toArray, List.set_cons_zero, List.set_cons_succ])
                refine wpAnyM_takeU (i := 6) (v := ?_) rfl (by kernel_rfl) (by kernel_rfl) (by kernel_rfl) (by kernel_rfl) (fun _ _ _ h => h) hS (Or.inl ⟨by rfl, ?_⟩) ?_
                rotate_left
                · (intro w hSw; (try dsimp only at hSw); go_split_ands; go_simp; try (with_reducible rfl))
                (try simp only [Act.put, List.setIfInBounds_toArray, List.set_cons_zero, List.set_cons_succ])
                refine wpAnyM_takeU (i := 7) (v := ?_) rfl (by kernel_rfl) (by kernel_rfl) (by kernel_rfl) (by kernel_rfl) (fun _ _ _ h => h) hS (Or.inl ⟨by rfl, ?_⟩) ?_
                rotate_left
                · (intro w hSw; (try dsimp only at hSw); go_split_ands; go_simp; try (with_reducible rfl))
                (try simp only [Act.put, List.setIfInBounds_toArray, List.set_cons_zero, List.set_cons_succ])
                refine wpAnyM_takeU (i := 8) (v := ?_) rfl (by kernel_rfl) (by kernel_rfl) (by kernel_rfl) (by kernel_rfl) (fun _ _ _ h => h) hS (Or.inl ⟨by rfl, ?_⟩) ?_
                rotate_left
                · (intro w hSw; (try dsimp only at hSw); go_split_ands; go_simp; try (with_reducible rfl))
                (try simp only [Act.put, List.setIfInBounds_toArray, List.set_cons_zero, List.set_cons_succ])
                refine wpAnyM_takeU (i := 9) (v := ?_) rfl (by kernel_rfl) (by kernel_rfl) (by kernel_rfl) (by kernel_rfl) (fun _ _ _ h => h) hS (Or.inl ⟨by rfl, ?_⟩) ?_
                rotate_left
                · (intro w hSw; (try dsimp only at hSw); go_split_ands; go_simp; try (with_reducible rfl))
                (try simp only [Act.put, List.setIfInBounds_toArray, List.set_cons_zero, List.set_cons_succ])
                refine wpAnyM_takeU (i := 10) (v := ?_) rfl (by kernel_rfl) (by kernel_rfl) (by kernel_rfl) (by kernel_rfl) (fun _ _ _ h => h) hS (Or.inl ⟨by rfl, ?_⟩) ?_
                rotate_left
                · (intro w hSw; (try dsimp only at hSw); go_split_ands; go_simp; try (with_reducible rfl))
                (try simp only [Act.put, List.setIfInBounds_toArray, List.set_cons_zero, List.set_cons_succ])
                refine wpAnyM_takeU (i := 11) (v := ?_) rfl (by kernel_rfl) (by kernel_rfl) (by kernel_rfl) (by kernel_rfl) (fun _ _ _ h => h) hS (Or.inl ⟨by rfl, ?_⟩) ?_
                rotate_left
                · (intro w hSw; (try dsimp only at hSw); go_split_ands; go_simp; try (with_reducible rfl))
                (try simp only [Act.put, List.setIfInBounds_toArray, List.set_cons_zero, List.set_cons_succ])
                refine wpAnyM_takeU (i := 12) (v := ?_) rfl (by kernel_rfl) (by kernel_rfl) (by kernel_rfl) (by kernel_rfl) (fun _ _ _ h => h) hS (Or.inl ⟨by rfl, ?_⟩) ?_
                rotate_left
                · (intro w hSw; (try dsimp only at hSw); go_split_ands; go_simp; try (with_reducible rfl))
                (try simp only [Act.put, List.setIfInBounds_toArray, List.set_cons_zero, List.set_cons_succ])
                refine wpAnyM_takeU (i := 13) (v := ?_) rfl (by kernel_rfl) (by kernel_rfl) (by kernel_rfl) (by kernel_rfl) (fun _ _ _ h => h) hS (Or.inl ⟨by rfl, ?_⟩) ?_
                rotate_left
                · (intro w hSw; (try dsimp only at hSw); go_split_ands; go_simp; try (with_reducible rfl))
                (try simp only [Act.put, List.setIfInBounds_toArray, List.set_cons_zero, List.set_cons_succ])
                refine wpAnyM_takeU (i := 14) (v := ?_) rfl (by kernel_rfl) (by kernel_rfl) (by kernel_rfl) (by kernel_rfl) (fun _ _ _ h => h) hS (Or.inl ⟨by rfl, ?_⟩) ?_
                rotate_left
                · (intro w hSw; (try dsimp only at hSw); go_split_ands; go_simp; try (with_reducible rfl))
                (try simp only [Act.put, List.setIfInBounds_toArray, List.set_cons_zero, List.set_cons_succ])
                refine wpAnyM_one (i := 15) (by kernel_rfl) rfl (fun K hK => ?_)
                (go_simp; (with_reducible refine (HWt.out _ hS).mono ?_); rintro _ _ ⟨rfl, q2, rfl⟩; have hO := own_since (own_to Hown.out (IsSince.drew' (IsSince.self _))) q2.b; have hW2 := IsSince.trans hS (IsSince.of q2))
                refine hK.out _ _ (Or.inr (hW2)) (fun hS' => ?_)
                replace hS := hS'.resolve_left (by decide)
                clear hK K hS'
                (try simp only [Act.put, List.setIfInBounds_toArray, List.set_cons_zero, List.set_cons_succ])
                refine wpAnyM_one (i := 16) (by kernel_rfl) rfl (fun K hK => ?_)
                go_simp
                refine hK.out _ _ (Or.inr (IsSince.alloc hW2 _)) (fun hS' => ?_)
                replace hS := hS'.resolve_left (by decide)
                clear hK K hS'
                (try simp only [Act.put, List.setIfInBounds_toArray, List.set_cons_zero, List.set_cons_succ])
                refine wpAnyM_one (i := 17) (by kernel_rfl) rfl (fun K hK => ?_)
                (refine step_appL (k := 1) (w0 := W) hS rfl _ _ 22 rfl W.heap.size (Nat.le_refl _) (IsSince.size hS) 3 (.int .i64 0) 8 sIntF _ k (((List.range k).map fun i => weight N (at0 A.l i - at0 T.l i)).map (Value.int .i64)) rfl (own_up hO) ⟨q2.w.heap.size, 0, none⟩ 1 1 [.int .i64 wv] rfl rfl (blk_cells _ _ rfl) (fun u hu => by simp at hu; subst hu; rfl) Nat.one_pos (by unfold maxLen; omega) (by omega) ?_; intro v2 q3 hown2 hg2 hl2; have hO2 := Hsn.out ▸ hown2)
                refine hK.out _ _ (Or.inr (IsSince.of q3)) (fun hS' => ?_)
                replace hS := hS'.resolve_left (by decide)
                clear hK K hS'
                (try simp only [Act.put, List.setIfInBounds_toArray, List.set_cons_zero, List.set_cons_succ])
                refine wpAnyM_one (i := 18) (by kernel_rfl) rfl (fun K hK => ?_)
                go_simp
                refine hK.out _ _ (Or.inl rfl) (fun _ => ?_)
                clear hK K hS
                (try simp only [Act.put, List.setIfInBounds_toArray, List.set_cons_zero, List.set_cons_succ])
                refine wpAnyM_done (by kernel_rfl) ?_
                have HO2 := Lib.hid hO2
                clear hO2 hown2 hO hg2 hl2 HWt i2 i5 i9 j0 j1 ws Hsn Hown hW2
                go_wp2_with fail
                go_roundw
                case rel => exact ⟨k + 1, q3, by omega, by go_num, rfl, HO2.out⟩
                case measure => simp [intOf] <;> omega
              · obtain rfl : k = T.l.length := by omega
                obtain ⟨a, c, rfl, hr⟩ := nrow_of (by simp) Hown.out
                have HP := Lib.hid (HY3.out z a c hr)
                clear HY3 hr
                go_wp2_with fail
                exact HP.out
          · have HN2 := Lib.hid (HNo2.out _ HE3.out h0)
            clear HNo2 HE3 HCk HY2
            generalize check N = e at *
            go_wp2_with fail
            exact HN2.out z3
        · have HN2 := Lib.hid (HNo2.out 3 (by rw [HE2.out, if_pos (Or.inr hc)]) (by decide))
          have hr' := intrel_eq hr
          have hc' := intrel_ne hc
          clear hr hc HE2 HNo2 HY2
          go_wp2_with fail
          exact HN2.out z2
      · have HN2 := Lib.hid (HNo2.out 3 (by rw [HE2.out, if_pos (Or.inl hr)]) (by decide))
        have hr' := intrel_ne hr
        clear hr HE2 HNo2 HY2
        go_wp2_with fail
        exact HN2.out z2
    · have HN2 := Lib.hid (HNo2.out _ (by rw [HE1.out, if_pos hT0]) hT0)
      clear HNo2 HE1 HY2
      generalize chkE T = e at *
      go_wp2_with fail
      exact HN2.out z2
  · have HN2 := Lib.hid (HNo2.out _ (by rw [HE.out, if_pos hA0]) hA0)
    clear HNo2 HE HY2
    generalize chkE A = e at *
    go_wp2_with fail
    exact HN2.out z1
end Go.Proofs.YtdkcclngionihaaDoor
/- Alike releases, walked (the reference). Written by mkr2.py. -/
namespace Go.Proofs.YtdkcclngionihaaDoor
open Go.RowKit

set_option linter.unusedSimpArgs false in
set_option maxRecDepth 100000 in
set_option maxHeartbeats 16000000 in
theorem ralike_calls (w : World) (x : Since w) (f t each : Int) (A T U : Tab) (N : List Int) (num den : Int) (a1 a2 a3 a4 a5 a6 a7 : Option Addr) (c1 n2 c2 n3 c3 n4 c4 c5 c6 c7 : Nat) (h1 : IntRow w a1 A.l) (h5 : IntRow w a5 N) (h6 : IntRow w a6 T.l) (h7 : IntRow w a7 U.l) (hl1 : A.l.length ≤ 9223372036854775807) (hl5 : N.length ≤ 9223372036854775807) (hl6 : T.l.length ≤ 9223372036854775807) (hl7 : U.l.length ≤ 9223372036854775807) :
    Calls Tryd.prog 20 #[.agg #[.int .i64 f, .int .i64 t, .int .i64 each, .int .i64 A.r, .int .i64 A.c, .slice a1 A.l.length c1, .slice a2 n2 c2, .slice a3 n3 c3, .slice a4 n4 c4, .slice a5 N.length c5], .agg #[.int .i64 T.r, .int .i64 T.c, .slice a6 T.l.length c6], .agg #[.int .i64 U.r, .int .i64 U.c, .slice a7 U.l.length c7], .agg #[.int .i64 num, .int .i64 den]] x.w fun o w' => o = .returned (.bool (alB A T U N num den)) ∧ ∃ y : Since w, w' = y.w := by
  have HTr := Lib.hid h6; have HUr := Lib.hid h7
  have HC1 := Lib.hid (fun (W : World) (y : Since W) h1 h5 h6 => rchances_calls W y f t each A T N a1 a2 a3 a4 a5 a6 c1 n2 c2 n3 c3 n4 c4 c5 c6 h1 h5 h6 hl1 hl5 hl6)
  have HC2 := Lib.hid (fun (W : World) (y : Since W) h1 h5 h6 => rchances_calls W y f t each A U N a1 a2 a3 a4 a5 a7 c1 n2 c2 n3 c3 n4 c4 c5 c7 h1 h5 h6 hl1 hl5 hl7)
  have HN := Lib.hid (fun h => alB_no (A := A) (T := T) (U := U) (N := N) (num := num) (den := den) h)
  have HCell := Lib.hid (fun i hi h => alB_cell (A := A) (T := T) (U := U) (N := N) (num := num) (den := den) (i := i) hi h)
  have HYes := Lib.hid (fun h hc => alB_yes (A := A) (T := T) (U := U) (N := N) (num := num) (den := den) h hc)
  have HAr := Lib.hid h1; have HNr := Lib.hid h5
  generalize alB A T U N num den = B at *
  clear h1 h5 h6 h7 hl1 hl5 hl6 hl7
  go_enter Tryd.func20, Tryd.ntmps20
  go_upto_region 1 with fail
  have hb0_0 : ∀ y : Since ((((x.w.alloc (.cells #[.int .i64 f, .int .i64 t, .int .i64 each, .int .i64 A.r, .int .i64 A.c, .slice a1 A.l.length c1, .slice a2 n2 c2, .slice a3 n3 c3, .slice a4 n4 c4, .slice a5 N.length c5] 36)).alloc (.cells #[.int .i64 T.r, .int .i64 T.c, .slice a6 T.l.length c6] 31)).alloc (.cells #[.int .i64 U.r, .int .i64 U.c, .slice a7 U.l.length c7] 31)).alloc (.cells #[.int .i64 num, .int .i64 den] 50)), y.w.cell? ⟨x.w.heap.size, 0, none⟩ = some (.int .i64 f) := fun y => Since.cell (by simp [go_sem]) (by first | (simp; done) | (simp; omega)) y
  have hb0_1 : ∀ y : Since ((((x.w.alloc (.cells #[.int .i64 f, .int .i64 t, .int .i64 each, .int .i64 A.r, .int .i64 A.c, .slice a1 A.l.length c1, .slice a2 n2 c2, .slice a3 n3 c3, .slice a4 n4 c4, .slice a5 N.length c5] 36)).alloc (.cells #[.int .i64 T.r, .int .i64 T.c, .slice a6 T.l.length c6] 31)).alloc (.cells #[.int .i64 U.r, .int .i64 U.c, .slice a7 U.l.length c7] 31)).alloc (.cells #[.int .i64 num, .int .i64 den] 50)), y.w.cell? ⟨x.w.heap.size, 1, none⟩ = some (.int .i64 t) := fun y => Since.cell (by simp [go_sem]) (by first | (simp; done) | (simp; omega)) y
  have hb0_2 : ∀ y : Since ((((x.w.alloc (.cells #[.int .i64 f, .int .i64 t, .int .i64 each, .int .i64 A.r, .int .i64 A.c, .slice a1 A.l.length c1, .slice a2 n2 c2, .slice a3 n3 c3, .slice a4 n4 c4, .slice a5 N.length c5] 36)).alloc (.cells #[.int .i64 T.r, .int .i64 T.c, .slice a6 T.l.length c6] 31)).alloc (.cells #[.int .i64 U.r, .int .i64 U.c, .slice a7 U.l.length c7] 31)).alloc (.cells #[.int .i64 num, .int .i64 den] 50)), y.w.cell? ⟨x.w.heap.size, 2, none⟩ = some (.int .i64 each) := fun y => Since.cell (by simp [go_sem]) (by first | (simp; done) | (simp; omega)) y
  have hb0_3 : ∀ y : Since ((((x.w.alloc (.cells #[.int .i64 f, .int .i64 t, .int .i64 each, .int .i64 A.r, .int .i64 A.c, .slice a1 A.l.length c1, .slice a2 n2 c2, .slice a3 n3 c3, .slice a4 n4 c4, .slice a5 N.length c5] 36)).alloc (.cells #[.int .i64 T.r, .int .i64 T.c, .slice a6 T.l.length c6] 31)).alloc (.cells #[.int .i64 U.r, .int .i64 U.c, .slice a7 U.l.length c7] 31)).alloc (.cells #[.int .i64 num, .int .i64 den] 50)), y.w.cell? ⟨x.w.heap.size, 3, none⟩ = some (.int .i64 A.r) := fun y => Since.cell (by simp [go_sem]) (by first | (simp; done) | (simp; omega)) y
  have hb0_4 : ∀ y : Since ((((x.w.alloc (.cells #[.int .i64 f, .int .i64 t, .int .i64 each, .int .i64 A.r, .int .i64 A.c, .slice a1 A.l.length c1, .slice a2 n2 c2, .slice a3 n3 c3, .slice a4 n4 c4, .slice a5 N.length c5] 36)).alloc (.cells #[.int .i64 T.r, .int .i64 T.c, .slice a6 T.l.length c6] 31)).alloc (.cells #[.int .i64 U.r, .int .i64 U.c, .slice a7 U.l.length c7] 31)).alloc (.cells #[.int .i64 num, .int .i64 den] 50)), y.w.cell? ⟨x.w.heap.size, 4, none⟩ = some (.int .i64 A.c) := fun y => Since.cell (by simp [go_sem]) (by first | (simp; done) | (simp; omega)) y
  have hb0_5 : ∀ y : Since ((((x.w.alloc (.cells #[.int .i64 f, .int .i64 t, .int .i64 each, .int .i64 A.r, .int .i64 A.c, .slice a1 A.l.length c1, .slice a2 n2 c2, .slice a3 n3 c3, .slice a4 n4 c4, .slice a5 N.length c5] 36)).alloc (.cells #[.int .i64 T.r, .int .i64 T.c, .slice a6 T.l.length c6] 31)).alloc (.cells #[.int .i64 U.r, .int .i64 U.c, .slice a7 U.l.length c7] 31)).alloc (.cells #[.int .i64 num, .int .i64 den] 50)), y.w.cell? ⟨x.w.heap.size, 5, none⟩ = some (.slice a1 A.l.length c1) := fun y => Since.cell (by simp [go_sem]) (by first | (simp; done) | (simp; omega)) y
  have hb0_6 : ∀ y : Since ((((x.w.alloc (.cells #[.int .i64 f, .int .i64 t, .int .i64 each, .int .i64 A.r, .int .i64 A.c, .slice a1 A.l.length c1, .slice a2 n2 c2, .slice a3 n3 c3, .slice a4 n4 c4, .slice a5 N.length c5] 36)).alloc (.cells #[.int .i64 T.r, .int .i64 T.c, .slice a6 T.l.length c6] 31)).alloc (.cells #[.int .i64 U.r, .int .i64 U.c, .slice a7 U.l.length c7] 31)).alloc (.cells #[.int .i64 num, .int .i64 den] 50)), y.w.cell? ⟨x.w.heap.size, 6, none⟩ = some (.slice a2 n2 c2) := fun y => Since.cell (by simp [go_sem]) (by first | (simp; done) | (simp; omega)) y
  have hb0_7 : ∀ y : Since ((((x.w.alloc (.cells #[.int .i64 f, .int .i64 t, .int .i64 each, .int .i64 A.r, .int .i64 A.c, .slice a1 A.l.length c1, .slice a2 n2 c2, .slice a3 n3 c3, .slice a4 n4 c4, .slice a5 N.length c5] 36)).alloc (.cells #[.int .i64 T.r, .int .i64 T.c, .slice a6 T.l.length c6] 31)).alloc (.cells #[.int .i64 U.r, .int .i64 U.c, .slice a7 U.l.length c7] 31)).alloc (.cells #[.int .i64 num, .int .i64 den] 50)), y.w.cell? ⟨x.w.heap.size, 7, none⟩ = some (.slice a3 n3 c3) := fun y => Since.cell (by simp [go_sem]) (by first | (simp; done) | (simp; omega)) y
  have hb0_8 : ∀ y : Since ((((x.w.alloc (.cells #[.int .i64 f, .int .i64 t, .int .i64 each, .int .i64 A.r, .int .i64 A.c, .slice a1 A.l.length c1, .slice a2 n2 c2, .slice a3 n3 c3, .slice a4 n4 c4, .slice a5 N.length c5] 36)).alloc (.cells #[.int .i64 T.r, .int .i64 T.c, .slice a6 T.l.length c6] 31)).alloc (.cells #[.int .i64 U.r, .int .i64 U.c, .slice a7 U.l.length c7] 31)).alloc (.cells #[.int .i64 num, .int .i64 den] 50)), y.w.cell? ⟨x.w.heap.size, 8, none⟩ = some (.slice a4 n4 c4) := fun y => Since.cell (by simp [go_sem]) (by first | (simp; done) | (simp; omega)) y
  have hb0_9 : ∀ y : Since ((((x.w.alloc (.cells #[.int .i64 f, .int .i64 t, .int .i64 each, .int .i64 A.r, .int .i64 A.c, .slice a1 A.l.length c1, .slice a2 n2 c2, .slice a3 n3 c3, .slice a4 n4 c4, .slice a5 N.length c5] 36)).alloc (.cells #[.int .i64 T.r, .int .i64 T.c, .slice a6 T.l.length c6] 31)).alloc (.cells #[.int .i64 U.r, .int .i64 U.c, .slice a7 U.l.length c7] 31)).alloc (.cells #[.int .i64 num, .int .i64 den] 50)), y.w.cell? ⟨x.w.heap.size, 9, none⟩ = some (.slice a5 N.length c5) := fun y => Since.cell (by simp [go_sem]) (by first | (simp; done) | (simp; omega)) y
  have hf0 : ∀ (y : Since ((((x.w.alloc (.cells #[.int .i64 f, .int .i64 t, .int .i64 each, .int .i64 A.r, .int .i64 A.c, .slice a1 A.l.length c1, .slice a2 n2 c2, .slice a3 n3 c3, .slice a4 n4 c4, .slice a5 N.length c5] 36)).alloc (.cells #[.int .i64 T.r, .int .i64 T.c, .slice a6 T.l.length c6] 31)).alloc (.cells #[.int .i64 U.r, .int .i64 U.c, .slice a7 U.l.length c7] 31)).alloc (.cells #[.int .i64 num, .int .i64 den] 50))) (o : Nat), y.w.frozen? ⟨x.w.heap.size, o, none⟩ = false := fun y o => Since.free (by simp [go_sem]) (by first | (simp; done) | (simp; omega)) y
  have hb1_0 : ∀ y : Since ((((x.w.alloc (.cells #[.int .i64 f, .int .i64 t, .int .i64 each, .int .i64 A.r, .int .i64 A.c, .slice a1 A.l.length c1, .slice a2 n2 c2, .slice a3 n3 c3, .slice a4 n4 c4, .slice a5 N.length c5] 36)).alloc (.cells #[.int .i64 T.r, .int .i64 T.c, .slice a6 T.l.length c6] 31)).alloc (.cells #[.int .i64 U.r, .int .i64 U.c, .slice a7 U.l.length c7] 31)).alloc (.cells #[.int .i64 num, .int .i64 den] 50)), y.w.cell? ⟨x.w.heap.size + 1, 0, none⟩ = some (.int .i64 T.r) := fun y => Since.cell (by simp [go_sem]) (by first | (simp; done) | (simp; omega)) y
  have hb1_1 : ∀ y : Since ((((x.w.alloc (.cells #[.int .i64 f, .int .i64 t, .int .i64 each, .int .i64 A.r, .int .i64 A.c, .slice a1 A.l.length c1, .slice a2 n2 c2, .slice a3 n3 c3, .slice a4 n4 c4, .slice a5 N.length c5] 36)).alloc (.cells #[.int .i64 T.r, .int .i64 T.c, .slice a6 T.l.length c6] 31)).alloc (.cells #[.int .i64 U.r, .int .i64 U.c, .slice a7 U.l.length c7] 31)).alloc (.cells #[.int .i64 num, .int .i64 den] 50)), y.w.cell? ⟨x.w.heap.size + 1, 1, none⟩ = some (.int .i64 T.c) := fun y => Since.cell (by simp [go_sem]) (by first | (simp; done) | (simp; omega)) y
  have hb1_2 : ∀ y : Since ((((x.w.alloc (.cells #[.int .i64 f, .int .i64 t, .int .i64 each, .int .i64 A.r, .int .i64 A.c, .slice a1 A.l.length c1, .slice a2 n2 c2, .slice a3 n3 c3, .slice a4 n4 c4, .slice a5 N.length c5] 36)).alloc (.cells #[.int .i64 T.r, .int .i64 T.c, .slice a6 T.l.length c6] 31)).alloc (.cells #[.int .i64 U.r, .int .i64 U.c, .slice a7 U.l.length c7] 31)).alloc (.cells #[.int .i64 num, .int .i64 den] 50)), y.w.cell? ⟨x.w.heap.size + 1, 2, none⟩ = some (.slice a6 T.l.length c6) := fun y => Since.cell (by simp [go_sem]) (by first | (simp; done) | (simp; omega)) y
  have hf1 : ∀ (y : Since ((((x.w.alloc (.cells #[.int .i64 f, .int .i64 t, .int .i64 each, .int .i64 A.r, .int .i64 A.c, .slice a1 A.l.length c1, .slice a2 n2 c2, .slice a3 n3 c3, .slice a4 n4 c4, .slice a5 N.length c5] 36)).alloc (.cells #[.int .i64 T.r, .int .i64 T.c, .slice a6 T.l.length c6] 31)).alloc (.cells #[.int .i64 U.r, .int .i64 U.c, .slice a7 U.l.length c7] 31)).alloc (.cells #[.int .i64 num, .int .i64 den] 50))) (o : Nat), y.w.frozen? ⟨x.w.heap.size + 1, o, none⟩ = false := fun y o => Since.free (by simp [go_sem]) (by first | (simp; done) | (simp; omega)) y
  have hb2_0 : ∀ y : Since ((((x.w.alloc (.cells #[.int .i64 f, .int .i64 t, .int .i64 each, .int .i64 A.r, .int .i64 A.c, .slice a1 A.l.length c1, .slice a2 n2 c2, .slice a3 n3 c3, .slice a4 n4 c4, .slice a5 N.length c5] 36)).alloc (.cells #[.int .i64 T.r, .int .i64 T.c, .slice a6 T.l.length c6] 31)).alloc (.cells #[.int .i64 U.r, .int .i64 U.c, .slice a7 U.l.length c7] 31)).alloc (.cells #[.int .i64 num, .int .i64 den] 50)), y.w.cell? ⟨x.w.heap.size + 2, 0, none⟩ = some (.int .i64 U.r) := fun y => Since.cell (by simp [go_sem]) (by first | (simp; done) | (simp; omega)) y
  have hb2_1 : ∀ y : Since ((((x.w.alloc (.cells #[.int .i64 f, .int .i64 t, .int .i64 each, .int .i64 A.r, .int .i64 A.c, .slice a1 A.l.length c1, .slice a2 n2 c2, .slice a3 n3 c3, .slice a4 n4 c4, .slice a5 N.length c5] 36)).alloc (.cells #[.int .i64 T.r, .int .i64 T.c, .slice a6 T.l.length c6] 31)).alloc (.cells #[.int .i64 U.r, .int .i64 U.c, .slice a7 U.l.length c7] 31)).alloc (.cells #[.int .i64 num, .int .i64 den] 50)), y.w.cell? ⟨x.w.heap.size + 2, 1, none⟩ = some (.int .i64 U.c) := fun y => Since.cell (by simp [go_sem]) (by first | (simp; done) | (simp; omega)) y
  have hb2_2 : ∀ y : Since ((((x.w.alloc (.cells #[.int .i64 f, .int .i64 t, .int .i64 each, .int .i64 A.r, .int .i64 A.c, .slice a1 A.l.length c1, .slice a2 n2 c2, .slice a3 n3 c3, .slice a4 n4 c4, .slice a5 N.length c5] 36)).alloc (.cells #[.int .i64 T.r, .int .i64 T.c, .slice a6 T.l.length c6] 31)).alloc (.cells #[.int .i64 U.r, .int .i64 U.c, .slice a7 U.l.length c7] 31)).alloc (.cells #[.int .i64 num, .int .i64 den] 50)), y.w.cell? ⟨x.w.heap.size + 2, 2, none⟩ = some (.slice a7 U.l.length c7) := fun y => Since.cell (by simp [go_sem]) (by first | (simp; done) | (simp; omega)) y
  have hf2 : ∀ (y : Since ((((x.w.alloc (.cells #[.int .i64 f, .int .i64 t, .int .i64 each, .int .i64 A.r, .int .i64 A.c, .slice a1 A.l.length c1, .slice a2 n2 c2, .slice a3 n3 c3, .slice a4 n4 c4, .slice a5 N.length c5] 36)).alloc (.cells #[.int .i64 T.r, .int .i64 T.c, .slice a6 T.l.length c6] 31)).alloc (.cells #[.int .i64 U.r, .int .i64 U.c, .slice a7 U.l.length c7] 31)).alloc (.cells #[.int .i64 num, .int .i64 den] 50))) (o : Nat), y.w.frozen? ⟨x.w.heap.size + 2, o, none⟩ = false := fun y o => Since.free (by simp [go_sem]) (by first | (simp; done) | (simp; omega)) y
  have hb3_0 : ∀ y : Since ((((x.w.alloc (.cells #[.int .i64 f, .int .i64 t, .int .i64 each, .int .i64 A.r, .int .i64 A.c, .slice a1 A.l.length c1, .slice a2 n2 c2, .slice a3 n3 c3, .slice a4 n4 c4, .slice a5 N.length c5] 36)).alloc (.cells #[.int .i64 T.r, .int .i64 T.c, .slice a6 T.l.length c6] 31)).alloc (.cells #[.int .i64 U.r, .int .i64 U.c, .slice a7 U.l.length c7] 31)).alloc (.cells #[.int .i64 num, .int .i64 den] 50)), y.w.cell? ⟨x.w.heap.size + 3, 0, none⟩ = some (.int .i64 num) := fun y => Since.cell (by simp [go_sem]) (by first | (simp; done) | (simp; omega)) y
  have hb3_1 : ∀ y : Since ((((x.w.alloc (.cells #[.int .i64 f, .int .i64 t, .int .i64 each, .int .i64 A.r, .int .i64 A.c, .slice a1 A.l.length c1, .slice a2 n2 c2, .slice a3 n3 c3, .slice a4 n4 c4, .slice a5 N.length c5] 36)).alloc (.cells #[.int .i64 T.r, .int .i64 T.c, .slice a6 T.l.length c6] 31)).alloc (.cells #[.int .i64 U.r, .int .i64 U.c, .slice a7 U.l.length c7] 31)).alloc (.cells #[.int .i64 num, .int .i64 den] 50)), y.w.cell? ⟨x.w.heap.size + 3, 1, none⟩ = some (.int .i64 den) := fun y => Since.cell (by simp [go_sem]) (by first | (simp; done) | (simp; omega)) y
  have hf3 : ∀ (y : Since ((((x.w.alloc (.cells #[.int .i64 f, .int .i64 t, .int .i64 each, .int .i64 A.r, .int .i64 A.c, .slice a1 A.l.length c1, .slice a2 n2 c2, .slice a3 n3 c3, .slice a4 n4 c4, .slice a5 N.length c5] 36)).alloc (.cells #[.int .i64 T.r, .int .i64 T.c, .slice a6 T.l.length c6] 31)).alloc (.cells #[.int .i64 U.r, .int .i64 U.c, .slice a7 U.l.length c7] 31)).alloc (.cells #[.int .i64 num, .int .i64 den] 50))) (o : Nat), y.w.frozen? ⟨x.w.heap.size + 3, o, none⟩ = false := fun y o => Since.free (by simp [go_sem]) (by first | (simp; done) | (simp; omega)) y
  have hWup : ∃ z : Since w, ((((x.w.alloc (.cells #[.int .i64 f, .int .i64 t, .int .i64 each, .int .i64 A.r, .int .i64 A.c, .slice a1 A.l.length c1, .slice a2 n2 c2, .slice a3 n3 c3, .slice a4 n4 c4, .slice a5 N.length c5] 36)).alloc (.cells #[.int .i64 T.r, .int .i64 T.c, .slice a6 T.l.length c6] 31)).alloc (.cells #[.int .i64 U.r, .int .i64 U.c, .slice a7 U.l.length c7] 31)).alloc (.cells #[.int .i64 num, .int .i64 den] 50)) = z.w := Since.allocs x [.cells #[.int .i64 f, .int .i64 t, .int .i64 each, .int .i64 A.r, .int .i64 A.c, .slice a1 A.l.length c1, .slice a2 n2 c2, .slice a3 n3 c3, .slice a4 n4 c4, .slice a5 N.length c5] 36, .cells #[.int .i64 T.r, .int .i64 T.c, .slice a6 T.l.length c6] 31, .cells #[.int .i64 U.r, .int .i64 U.c, .slice a7 U.l.length c7] 31, .cells #[.int .i64 num, .int .i64 den] 50]
  obtain ⟨y0, hy0⟩ := Since.refl ((((x.w.alloc (.cells #[.int .i64 f, .int .i64 t, .int .i64 each, .int .i64 A.r, .int .i64 A.c, .slice a1 A.l.length c1, .slice a2 n2 c2, .slice a3 n3 c3, .slice a4 n4 c4, .slice a5 N.length c5] 36)).alloc (.cells #[.int .i64 T.r, .int .i64 T.c, .slice a6 T.l.length c6] 31)).alloc (.cells #[.int .i64 U.r, .int .i64 U.c, .slice a7 U.l.length c7] 31)).alloc (.cells #[.int .i64 num, .int .i64 den] 50))
  have Hbx := Lib.hid (And.intro x.b.size (show x.w.heap.size + 4 = ((((x.w.alloc (.cells #[.int .i64 f, .int .i64 t, .int .i64 each, .int .i64 A.r, .int .i64 A.c, .slice a1 A.l.length c1, .slice a2 n2 c2, .slice a3 n3 c3, .slice a4 n4 c4, .slice a5 N.length c5] 36)).alloc (.cells #[.int .i64 T.r, .int .i64 T.c, .slice a6 T.l.length c6] 31)).alloc (.cells #[.int .i64 U.r, .int .i64 U.c, .slice a7 U.l.length c7] 31)).alloc (.cells #[.int .i64 num, .int .i64 den] 50)).heap.size from by simp))
  generalize hW : ((((x.w.alloc (.cells #[.int .i64 f, .int .i64 t, .int .i64 each, .int .i64 A.r, .int .i64 A.c, .slice a1 A.l.length c1, .slice a2 n2 c2, .slice a3 n3 c3, .slice a4 n4 c4, .slice a5 N.length c5] 36)).alloc (.cells #[.int .i64 T.r, .int .i64 T.c, .slice a6 T.l.length c6] 31)).alloc (.cells #[.int .i64 U.r, .int .i64 U.c, .slice a7 U.l.length c7] 31)).alloc (.cells #[.int .i64 num, .int .i64 den] 50)) = W at *
  clear hW
  generalize x.w.heap.size = bx at *
  have Hup := Lib.hid (Since.up hWup)
  rw [hy0]
  clear hy0
  replace HAr := Lib.hid (HAr.out.to hWup)
  replace HNr := Lib.hid (HNr.out.to hWup)
  replace HTr := Lib.hid (HTr.out.to hWup)
  replace HUr := Lib.hid (HUr.out.to hWup)
  clear hWup hf0 hf1 hf2 hf3
  have H1 := Lib.hid (HC1.out W y0 HAr.out HNr.out HTr.out)
  clear HC1
  go_upto_region 2 with (go_at_call 17; ((with_reducible refine H1.out.mono ?_); rintro _ _ ⟨a8, c8, y1, rfl, rfl, r8⟩))
  have HV := Lib.hid r8
  replace hb0_0 := Since.cellTo ⟨y1, rfl⟩ hb0_0
  replace hb0_1 := Since.cellTo ⟨y1, rfl⟩ hb0_1
  replace hb0_2 := Since.cellTo ⟨y1, rfl⟩ hb0_2
  replace hb0_3 := Since.cellTo ⟨y1, rfl⟩ hb0_3
  replace hb0_4 := Since.cellTo ⟨y1, rfl⟩ hb0_4
  replace hb0_5 := Since.cellTo ⟨y1, rfl⟩ hb0_5
  replace hb0_6 := Since.cellTo ⟨y1, rfl⟩ hb0_6
  replace hb0_7 := Since.cellTo ⟨y1, rfl⟩ hb0_7
  replace hb0_8 := Since.cellTo ⟨y1, rfl⟩ hb0_8
  replace hb0_9 := Since.cellTo ⟨y1, rfl⟩ hb0_9
  replace hb1_0 := Since.cellTo ⟨y1, rfl⟩ hb1_0
  replace hb1_1 := Since.cellTo ⟨y1, rfl⟩ hb1_1
  replace hb1_2 := Since.cellTo ⟨y1, rfl⟩ hb1_2
  replace hb2_0 := Since.cellTo ⟨y1, rfl⟩ hb2_0
  replace hb2_1 := Since.cellTo ⟨y1, rfl⟩ hb2_1
  replace hb2_2 := Since.cellTo ⟨y1, rfl⟩ hb2_2
  replace hb3_0 := Since.cellTo ⟨y1, rfl⟩ hb3_0
  replace hb3_1 := Since.cellTo ⟨y1, rfl⟩ hb3_1
  obtain ⟨q1, hq0⟩ := Since.refl y1.w
  rw [hq0]
  clear hq0
  have H2 := Lib.hid (HC2.out y1.w q1 (HAr.out.to ⟨y1, rfl⟩) (HNr.out.to ⟨y1, rfl⟩) (HUr.out.to ⟨y1, rfl⟩))
  clear H1 r8 HC2
  go_upto_region 3 with (go_at_call 17; ((with_reducible refine H2.out.mono ?_); rintro _ _ ⟨a9, c9, y2, rfl, rfl, r9⟩))
  have HX := Lib.hid r9
  clear H2 r9
  have HU2 := Lib.hid (fun q : Since y2.w => show ∃ z : Since w, q.w = z.w from by obtain ⟨z, hz⟩ := y2.trans q; obtain ⟨z3, hz3⟩ := y1.trans z; rw [hz, hz3]; exact Hup.out z3)
  by_cases hok : alOk A T U N num den
  · obtain ⟨e1, e2, d1, d2, d3⟩ := hok
    have HCe := Lib.hid (fun i hi h => HCell.out i hi h)
    have HYe := Lib.hid (HYes.out ⟨e1, e2, d1, d2, d3⟩)
    have d0 : 1 ≤ num := by omega
    obtain ⟨l1, l2⟩ := chE_len e1
    obtain ⟨l3, l4⟩ := chE_len e2
    obtain ⟨v1, v2⟩ := chV_at e1
    obtain ⟨v3, v4⟩ := chV_at e2
    have HiT := Lib.hid (chk_inv (chE_inv e1).2.1).2.2.2
    have HiU := Lib.hid (chk_inv (chE_inv e2).2.1).2.2.2
    rw [e1, e2]
    have Hv1 := Lib.hid v1; have Hv2 := Lib.hid v2; have Hv3 := Lib.hid v3; have Hv4 := Lib.hid v4
    have HVr := Lib.hid (show Row y2.w a8 T.l.length (fun i => .int .i64 (at0 (chV A T N) i)) from v1 ▸ Since.row HV.out y2)
    have HXr := Lib.hid (show Row y2.w a9 U.l.length (fun i => .int .i64 (at0 (chV A U N) i)) from v3 ▸ HX.out)
    have HTr2 := Lib.hid ((HTr.out.to ⟨y1, rfl⟩).to ⟨y2, rfl⟩)
    have HUr2 := Lib.hid ((HUr.out.to ⟨y1, rfl⟩).to ⟨y2, rfl⟩)
    rw [v1, v3]
    replace hb0_0 := Since.cellTo ⟨y2, rfl⟩ hb0_0
    replace hb0_1 := Since.cellTo ⟨y2, rfl⟩ hb0_1
    replace hb0_2 := Since.cellTo ⟨y2, rfl⟩ hb0_2
    replace hb0_3 := Since.cellTo ⟨y2, rfl⟩ hb0_3
    replace hb0_4 := Since.cellTo ⟨y2, rfl⟩ hb0_4
    replace hb0_5 := Since.cellTo ⟨y2, rfl⟩ hb0_5
    replace hb0_6 := Since.cellTo ⟨y2, rfl⟩ hb0_6
    replace hb0_7 := Since.cellTo ⟨y2, rfl⟩ hb0_7
    replace hb0_8 := Since.cellTo ⟨y2, rfl⟩ hb0_8
    replace hb0_9 := Since.cellTo ⟨y2, rfl⟩ hb0_9
    replace hb1_0 := Since.cellTo ⟨y2, rfl⟩ hb1_0
    replace hb1_1 := Since.cellTo ⟨y2, rfl⟩ hb1_1
    replace hb1_2 := Since.cellTo ⟨y2, rfl⟩ hb1_2
    replace hb2_0 := Since.cellTo ⟨y2, rfl⟩ hb2_0
    replace hb2_1 := Since.cellTo ⟨y2, rfl⟩ hb2_1
    replace hb2_2 := Since.cellTo ⟨y2, rfl⟩ hb2_2
    replace hb3_0 := Since.cellTo ⟨y2, rfl⟩ hb3_0
    replace hb3_1 := Since.cellTo ⟨y2, rfl⟩ hb3_1
    obtain ⟨q2, hq0⟩ := Since.refl y2.w
    rw [hq0]
    clear hq0
    have hm64 : T.l.length ≤ 64 := l2
    have hmu : U.l.length = T.l.length := by omega
    rw [hmu] at HXr ⊢
    have Hmu := Lib.hid hmu
    clear e1 e2 v1 v2 v3 v4 HN HCell HYes l1 l3 l2 l4 hmu HV HX HTr HUr HAr HNr
    go_upto_region 6 with fail
    go_loopw [13] (fun si wr => ∃ (k : Nat) (y : Since y2.w), k ≤ T.l.length ∧ si = .int .i64 (k : Int) ∧ wr = y.w ∧ ∀ j, j < k → alC A T U N num den j = true) (fun si _ => T.l.length - (intOf si).toNat)
    case atStart => exact ⟨0, q2, by omega, rfl, rfl, fun j hj => by omega⟩
    case round =>
      obtain ⟨k, y, hk, rfl, rfl, hn⟩ := hrel
      have Hn := Lib.hid hn
      clear hn
      by_cases hlt : k < T.l.length
      · have hk0 : (0 : Int) ≤ (k : Int) := by omega
        have hkl : (k : Int) < (T.l.length : Int) := by omega
        have hku : (k : Int) < (U.l.length : Int) := by have := Hmu.out; omega
        obtain ⟨b1, o1, rfl, hb1, hc1'⟩ := HTr2.out k hlt
        have f0 : ∀ q : Since y2.w, q.w.cell? ⟨b1, o1 + k, none⟩ = some (.int .i64 (at0 T.l k)) := fun q => Since.cell hc1' hb1 q
        obtain ⟨b2, o2, rfl, hb2, hc2'⟩ := HUr2.out k (by have := Hmu.out; omega)
        have f1 : ∀ q : Since y2.w, q.w.cell? ⟨b2, o2 + k, none⟩ = some (.int .i64 (at0 U.l k)) := fun q => Since.cell hc2' hb2 q
        obtain ⟨b3, o3, rfl, hb3, hc3'⟩ := HVr.out k hlt
        have f2 : ∀ q : Since y2.w, q.w.cell? ⟨b3, o3 + k, none⟩ = some (.int .i64 (at0 (chV A T N) k)) := fun q => Since.cell hc3' hb3 q
        obtain ⟨b4, o4, rfl, hb4, hc4'⟩ := HXr.out k hlt
        have f3 : ∀ q : Since y2.w, q.w.cell? ⟨b4, o4 + k, none⟩ = some (.int .i64 (at0 (chV A U N) k)) := fun q => Since.cell hc4' hb4 q
        clear hb1 hc1' hb2 hc2' hb3 hc3' hb4 hc4'
        rw [Hv2.out k hlt] at f2
        rw [Hv4.out k (by have := Hmu.out; omega)] at f3
        obtain ⟨u1, u2⟩ := HiT.out k hlt
        obtain ⟨u3, u4⟩ := HiU.out k (by have := Hmu.out; omega)
        obtain ⟨u5, u6⟩ := weight_in N (at0 A.l k - at0 T.l k)
        obtain ⟨u7, u8⟩ := weight_in N (at0 A.l k - at0 U.l k)
        have HC := Lib.hid (HCe.out k hlt)
        have HD := Lib.hid (show alC A T U N num den k = okC num den (at0 T.l k) (at0 U.l k) (weight N (at0 A.l k - at0 T.l k)) (weight N (at0 A.l k - at0 U.l k)) from rfl)
        have Hst := Lib.hid (fun (hp : alC A T U N num den k = true) q (hq : q < k + 1) => show alC A T U N num den q = true from by
          by_cases e : q = k
          · rw [e]; exact hp
          · exact Hn.out q (by omega))
        generalize alC A T U N num den k = CC at *
        generalize weight N (at0 A.l k - at0 T.l k) = wv at *
        generalize weight N (at0 A.l k - at0 U.l k) = vv at *
        generalize at0 T.l k = ea at *
        generalize at0 U.l k = eb at *
        have ws1 : IntKind.i64.wrap (ea - eb) = ea - eb := IntWalk.i64_in _ (by omega)
        have ws2 : IntKind.i64.wrap (eb - ea) = eb - ea := IntWalk.i64_in _ (by omega)
        replace hb0_0 := Since.cellTo ⟨y, rfl⟩ hb0_0
        replace hb0_1 := Since.cellTo ⟨y, rfl⟩ hb0_1
        replace hb0_2 := Since.cellTo ⟨y, rfl⟩ hb0_2
        replace hb0_3 := Since.cellTo ⟨y, rfl⟩ hb0_3
        replace hb0_4 := Since.cellTo ⟨y, rfl⟩ hb0_4
        replace hb0_5 := Since.cellTo ⟨y, rfl⟩ hb0_5
        replace hb0_6 := Since.cellTo ⟨y, rfl⟩ hb0_6
        replace hb0_7 := Since.cellTo ⟨y, rfl⟩ hb0_7
        replace hb0_8 := Since.cellTo ⟨y, rfl⟩ hb0_8
        replace hb0_9 := Since.cellTo ⟨y, rfl⟩ hb0_9
        replace hb1_0 := Since.cellTo ⟨y, rfl⟩ hb1_0
        replace hb1_1 := Since.cellTo ⟨y, rfl⟩ hb1_1
        replace hb1_2 := Since.cellTo ⟨y, rfl⟩ hb1_2
        replace hb2_0 := Since.cellTo ⟨y, rfl⟩ hb2_0
        replace hb2_1 := Since.cellTo ⟨y, rfl⟩ hb2_1
        replace hb2_2 := Since.cellTo ⟨y, rfl⟩ hb2_2
        replace hb3_0 := Since.cellTo ⟨y, rfl⟩ hb3_0
        replace hb3_1 := Since.cellTo ⟨y, rfl⟩ hb3_1
        replace f0 := Since.cellTo ⟨y, rfl⟩ f0
        replace f1 := Since.cellTo ⟨y, rfl⟩ f1
        replace f2 := Since.cellTo ⟨y, rfl⟩ f2
        replace f3 := Since.cellTo ⟨y, rfl⟩ f3
        change Code.wp _ _ _ _ (Since.self y.w).w
        go_upto_region 8 with fail
        refine wp_region_since (by kernel_rfl) (by kernel_rfl) ?_
        repeat (go_big_quiet_step (fail))
        refine wpQuiet_nil ?_
        rintro _ ⟨z1, rfl⟩
        have HK := Lib.hid (show okC num den ea eb wv vv = (decide ((ea - eb).natAbs ≤ 3) && (decide (den ^ (ea - eb).natAbs * wv ≤ num ^ (ea - eb).natAbs * vv) && decide (den ^ (ea - eb).natAbs * vv ≤ num ^ (ea - eb).natAbs * wv))) from rfl)
        have HUp := Lib.hid (fun q : Since y.w => show ∃ z : Since y2.w, q.w = z.w from y.trans q)
        clear ws1 ws2
        obtain ⟨K, hKe⟩ : ∃ K, K = (ea - eb).natAbs := ⟨_, rfl⟩
        rw [← hKe] at HK
        by_cases hneg : ea - eb < 0
        · have hke : -(ea - eb) = (K : Int) := by omega
          have wk : IntKind.i64.wrap (-(ea - eb)) = -(ea - eb) := IntWalk.i64_in _ (by omega)
          have hKs : K ≤ 2000000 := by omega
          clear hKe
          go_upto_region 11 with fail
          (try rw [hke])
          clear hke wk hneg
          by_cases hK : K ≤ 3
          · have HPn := Lib.hid (pow_in (show 1 ≤ num by omega) (by omega))
            have HPd := Lib.hid (pow_in (show 1 ≤ den by omega) (by omega))
            have HK2 := Lib.hid (show CC = (decide (den ^ K * wv ≤ num ^ K * vv) && decide (den ^ K * vv ≤ num ^ K * wv)) by rw [HD.out, HK.out, decide_eq_true hK, Bool.true_and])
            clear HK HD
            have hK3 : ¬ (3 : Int) < (K : Int) := by omega
            go_upto_region 15 with fail
            go_loopw [15, 16, 17] (fun pn pd sj wr => ∃ j : Nat, j ≤ K ∧ pn = .int .i64 (num ^ j) ∧ pd = .int .i64 (den ^ j) ∧ sj = .int .i64 (j : Int) ∧ wr = z1.w) (fun _ _ sj _ => K - (intOf sj).toNat)
            case atStart => exact ⟨0, by omega, by rw [Int.pow_zero], by rw [Int.pow_zero], rfl, rfl⟩
            case round =>
              obtain ⟨j, hj, rfl, rfl, rfl, rfl⟩ := hrel
              by_cases hltj : j < K
              · have hj0 : (0 : Int) ≤ (j : Int) := by omega
                have hjk : (j : Int) < (K : Int) := by omega
                have p1 := (HPn.out (j + 1) (by omega)).1
                have p2 := (HPn.out (j + 1) (by omega)).2.1
                have p3 := (HPd.out (j + 1) (by omega)).1
                have p4 := (HPd.out (j + 1) (by omega)).2.1
                have Hp := Lib.hid (And.intro (Int.pow_succ num j) (Int.pow_succ den j))
                rw [Hp.out.1] at p1 p2
                rw [Hp.out.2] at p3 p4
                clear HPn HPd HK2 HC Hst HCe HYe
                generalize num ^ j = P at *
                generalize den ^ j = D at *
                have ws1 : IntKind.i64.wrap (P * num) = P * num := IntWalk.i64_in _ (by omega)
                have ws2 : IntKind.i64.wrap (D * den) = D * den := IntWalk.i64_in _ (by omega)
                go_wp2_with fail
                go_roundw
                case rel => exact ⟨j + 1, by omega, by rw [Hp.out.1], by rw [Hp.out.2], by go_num, by first | trivial | rfl⟩
                case measure => simp [intOf] <;> omega
              · obtain rfl : j = K := by omega
                obtain ⟨p1, p2, _⟩ := HPn.out j hK
                obtain ⟨p3, p4, _⟩ := HPd.out j hK
                clear HPn HPd
                generalize num ^ j = P at *
                generalize den ^ j = D at *
                obtain ⟨m1, m2⟩ := mul_in (show 0 ≤ D by omega) p4 u5 u6
                obtain ⟨m3, m4⟩ := mul_in (show 0 ≤ P by omega) p2 u7 u8
                obtain ⟨m5, m6⟩ := mul_in (show 0 ≤ D by omega) p4 u7 u8
                obtain ⟨m7, m8⟩ := mul_in (show 0 ≤ P by omega) p2 u5 u6
                have ws1 : IntKind.i64.wrap (D * wv) = D * wv := IntWalk.i64_in _ (by omega)
                have ws2 : IntKind.i64.wrap (P * vv) = P * vv := IntWalk.i64_in _ (by omega)
                have ws3 : IntKind.i64.wrap (D * vv) = D * vv := IntWalk.i64_in _ (by omega)
                have ws4 : IntKind.i64.wrap (P * wv) = P * wv := IntWalk.i64_in _ (by omega)
                clear m1 m2 m3 m4 m5 m6 m7 m8
                by_cases c1 : P * vv < D * wv
                · have hd1 : decide (P * vv < D * wv) = true := decide_eq_true c1
                  have HB := Lib.hid (HC.out (by rw [HK2.out, decide_eq_false (by omega)]; rfl))
                  clear c1 HK2 HC Hst HCe HYe
                  go_upto_region 19 with fail
                  refine wp_region_since (by kernel_rfl) (by kernel_rfl) ?_
                  repeat (go_big_quiet_step (fail))
                  refine wpQuiet_nil ?_
                  rintro _ ⟨z3, rfl⟩
                  go_wp2_with fail
                  go_ret
                  obtain ⟨q, hq⟩ := HUp.out z3
                  exact ⟨ret_bool HB.out.symm, hq ▸ HU2.out q⟩
                · have hd1 : decide (P * vv < D * wv) = false := decide_eq_false c1
                  by_cases c2 : P * wv < D * vv
                  · have hd2 : decide (P * wv < D * vv) = true := decide_eq_true c2
                    have HB := Lib.hid (HC.out (by rw [HK2.out, decide_eq_true (show D * wv ≤ P * vv by omega), decide_eq_false (show ¬ D * vv ≤ P * wv by omega)]; rfl))
                    clear c1 c2 HK2 HC Hst HCe HYe
                    go_upto_region 19 with fail
                    refine wp_region_since (by kernel_rfl) (by kernel_rfl) ?_
                    repeat (go_big_quiet_step (fail))
                    refine wpQuiet_nil ?_
                    rintro _ ⟨z3, rfl⟩
                    go_wp2_with fail
                    go_ret
                    obtain ⟨q, hq⟩ := HUp.out z3
                    exact ⟨ret_bool HB.out.symm, hq ▸ HU2.out q⟩
                  · have hd2 : decide (P * wv < D * vv) = false := decide_eq_false c2
                    have HS2 := Lib.hid (Hst.out (by rw [HK2.out, decide_eq_true (show D * wv ≤ P * vv by omega), decide_eq_true (show D * vv ≤ P * wv by omega)]; rfl))
                    clear c1 c2 HK2 HC Hst HCe HYe
                    go_upto_region 19 with fail
                    refine wp_region_since (by kernel_rfl) (by kernel_rfl) ?_
                    repeat (go_big_quiet_step (fail))
                    refine wpQuiet_nil ?_
                    rintro _ ⟨z3, rfl⟩
                    obtain ⟨q, hq⟩ := HUp.out z3
                    rw [hq]
                    go_wp2_with fail
                    go_roundw
                    case rel => exact ⟨k + 1, q, by omega, by go_num, rfl, HS2.out⟩
                    case measure => simp [intOf] <;> omega
          · have hK3 : (3 : Int) < (K : Int) := by omega
            have HB := Lib.hid (HC.out (by rw [HD.out, HK.out, decide_eq_false hK]; rfl))
            clear HD HK HC Hst HCe HYe
            go_wp2_with fail
            go_ret
            obtain ⟨q, hq⟩ := HUp.out z1
            exact ⟨ret_bool HB.out.symm, hq ▸ HU2.out q⟩
        · have hke : ea - eb = (K : Int) := by omega
          have hKs : K ≤ 2000000 := by omega
          clear hKe
          go_upto_region 11 with fail
          (try rw [hke])
          clear hke hneg
          by_cases hK : K ≤ 3
          · have HPn := Lib.hid (pow_in (show 1 ≤ num by omega) (by omega))
            have HPd := Lib.hid (pow_in (show 1 ≤ den by omega) (by omega))
            have HK2 := Lib.hid (show CC = (decide (den ^ K * wv ≤ num ^ K * vv) && decide (den ^ K * vv ≤ num ^ K * wv)) by rw [HD.out, HK.out, decide_eq_true hK, Bool.true_and])
            clear HK HD
            have hK3 : ¬ (3 : Int) < (K : Int) := by omega
            go_upto_region 15 with fail
            go_loopw [15, 16, 17] (fun pn pd sj wr => ∃ j : Nat, j ≤ K ∧ pn = .int .i64 (num ^ j) ∧ pd = .int .i64 (den ^ j) ∧ sj = .int .i64 (j : Int) ∧ wr = z1.w) (fun _ _ sj _ => K - (intOf sj).toNat)
            case atStart => exact ⟨0, by omega, by rw [Int.pow_zero], by rw [Int.pow_zero], rfl, rfl⟩
            case round =>
              obtain ⟨j, hj, rfl, rfl, rfl, rfl⟩ := hrel
              by_cases hltj : j < K
              · have hj0 : (0 : Int) ≤ (j : Int) := by omega
                have hjk : (j : Int) < (K : Int) := by omega
                have p1 := (HPn.out (j + 1) (by omega)).1
                have p2 := (HPn.out (j + 1) (by omega)).2.1
                have p3 := (HPd.out (j + 1) (by omega)).1
                have p4 := (HPd.out (j + 1) (by omega)).2.1
                have Hp := Lib.hid (And.intro (Int.pow_succ num j) (Int.pow_succ den j))
                rw [Hp.out.1] at p1 p2
                rw [Hp.out.2] at p3 p4
                clear HPn HPd HK2 HC Hst HCe HYe
                generalize num ^ j = P at *
                generalize den ^ j = D at *
                have ws1 : IntKind.i64.wrap (P * num) = P * num := IntWalk.i64_in _ (by omega)
                have ws2 : IntKind.i64.wrap (D * den) = D * den := IntWalk.i64_in _ (by omega)
                go_wp2_with fail
                go_roundw
                case rel => exact ⟨j + 1, by omega, by rw [Hp.out.1], by rw [Hp.out.2], by go_num, by first | trivial | rfl⟩
                case measure => simp [intOf] <;> omega
              · obtain rfl : j = K := by omega
                obtain ⟨p1, p2, _⟩ := HPn.out j hK
                obtain ⟨p3, p4, _⟩ := HPd.out j hK
                clear HPn HPd
                generalize num ^ j = P at *
                generalize den ^ j = D at *
                obtain ⟨m1, m2⟩ := mul_in (show 0 ≤ D by omega) p4 u5 u6
                obtain ⟨m3, m4⟩ := mul_in (show 0 ≤ P by omega) p2 u7 u8
                obtain ⟨m5, m6⟩ := mul_in (show 0 ≤ D by omega) p4 u7 u8
                obtain ⟨m7, m8⟩ := mul_in (show 0 ≤ P by omega) p2 u5 u6
                have ws1 : IntKind.i64.wrap (D * wv) = D * wv := IntWalk.i64_in _ (by omega)
                have ws2 : IntKind.i64.wrap (P * vv) = P * vv := IntWalk.i64_in _ (by omega)
                have ws3 : IntKind.i64.wrap (D * vv) = D * vv := IntWalk.i64_in _ (by omega)
                have ws4 : IntKind.i64.wrap (P * wv) = P * wv := IntWalk.i64_in _ (by omega)
                clear m1 m2 m3 m4 m5 m6 m7 m8
                by_cases c1 : P * vv < D * wv
                · have hd1 : decide (P * vv < D * wv) = true := decide_eq_true c1
                  have HB := Lib.hid (HC.out (by rw [HK2.out, decide_eq_false (by omega)]; rfl))
                  clear c1 HK2 HC Hst HCe HYe
                  go_upto_region 19 with fail
                  refine wp_region_since (by kernel_rfl) (by kernel_rfl) ?_
                  repeat (go_big_quiet_step (fail))
                  refine wpQuiet_nil ?_
                  rintro _ ⟨z3, rfl⟩
                  go_wp2_with fail
                  go_ret
                  obtain ⟨q, hq⟩ := HUp.out z3
                  exact ⟨ret_bool HB.out.symm, hq ▸ HU2.out q⟩
                · have hd1 : decide (P * vv < D * wv) = false := decide_eq_false c1
                  by_cases c2 : P * wv < D * vv
                  · have hd2 : decide (P * wv < D * vv) = true := decide_eq_true c2
                    have HB := Lib.hid (HC.out (by rw [HK2.out, decide_eq_true (show D * wv ≤ P * vv by omega), decide_eq_false (show ¬ D * vv ≤ P * wv by omega)]; rfl))
                    clear c1 c2 HK2 HC Hst HCe HYe
                    go_upto_region 19 with fail
                    refine wp_region_since (by kernel_rfl) (by kernel_rfl) ?_
                    repeat (go_big_quiet_step (fail))
                    refine wpQuiet_nil ?_
                    rintro _ ⟨z3, rfl⟩
                    go_wp2_with fail
                    go_ret
                    obtain ⟨q, hq⟩ := HUp.out z3
                    exact ⟨ret_bool HB.out.symm, hq ▸ HU2.out q⟩
                  · have hd2 : decide (P * wv < D * vv) = false := decide_eq_false c2
                    have HS2 := Lib.hid (Hst.out (by rw [HK2.out, decide_eq_true (show D * wv ≤ P * vv by omega), decide_eq_true (show D * vv ≤ P * wv by omega)]; rfl))
                    clear c1 c2 HK2 HC Hst HCe HYe
                    go_upto_region 19 with fail
                    refine wp_region_since (by kernel_rfl) (by kernel_rfl) ?_
                    repeat (go_big_quiet_step (fail))
                    refine wpQuiet_nil ?_
                    rintro _ ⟨z3, rfl⟩
                    obtain ⟨q, hq⟩ := HUp.out z3
                    rw [hq]
                    go_wp2_with fail
                    go_roundw
                    case rel => exact ⟨k + 1, q, by omega, by go_num, rfl, HS2.out⟩
                    case measure => simp [intOf] <;> omega
          · have hK3 : (3 : Int) < (K : Int) := by omega
            have HB := Lib.hid (HC.out (by rw [HD.out, HK.out, decide_eq_false hK]; rfl))
            clear HD HK HC Hst HCe HYe
            go_wp2_with fail
            go_ret
            obtain ⟨q, hq⟩ := HUp.out z1
            exact ⟨ret_bool HB.out.symm, hq ▸ HU2.out q⟩
      · obtain rfl : k = T.l.length := by omega
        have HB := Lib.hid (HYe.out Hn.out)
        clear HCe HYe
        go_wp2_with fail
        go_ret
        exact ⟨ret_bool HB.out.symm, HU2.out y⟩
  · have HB := Lib.hid (HN.out hok)
    have hdec : chE A T N ≠ 0 ∨ (chE A T N = 0 ∧ chE A U N ≠ 0) ∨ (chE A T N = 0 ∧ chE A U N = 0 ∧ num < 1) ∨ (chE A T N = 0 ∧ chE A U N = 0 ∧ 1 ≤ num ∧ 1024 < num) ∨ (chE A T N = 0 ∧ chE A U N = 0 ∧ 1 ≤ num ∧ num ≤ 1024 ∧ den < 1) ∨ (chE A T N = 0 ∧ chE A U N = 0 ∧ 1 ≤ num ∧ num ≤ 1024 ∧ 1 ≤ den ∧ num < den) := by unfold alOk at hok; omega
    clear HN HCell HYes hok
    generalize chE A T N = E1 at *
    generalize chE A U N = E2 at *
    rcases hdec with h1 | ⟨h1, h2⟩ | ⟨h1, h2, h3⟩ | ⟨h1, h2, h3, h4⟩ | ⟨h1, h2, h3, h4, h5⟩ | ⟨h1, h2, h3, h4, h5, h6⟩
    · have h1' := intrel_ne h1
      clear h1
      go_wp2_with fail
      go_ret
      exact ⟨ret_bool HB.out.symm, HU2.out (Since.self _)⟩
    · have h1' := intrel_eq h1
      have h2' := intrel_ne h2
      clear h1 h2
      go_wp2_with fail
      go_ret
      exact ⟨ret_bool HB.out.symm, HU2.out (Since.self _)⟩
    all_goals
      have h1' := intrel_eq h1
      have h2' := intrel_eq h2
      clear h1 h2
      go_wp2_with fail
      go_ret
      exact ⟨ret_bool HB.out.symm, HU2.out (Since.self _)⟩
end Go.Proofs.YtdkcclngionihaaDoor
/- Releases compared by the reference, walked. Written by mkr3.py. -/
namespace Go.Proofs.YtdkcclngionihaaDoor
open Go.RowKit

noncomputable def sameR (A B : Rel) : Bool := open Classical in if A = B then true else false
def RelLen (A : Rel) : Prop := A.cells.length ≤ 9223372036854775807 ∧ A.hid.length ≤ 9223372036854775807 ∧ A.rows.length ≤ 9223372036854775807 ∧ A.cols.length ≤ 9223372036854775807 ∧ A.ws.length ≤ 9223372036854775807
theorem same_no {A B : Rel} (h : ¬ A = B) : sameR A B = false := by unfold sameR; exact if_neg h
theorem same_yes {A B : Rel} (hf : A.f = B.f ∧ A.t = B.t ∧ A.each = B.each ∧ A.r = B.r ∧ A.c = B.c) (hh : A.hid = B.hid) (e1 : A.cells = B.cells) (e2 : A.rows = B.rows) (e3 : A.cols = B.cols) (e4 : A.ws = B.ws) : sameR A B = true := by
  obtain ⟨a1, a2, a3, a4, a5⟩ := hf
  cases A; cases B
  simp only at a1 a2 a3 a4 a5 hh e1 e2 e3 e4
  subst a1 a2 a3 a4 a5 hh e1 e2 e3 e4
  unfold sameR; exact if_pos rfl
set_option linter.unusedSimpArgs false in
set_option maxRecDepth 100000 in
set_option maxHeartbeats 16000000 in
theorem rsame_calls (w : World) (x : Since w) (A B : Rel) (a1 a2 a3 a4 a5 b1 b2 b3 b4 b5 : Option Addr) (ac1 ac2 ac3 ac4 ac5 bc1 bc2 bc3 bc4 bc5 : Nat) (ha1 : IntRow w a1 A.cells) (ha2 : BlRow w a2 A.hid) (ha3 : IntRow w a3 A.rows) (ha4 : IntRow w a4 A.cols) (ha5 : IntRow w a5 A.ws) (la : RelLen A) (hb1 : IntRow w b1 B.cells) (hb2 : BlRow w b2 B.hid) (hb3 : IntRow w b3 B.rows) (hb4 : IntRow w b4 B.cols) (hb5 : IntRow w b5 B.ws) (lb : RelLen B) :
    Calls Tryd.prog 14 #[.agg #[.int .i64 A.f, .int .i64 A.t, .int .i64 A.each, .int .i64 A.r, .int .i64 A.c, .slice a1 A.cells.length ac1, .slice a2 A.hid.length ac2, .slice a3 A.rows.length ac3, .slice a4 A.cols.length ac4, .slice a5 A.ws.length ac5], .agg #[.int .i64 B.f, .int .i64 B.t, .int .i64 B.each, .int .i64 B.r, .int .i64 B.c, .slice b1 B.cells.length bc1, .slice b2 B.hid.length bc2, .slice b3 B.rows.length bc3, .slice b4 B.cols.length bc4, .slice b5 B.ws.length bc5]] x.w fun o w' => o = .returned (.bool (sameR A B)) ∧ ∃ y : Since w, w' = y.w := by
  have HA2 := Lib.hid ha2; have HB2 := Lib.hid hb2
  have HlA := Lib.hid la; have HlB := Lib.hid lb
  have K0 := Lib.hid (fun (W : World) (y : Since W) h k => rints_calls W y a1 b1 A.cells B.cells ac1 bc1 la.1 lb.1 h k)
  have K1 := Lib.hid (fun (W : World) (y : Since W) h k => rints_calls W y a3 b3 A.rows B.rows ac3 bc3 la.2.2.1 lb.2.2.1 h k)
  have K2 := Lib.hid (fun (W : World) (y : Since W) h k => rints_calls W y a4 b4 A.cols B.cols ac4 bc4 la.2.2.2.1 lb.2.2.2.1 h k)
  have K3 := Lib.hid (fun (W : World) (y : Since W) h k => rints_calls W y a5 b5 A.ws B.ws ac5 bc5 la.2.2.2.2 lb.2.2.2.2 h k)
  have R0 := Lib.hid (And.intro (And.intro ha1 hb1) (And.intro (And.intro ha3 hb3) (And.intro (And.intro ha4 hb4) (And.intro ha5 hb5))))
  clear ha1 ha2 ha3 ha4 ha5 hb1 hb2 hb3 hb4 hb5 la lb
  go_enter Tryd.func14, Tryd.ntmps14
  go_upto_region 1 with fail
  have hb0_0 : ∀ y : Since ((x.w.alloc (.cells #[.int .i64 A.f, .int .i64 A.t, .int .i64 A.each, .int .i64 A.r, .int .i64 A.c, .slice a1 A.cells.length ac1, .slice a2 A.hid.length ac2, .slice a3 A.rows.length ac3, .slice a4 A.cols.length ac4, .slice a5 A.ws.length ac5] 36)).alloc (.cells #[.int .i64 B.f, .int .i64 B.t, .int .i64 B.each, .int .i64 B.r, .int .i64 B.c, .slice b1 B.cells.length bc1, .slice b2 B.hid.length bc2, .slice b3 B.rows.length bc3, .slice b4 B.cols.length bc4, .slice b5 B.ws.length bc5] 36)), y.w.cell? ⟨x.w.heap.size, 0, none⟩ = some (.int .i64 A.f) := fun y => Since.cell (by simp [go_sem]) (by first | (simp; done) | (simp; omega)) y
  have hb0_1 : ∀ y : Since ((x.w.alloc (.cells #[.int .i64 A.f, .int .i64 A.t, .int .i64 A.each, .int .i64 A.r, .int .i64 A.c, .slice a1 A.cells.length ac1, .slice a2 A.hid.length ac2, .slice a3 A.rows.length ac3, .slice a4 A.cols.length ac4, .slice a5 A.ws.length ac5] 36)).alloc (.cells #[.int .i64 B.f, .int .i64 B.t, .int .i64 B.each, .int .i64 B.r, .int .i64 B.c, .slice b1 B.cells.length bc1, .slice b2 B.hid.length bc2, .slice b3 B.rows.length bc3, .slice b4 B.cols.length bc4, .slice b5 B.ws.length bc5] 36)), y.w.cell? ⟨x.w.heap.size, 1, none⟩ = some (.int .i64 A.t) := fun y => Since.cell (by simp [go_sem]) (by first | (simp; done) | (simp; omega)) y
  have hb0_2 : ∀ y : Since ((x.w.alloc (.cells #[.int .i64 A.f, .int .i64 A.t, .int .i64 A.each, .int .i64 A.r, .int .i64 A.c, .slice a1 A.cells.length ac1, .slice a2 A.hid.length ac2, .slice a3 A.rows.length ac3, .slice a4 A.cols.length ac4, .slice a5 A.ws.length ac5] 36)).alloc (.cells #[.int .i64 B.f, .int .i64 B.t, .int .i64 B.each, .int .i64 B.r, .int .i64 B.c, .slice b1 B.cells.length bc1, .slice b2 B.hid.length bc2, .slice b3 B.rows.length bc3, .slice b4 B.cols.length bc4, .slice b5 B.ws.length bc5] 36)), y.w.cell? ⟨x.w.heap.size, 2, none⟩ = some (.int .i64 A.each) := fun y => Since.cell (by simp [go_sem]) (by first | (simp; done) | (simp; omega)) y
  have hb0_3 : ∀ y : Since ((x.w.alloc (.cells #[.int .i64 A.f, .int .i64 A.t, .int .i64 A.each, .int .i64 A.r, .int .i64 A.c, .slice a1 A.cells.length ac1, .slice a2 A.hid.length ac2, .slice a3 A.rows.length ac3, .slice a4 A.cols.length ac4, .slice a5 A.ws.length ac5] 36)).alloc (.cells #[.int .i64 B.f, .int .i64 B.t, .int .i64 B.each, .int .i64 B.r, .int .i64 B.c, .slice b1 B.cells.length bc1, .slice b2 B.hid.length bc2, .slice b3 B.rows.length bc3, .slice b4 B.cols.length bc4, .slice b5 B.ws.length bc5] 36)), y.w.cell? ⟨x.w.heap.size, 3, none⟩ = some (.int .i64 A.r) := fun y => Since.cell (by simp [go_sem]) (by first | (simp; done) | (simp; omega)) y
  have hb0_4 : ∀ y : Since ((x.w.alloc (.cells #[.int .i64 A.f, .int .i64 A.t, .int .i64 A.each, .int .i64 A.r, .int .i64 A.c, .slice a1 A.cells.length ac1, .slice a2 A.hid.length ac2, .slice a3 A.rows.length ac3, .slice a4 A.cols.length ac4, .slice a5 A.ws.length ac5] 36)).alloc (.cells #[.int .i64 B.f, .int .i64 B.t, .int .i64 B.each, .int .i64 B.r, .int .i64 B.c, .slice b1 B.cells.length bc1, .slice b2 B.hid.length bc2, .slice b3 B.rows.length bc3, .slice b4 B.cols.length bc4, .slice b5 B.ws.length bc5] 36)), y.w.cell? ⟨x.w.heap.size, 4, none⟩ = some (.int .i64 A.c) := fun y => Since.cell (by simp [go_sem]) (by first | (simp; done) | (simp; omega)) y
  have hb0_5 : ∀ y : Since ((x.w.alloc (.cells #[.int .i64 A.f, .int .i64 A.t, .int .i64 A.each, .int .i64 A.r, .int .i64 A.c, .slice a1 A.cells.length ac1, .slice a2 A.hid.length ac2, .slice a3 A.rows.length ac3, .slice a4 A.cols.length ac4, .slice a5 A.ws.length ac5] 36)).alloc (.cells #[.int .i64 B.f, .int .i64 B.t, .int .i64 B.each, .int .i64 B.r, .int .i64 B.c, .slice b1 B.cells.length bc1, .slice b2 B.hid.length bc2, .slice b3 B.rows.length bc3, .slice b4 B.cols.length bc4, .slice b5 B.ws.length bc5] 36)), y.w.cell? ⟨x.w.heap.size, 5, none⟩ = some (.slice a1 A.cells.length ac1) := fun y => Since.cell (by simp [go_sem]) (by first | (simp; done) | (simp; omega)) y
  have hb0_6 : ∀ y : Since ((x.w.alloc (.cells #[.int .i64 A.f, .int .i64 A.t, .int .i64 A.each, .int .i64 A.r, .int .i64 A.c, .slice a1 A.cells.length ac1, .slice a2 A.hid.length ac2, .slice a3 A.rows.length ac3, .slice a4 A.cols.length ac4, .slice a5 A.ws.length ac5] 36)).alloc (.cells #[.int .i64 B.f, .int .i64 B.t, .int .i64 B.each, .int .i64 B.r, .int .i64 B.c, .slice b1 B.cells.length bc1, .slice b2 B.hid.length bc2, .slice b3 B.rows.length bc3, .slice b4 B.cols.length bc4, .slice b5 B.ws.length bc5] 36)), y.w.cell? ⟨x.w.heap.size, 6, none⟩ = some (.slice a2 A.hid.length ac2) := fun y => Since.cell (by simp [go_sem]) (by first | (simp; done) | (simp; omega)) y
  have hb0_7 : ∀ y : Since ((x.w.alloc (.cells #[.int .i64 A.f, .int .i64 A.t, .int .i64 A.each, .int .i64 A.r, .int .i64 A.c, .slice a1 A.cells.length ac1, .slice a2 A.hid.length ac2, .slice a3 A.rows.length ac3, .slice a4 A.cols.length ac4, .slice a5 A.ws.length ac5] 36)).alloc (.cells #[.int .i64 B.f, .int .i64 B.t, .int .i64 B.each, .int .i64 B.r, .int .i64 B.c, .slice b1 B.cells.length bc1, .slice b2 B.hid.length bc2, .slice b3 B.rows.length bc3, .slice b4 B.cols.length bc4, .slice b5 B.ws.length bc5] 36)), y.w.cell? ⟨x.w.heap.size, 7, none⟩ = some (.slice a3 A.rows.length ac3) := fun y => Since.cell (by simp [go_sem]) (by first | (simp; done) | (simp; omega)) y
  have hb0_8 : ∀ y : Since ((x.w.alloc (.cells #[.int .i64 A.f, .int .i64 A.t, .int .i64 A.each, .int .i64 A.r, .int .i64 A.c, .slice a1 A.cells.length ac1, .slice a2 A.hid.length ac2, .slice a3 A.rows.length ac3, .slice a4 A.cols.length ac4, .slice a5 A.ws.length ac5] 36)).alloc (.cells #[.int .i64 B.f, .int .i64 B.t, .int .i64 B.each, .int .i64 B.r, .int .i64 B.c, .slice b1 B.cells.length bc1, .slice b2 B.hid.length bc2, .slice b3 B.rows.length bc3, .slice b4 B.cols.length bc4, .slice b5 B.ws.length bc5] 36)), y.w.cell? ⟨x.w.heap.size, 8, none⟩ = some (.slice a4 A.cols.length ac4) := fun y => Since.cell (by simp [go_sem]) (by first | (simp; done) | (simp; omega)) y
  have hb0_9 : ∀ y : Since ((x.w.alloc (.cells #[.int .i64 A.f, .int .i64 A.t, .int .i64 A.each, .int .i64 A.r, .int .i64 A.c, .slice a1 A.cells.length ac1, .slice a2 A.hid.length ac2, .slice a3 A.rows.length ac3, .slice a4 A.cols.length ac4, .slice a5 A.ws.length ac5] 36)).alloc (.cells #[.int .i64 B.f, .int .i64 B.t, .int .i64 B.each, .int .i64 B.r, .int .i64 B.c, .slice b1 B.cells.length bc1, .slice b2 B.hid.length bc2, .slice b3 B.rows.length bc3, .slice b4 B.cols.length bc4, .slice b5 B.ws.length bc5] 36)), y.w.cell? ⟨x.w.heap.size, 9, none⟩ = some (.slice a5 A.ws.length ac5) := fun y => Since.cell (by simp [go_sem]) (by first | (simp; done) | (simp; omega)) y
  have hf0 : ∀ (y : Since ((x.w.alloc (.cells #[.int .i64 A.f, .int .i64 A.t, .int .i64 A.each, .int .i64 A.r, .int .i64 A.c, .slice a1 A.cells.length ac1, .slice a2 A.hid.length ac2, .slice a3 A.rows.length ac3, .slice a4 A.cols.length ac4, .slice a5 A.ws.length ac5] 36)).alloc (.cells #[.int .i64 B.f, .int .i64 B.t, .int .i64 B.each, .int .i64 B.r, .int .i64 B.c, .slice b1 B.cells.length bc1, .slice b2 B.hid.length bc2, .slice b3 B.rows.length bc3, .slice b4 B.cols.length bc4, .slice b5 B.ws.length bc5] 36))) (o : Nat), y.w.frozen? ⟨x.w.heap.size, o, none⟩ = false := fun y o => Since.free (by simp [go_sem]) (by first | (simp; done) | (simp; omega)) y
  have hb1_0 : ∀ y : Since ((x.w.alloc (.cells #[.int .i64 A.f, .int .i64 A.t, .int .i64 A.each, .int .i64 A.r, .int .i64 A.c, .slice a1 A.cells.length ac1, .slice a2 A.hid.length ac2, .slice a3 A.rows.length ac3, .slice a4 A.cols.length ac4, .slice a5 A.ws.length ac5] 36)).alloc (.cells #[.int .i64 B.f, .int .i64 B.t, .int .i64 B.each, .int .i64 B.r, .int .i64 B.c, .slice b1 B.cells.length bc1, .slice b2 B.hid.length bc2, .slice b3 B.rows.length bc3, .slice b4 B.cols.length bc4, .slice b5 B.ws.length bc5] 36)), y.w.cell? ⟨x.w.heap.size + 1, 0, none⟩ = some (.int .i64 B.f) := fun y => Since.cell (by simp [go_sem]) (by first | (simp; done) | (simp; omega)) y
  have hb1_1 : ∀ y : Since ((x.w.alloc (.cells #[.int .i64 A.f, .int .i64 A.t, .int .i64 A.each, .int .i64 A.r, .int .i64 A.c, .slice a1 A.cells.length ac1, .slice a2 A.hid.length ac2, .slice a3 A.rows.length ac3, .slice a4 A.cols.length ac4, .slice a5 A.ws.length ac5] 36)).alloc (.cells #[.int .i64 B.f, .int .i64 B.t, .int .i64 B.each, .int .i64 B.r, .int .i64 B.c, .slice b1 B.cells.length bc1, .slice b2 B.hid.length bc2, .slice b3 B.rows.length bc3, .slice b4 B.cols.length bc4, .slice b5 B.ws.length bc5] 36)), y.w.cell? ⟨x.w.heap.size + 1, 1, none⟩ = some (.int .i64 B.t) := fun y => Since.cell (by simp [go_sem]) (by first | (simp; done) | (simp; omega)) y
  have hb1_2 : ∀ y : Since ((x.w.alloc (.cells #[.int .i64 A.f, .int .i64 A.t, .int .i64 A.each, .int .i64 A.r, .int .i64 A.c, .slice a1 A.cells.length ac1, .slice a2 A.hid.length ac2, .slice a3 A.rows.length ac3, .slice a4 A.cols.length ac4, .slice a5 A.ws.length ac5] 36)).alloc (.cells #[.int .i64 B.f, .int .i64 B.t, .int .i64 B.each, .int .i64 B.r, .int .i64 B.c, .slice b1 B.cells.length bc1, .slice b2 B.hid.length bc2, .slice b3 B.rows.length bc3, .slice b4 B.cols.length bc4, .slice b5 B.ws.length bc5] 36)), y.w.cell? ⟨x.w.heap.size + 1, 2, none⟩ = some (.int .i64 B.each) := fun y => Since.cell (by simp [go_sem]) (by first | (simp; done) | (simp; omega)) y
  have hb1_3 : ∀ y : Since ((x.w.alloc (.cells #[.int .i64 A.f, .int .i64 A.t, .int .i64 A.each, .int .i64 A.r, .int .i64 A.c, .slice a1 A.cells.length ac1, .slice a2 A.hid.length ac2, .slice a3 A.rows.length ac3, .slice a4 A.cols.length ac4, .slice a5 A.ws.length ac5] 36)).alloc (.cells #[.int .i64 B.f, .int .i64 B.t, .int .i64 B.each, .int .i64 B.r, .int .i64 B.c, .slice b1 B.cells.length bc1, .slice b2 B.hid.length bc2, .slice b3 B.rows.length bc3, .slice b4 B.cols.length bc4, .slice b5 B.ws.length bc5] 36)), y.w.cell? ⟨x.w.heap.size + 1, 3, none⟩ = some (.int .i64 B.r) := fun y => Since.cell (by simp [go_sem]) (by first | (simp; done) | (simp; omega)) y
  have hb1_4 : ∀ y : Since ((x.w.alloc (.cells #[.int .i64 A.f, .int .i64 A.t, .int .i64 A.each, .int .i64 A.r, .int .i64 A.c, .slice a1 A.cells.length ac1, .slice a2 A.hid.length ac2, .slice a3 A.rows.length ac3, .slice a4 A.cols.length ac4, .slice a5 A.ws.length ac5] 36)).alloc (.cells #[.int .i64 B.f, .int .i64 B.t, .int .i64 B.each, .int .i64 B.r, .int .i64 B.c, .slice b1 B.cells.length bc1, .slice b2 B.hid.length bc2, .slice b3 B.rows.length bc3, .slice b4 B.cols.length bc4, .slice b5 B.ws.length bc5] 36)), y.w.cell? ⟨x.w.heap.size + 1, 4, none⟩ = some (.int .i64 B.c) := fun y => Since.cell (by simp [go_sem]) (by first | (simp; done) | (simp; omega)) y
  have hb1_5 : ∀ y : Since ((x.w.alloc (.cells #[.int .i64 A.f, .int .i64 A.t, .int .i64 A.each, .int .i64 A.r, .int .i64 A.c, .slice a1 A.cells.length ac1, .slice a2 A.hid.length ac2, .slice a3 A.rows.length ac3, .slice a4 A.cols.length ac4, .slice a5 A.ws.length ac5] 36)).alloc (.cells #[.int .i64 B.f, .int .i64 B.t, .int .i64 B.each, .int .i64 B.r, .int .i64 B.c, .slice b1 B.cells.length bc1, .slice b2 B.hid.length bc2, .slice b3 B.rows.length bc3, .slice b4 B.cols.length bc4, .slice b5 B.ws.length bc5] 36)), y.w.cell? ⟨x.w.heap.size + 1, 5, none⟩ = some (.slice b1 B.cells.length bc1) := fun y => Since.cell (by simp [go_sem]) (by first | (simp; done) | (simp; omega)) y
  have hb1_6 : ∀ y : Since ((x.w.alloc (.cells #[.int .i64 A.f, .int .i64 A.t, .int .i64 A.each, .int .i64 A.r, .int .i64 A.c, .slice a1 A.cells.length ac1, .slice a2 A.hid.length ac2, .slice a3 A.rows.length ac3, .slice a4 A.cols.length ac4, .slice a5 A.ws.length ac5] 36)).alloc (.cells #[.int .i64 B.f, .int .i64 B.t, .int .i64 B.each, .int .i64 B.r, .int .i64 B.c, .slice b1 B.cells.length bc1, .slice b2 B.hid.length bc2, .slice b3 B.rows.length bc3, .slice b4 B.cols.length bc4, .slice b5 B.ws.length bc5] 36)), y.w.cell? ⟨x.w.heap.size + 1, 6, none⟩ = some (.slice b2 B.hid.length bc2) := fun y => Since.cell (by simp [go_sem]) (by first | (simp; done) | (simp; omega)) y
  have hb1_7 : ∀ y : Since ((x.w.alloc (.cells #[.int .i64 A.f, .int .i64 A.t, .int .i64 A.each, .int .i64 A.r, .int .i64 A.c, .slice a1 A.cells.length ac1, .slice a2 A.hid.length ac2, .slice a3 A.rows.length ac3, .slice a4 A.cols.length ac4, .slice a5 A.ws.length ac5] 36)).alloc (.cells #[.int .i64 B.f, .int .i64 B.t, .int .i64 B.each, .int .i64 B.r, .int .i64 B.c, .slice b1 B.cells.length bc1, .slice b2 B.hid.length bc2, .slice b3 B.rows.length bc3, .slice b4 B.cols.length bc4, .slice b5 B.ws.length bc5] 36)), y.w.cell? ⟨x.w.heap.size + 1, 7, none⟩ = some (.slice b3 B.rows.length bc3) := fun y => Since.cell (by simp [go_sem]) (by first | (simp; done) | (simp; omega)) y
  have hb1_8 : ∀ y : Since ((x.w.alloc (.cells #[.int .i64 A.f, .int .i64 A.t, .int .i64 A.each, .int .i64 A.r, .int .i64 A.c, .slice a1 A.cells.length ac1, .slice a2 A.hid.length ac2, .slice a3 A.rows.length ac3, .slice a4 A.cols.length ac4, .slice a5 A.ws.length ac5] 36)).alloc (.cells #[.int .i64 B.f, .int .i64 B.t, .int .i64 B.each, .int .i64 B.r, .int .i64 B.c, .slice b1 B.cells.length bc1, .slice b2 B.hid.length bc2, .slice b3 B.rows.length bc3, .slice b4 B.cols.length bc4, .slice b5 B.ws.length bc5] 36)), y.w.cell? ⟨x.w.heap.size + 1, 8, none⟩ = some (.slice b4 B.cols.length bc4) := fun y => Since.cell (by simp [go_sem]) (by first | (simp; done) | (simp; omega)) y
  have hb1_9 : ∀ y : Since ((x.w.alloc (.cells #[.int .i64 A.f, .int .i64 A.t, .int .i64 A.each, .int .i64 A.r, .int .i64 A.c, .slice a1 A.cells.length ac1, .slice a2 A.hid.length ac2, .slice a3 A.rows.length ac3, .slice a4 A.cols.length ac4, .slice a5 A.ws.length ac5] 36)).alloc (.cells #[.int .i64 B.f, .int .i64 B.t, .int .i64 B.each, .int .i64 B.r, .int .i64 B.c, .slice b1 B.cells.length bc1, .slice b2 B.hid.length bc2, .slice b3 B.rows.length bc3, .slice b4 B.cols.length bc4, .slice b5 B.ws.length bc5] 36)), y.w.cell? ⟨x.w.heap.size + 1, 9, none⟩ = some (.slice b5 B.ws.length bc5) := fun y => Since.cell (by simp [go_sem]) (by first | (simp; done) | (simp; omega)) y
  have hf1 : ∀ (y : Since ((x.w.alloc (.cells #[.int .i64 A.f, .int .i64 A.t, .int .i64 A.each, .int .i64 A.r, .int .i64 A.c, .slice a1 A.cells.length ac1, .slice a2 A.hid.length ac2, .slice a3 A.rows.length ac3, .slice a4 A.cols.length ac4, .slice a5 A.ws.length ac5] 36)).alloc (.cells #[.int .i64 B.f, .int .i64 B.t, .int .i64 B.each, .int .i64 B.r, .int .i64 B.c, .slice b1 B.cells.length bc1, .slice b2 B.hid.length bc2, .slice b3 B.rows.length bc3, .slice b4 B.cols.length bc4, .slice b5 B.ws.length bc5] 36))) (o : Nat), y.w.frozen? ⟨x.w.heap.size + 1, o, none⟩ = false := fun y o => Since.free (by simp [go_sem]) (by first | (simp; done) | (simp; omega)) y
  have hWup : ∃ z : Since w, ((x.w.alloc (.cells #[.int .i64 A.f, .int .i64 A.t, .int .i64 A.each, .int .i64 A.r, .int .i64 A.c, .slice a1 A.cells.length ac1, .slice a2 A.hid.length ac2, .slice a3 A.rows.length ac3, .slice a4 A.cols.length ac4, .slice a5 A.ws.length ac5] 36)).alloc (.cells #[.int .i64 B.f, .int .i64 B.t, .int .i64 B.each, .int .i64 B.r, .int .i64 B.c, .slice b1 B.cells.length bc1, .slice b2 B.hid.length bc2, .slice b3 B.rows.length bc3, .slice b4 B.cols.length bc4, .slice b5 B.ws.length bc5] 36)) = z.w := Since.allocs x [.cells #[.int .i64 A.f, .int .i64 A.t, .int .i64 A.each, .int .i64 A.r, .int .i64 A.c, .slice a1 A.cells.length ac1, .slice a2 A.hid.length ac2, .slice a3 A.rows.length ac3, .slice a4 A.cols.length ac4, .slice a5 A.ws.length ac5] 36, .cells #[.int .i64 B.f, .int .i64 B.t, .int .i64 B.each, .int .i64 B.r, .int .i64 B.c, .slice b1 B.cells.length bc1, .slice b2 B.hid.length bc2, .slice b3 B.rows.length bc3, .slice b4 B.cols.length bc4, .slice b5 B.ws.length bc5] 36]
  obtain ⟨y0, hy0⟩ := Since.refl ((x.w.alloc (.cells #[.int .i64 A.f, .int .i64 A.t, .int .i64 A.each, .int .i64 A.r, .int .i64 A.c, .slice a1 A.cells.length ac1, .slice a2 A.hid.length ac2, .slice a3 A.rows.length ac3, .slice a4 A.cols.length ac4, .slice a5 A.ws.length ac5] 36)).alloc (.cells #[.int .i64 B.f, .int .i64 B.t, .int .i64 B.each, .int .i64 B.r, .int .i64 B.c, .slice b1 B.cells.length bc1, .slice b2 B.hid.length bc2, .slice b3 B.rows.length bc3, .slice b4 B.cols.length bc4, .slice b5 B.ws.length bc5] 36))
  have Hbx := Lib.hid (And.intro x.b.size (show x.w.heap.size + 2 = ((x.w.alloc (.cells #[.int .i64 A.f, .int .i64 A.t, .int .i64 A.each, .int .i64 A.r, .int .i64 A.c, .slice a1 A.cells.length ac1, .slice a2 A.hid.length ac2, .slice a3 A.rows.length ac3, .slice a4 A.cols.length ac4, .slice a5 A.ws.length ac5] 36)).alloc (.cells #[.int .i64 B.f, .int .i64 B.t, .int .i64 B.each, .int .i64 B.r, .int .i64 B.c, .slice b1 B.cells.length bc1, .slice b2 B.hid.length bc2, .slice b3 B.rows.length bc3, .slice b4 B.cols.length bc4, .slice b5 B.ws.length bc5] 36)).heap.size from by simp))
  generalize hW : ((x.w.alloc (.cells #[.int .i64 A.f, .int .i64 A.t, .int .i64 A.each, .int .i64 A.r, .int .i64 A.c, .slice a1 A.cells.length ac1, .slice a2 A.hid.length ac2, .slice a3 A.rows.length ac3, .slice a4 A.cols.length ac4, .slice a5 A.ws.length ac5] 36)).alloc (.cells #[.int .i64 B.f, .int .i64 B.t, .int .i64 B.each, .int .i64 B.r, .int .i64 B.c, .slice b1 B.cells.length bc1, .slice b2 B.hid.length bc2, .slice b3 B.rows.length bc3, .slice b4 B.cols.length bc4, .slice b5 B.ws.length bc5] 36)) = W at *
  clear hW
  generalize x.w.heap.size = bx at *
  have Hup := Lib.hid (Since.up hWup)
  rw [hy0]
  clear hy0
  replace HA2 := Lib.hid (HA2.out.to hWup)
  replace HB2 := Lib.hid (HB2.out.to hWup)
  have HC0 := Lib.hid (fun z : Since W => K0.out W z (R0.out.1.1.to hWup) (R0.out.1.2.to hWup))
  have HC1 := Lib.hid (fun z : Since W => K1.out W z (R0.out.2.1.1.to hWup) (R0.out.2.1.2.to hWup))
  have HC2 := Lib.hid (fun z : Since W => K2.out W z (R0.out.2.2.1.1.to hWup) (R0.out.2.2.1.2.to hWup))
  have HC3 := Lib.hid (fun z : Since W => K3.out W z (R0.out.2.2.2.1.to hWup) (R0.out.2.2.2.2.to hWup))
  clear hWup hf0 hf1 K0 K1 K2 K3 R0
  by_cases hall : A.f = B.f ∧ A.t = B.t ∧ A.each = B.each ∧ A.r = B.r ∧ A.c = B.c ∧ A.hid.length = B.hid.length
  · have Hf := Lib.hid (show A.f = B.f ∧ A.t = B.t ∧ A.each = B.each ∧ A.r = B.r ∧ A.c = B.c from ⟨hall.1, hall.2.1, hall.2.2.1, hall.2.2.2.1, hall.2.2.2.2.1⟩)
    have Hln := Lib.hid hall.2.2.2.2.2
    have n0 := hall.1
    have n1 := hall.2.1
    have n2 := intrel_eq hall.2.2.1
    have n3 := intrel_eq hall.2.2.2.1
    have n4 := intrel_eq hall.2.2.2.2.1
    have n5 : ((A.hid.length : Int) != (B.hid.length : Int)) = false := intrel_eq (by rw [hall.2.2.2.2.2])
    clear hall
    go_upto_region 4 with fail
    go_loopw [5] (fun si wr => ∃ (k : Nat) (y : Since W), k ≤ A.hid.length ∧ si = .int .i64 (k : Int) ∧ wr = y.w ∧ ∀ j, j < k → bo A.hid j = bo B.hid j) (fun si _ => A.hid.length - (intOf si).toNat)
    case atStart => exact ⟨0, y0, by omega, rfl, rfl, fun j hj => by omega⟩
    case round =>
      obtain ⟨k, y, hk, rfl, rfl, hn⟩ := hrel
      have Hn := Lib.hid hn
      clear hn
      by_cases hlt : k < A.hid.length
      · have hk0 : (0 : Int) ≤ (k : Int) := by omega
        have hle : A.hid.length ≤ 9223372036854775807 := HlA.out.2.1
        have hkl : (k : Int) < (A.hid.length : Int) := by omega
        have hkb : (k : Int) < (B.hid.length : Int) := by have := Hln.out; omega
        obtain ⟨c1, o1, h1, hb1, hc1⟩ := HA2.out k hlt
        have f0 : ∀ q : Since W, q.w.cell? ⟨c1, o1 + k, none⟩ = some (.bool (bo A.hid k)) := fun q => Since.cell hc1 hb1 q
        obtain ⟨c2, o2, h2, hb2, hc2⟩ := HB2.out k (by have := Hln.out; omega)
        have f1 : ∀ q : Since W, q.w.cell? ⟨c2, o2 + k, none⟩ = some (.bool (bo B.hid k)) := fun q => Since.cell hc2 hb2 q
        subst h1
        subst h2
        clear hb1 hc1 hb2 hc2
        by_cases he : bo A.hid k = bo B.hid k
        · have HS := Lib.hid (fun q (hq : q < k + 1) => show bo A.hid q = bo B.hid q from by
            by_cases e : q = k
            · rw [e]; exact he
            · exact Hn.out q (by omega))
          clear HC0 HC1 HC2 HC3
          rw [he] at f0
          clear he
          generalize bo B.hid k = bb at *
          go_upto_region 6 with fail
          refine wp_region_since (by kernel_rfl) (by kernel_rfl) ?_
          repeat (go_big_quiet_step (fail))
          refine wpQuiet_nil ?_
          rintro _ ⟨z, rfl⟩
          cases bb
          all_goals
            go_wp2_with fail
            go_roundw
            case rel => exact ⟨k + 1, z, by omega, by go_num, rfl, HS.out⟩
            case measure => simp [intOf] <;> omega
        · have HB := Lib.hid (show sameR A B = false from same_no fun h => he (by rw [h]))
          have hx : (bo A.hid k = true ∧ bo B.hid k = false) ∨ (bo A.hid k = false ∧ bo B.hid k = true) := by cases h1 : bo A.hid k <;> cases h2 : bo B.hid k <;> simp [h1, h2] at he ⊢
          clear HC0 HC1 HC2 HC3 he
          rcases hx with ⟨x1, x2⟩ | ⟨x1, x2⟩
          all_goals
            rw [x1] at f0
            rw [x2] at f1
            go_upto_region 6 with fail
            refine wp_region_since (by kernel_rfl) (by kernel_rfl) ?_
            repeat (go_big_quiet_step (fail))
            refine wpQuiet_nil ?_
            rintro _ ⟨z, rfl⟩
            go_wp2_with fail
            go_ret
            exact ⟨ret_bool HB.out.symm, Hup.out z⟩
      · obtain rfl : k = A.hid.length := by omega
        have HhE := Lib.hid (show A.hid = B.hid from bo_ext Hln.out Hn.out)
        clear Hn HA2 HB2
        by_cases e1 : A.cells = B.cells
        · have d0 : decide (A.cells = B.cells) = true := decide_eq_true e1
          have E1 := Lib.hid e1
          clear e1
          by_cases e2 : A.rows = B.rows
          · have d1 : decide (A.rows = B.rows) = true := decide_eq_true e2
            have E2 := Lib.hid e2
            clear e2
            by_cases e3 : A.cols = B.cols
            · have d2 : decide (A.cols = B.cols) = true := decide_eq_true e3
              have E3 := Lib.hid e3
              clear e3
              by_cases e4 : A.ws = B.ws
              · have d3 : decide (A.ws = B.ws) = true := decide_eq_true e4
                have E4 := Lib.hid e4
                clear e4
                have HB := Lib.hid (show sameR A B = true from same_yes Hf.out HhE.out E1.out E2.out E3.out E4.out)
                go_wp2_with (go_at_call 18; (first | ((with_reducible refine (HC0.out _).mono ?_); rintro _ _ ⟨rfl, z, rfl⟩) | ((with_reducible refine (HC1.out _).mono ?_); rintro _ _ ⟨rfl, z, rfl⟩) | ((with_reducible refine (HC2.out _).mono ?_); rintro _ _ ⟨rfl, z, rfl⟩) | ((with_reducible refine (HC3.out _).mono ?_); rintro _ _ ⟨rfl, z, rfl⟩)))
                go_ret
                exact ⟨ret_bool HB.out.symm, Hup.out _⟩
              · have d3 : decide (A.ws = B.ws) = false := decide_eq_false e4
                have HB := Lib.hid (show sameR A B = false from same_no fun h => e4 (by rw [h]))
                go_wp2_with (go_at_call 18; (first | ((with_reducible refine (HC0.out _).mono ?_); rintro _ _ ⟨rfl, z, rfl⟩) | ((with_reducible refine (HC1.out _).mono ?_); rintro _ _ ⟨rfl, z, rfl⟩) | ((with_reducible refine (HC2.out _).mono ?_); rintro _ _ ⟨rfl, z, rfl⟩) | ((with_reducible refine (HC3.out _).mono ?_); rintro _ _ ⟨rfl, z, rfl⟩)))
                go_ret
                exact ⟨ret_bool HB.out.symm, Hup.out _⟩
            · have d2 : decide (A.cols = B.cols) = false := decide_eq_false e3
              have HB := Lib.hid (show sameR A B = false from same_no fun h => e3 (by rw [h]))
              go_wp2_with (go_at_call 18; (first | ((with_reducible refine (HC0.out _).mono ?_); rintro _ _ ⟨rfl, z, rfl⟩) | ((with_reducible refine (HC1.out _).mono ?_); rintro _ _ ⟨rfl, z, rfl⟩) | ((with_reducible refine (HC2.out _).mono ?_); rintro _ _ ⟨rfl, z, rfl⟩) | ((with_reducible refine (HC3.out _).mono ?_); rintro _ _ ⟨rfl, z, rfl⟩)))
              go_ret
              exact ⟨ret_bool HB.out.symm, Hup.out _⟩
          · have d1 : decide (A.rows = B.rows) = false := decide_eq_false e2
            have HB := Lib.hid (show sameR A B = false from same_no fun h => e2 (by rw [h]))
            go_wp2_with (go_at_call 18; (first | ((with_reducible refine (HC0.out _).mono ?_); rintro _ _ ⟨rfl, z, rfl⟩) | ((with_reducible refine (HC1.out _).mono ?_); rintro _ _ ⟨rfl, z, rfl⟩) | ((with_reducible refine (HC2.out _).mono ?_); rintro _ _ ⟨rfl, z, rfl⟩) | ((with_reducible refine (HC3.out _).mono ?_); rintro _ _ ⟨rfl, z, rfl⟩)))
            go_ret
            exact ⟨ret_bool HB.out.symm, Hup.out _⟩
        · have d0 : decide (A.cells = B.cells) = false := decide_eq_false e1
          have HB := Lib.hid (show sameR A B = false from same_no fun h => e1 (by rw [h]))
          go_wp2_with (go_at_call 18; (first | ((with_reducible refine (HC0.out _).mono ?_); rintro _ _ ⟨rfl, z, rfl⟩) | ((with_reducible refine (HC1.out _).mono ?_); rintro _ _ ⟨rfl, z, rfl⟩) | ((with_reducible refine (HC2.out _).mono ?_); rintro _ _ ⟨rfl, z, rfl⟩) | ((with_reducible refine (HC3.out _).mono ?_); rintro _ _ ⟨rfl, z, rfl⟩)))
          go_ret
          exact ⟨ret_bool HB.out.symm, Hup.out _⟩
  · have HB := Lib.hid (show sameR A B = false from same_no fun h => hall (by rw [h]; exact ⟨rfl, rfl, rfl, rfl, rfl, rfl⟩))
    have hx : A.f ≠ B.f ∨ (A.f = B.f ∧ A.t ≠ B.t) ∨ (A.f = B.f ∧ A.t = B.t ∧ A.each ≠ B.each) ∨ (A.f = B.f ∧ A.t = B.t ∧ A.each = B.each ∧ A.r ≠ B.r) ∨ (A.f = B.f ∧ A.t = B.t ∧ A.each = B.each ∧ A.r = B.r ∧ A.c ≠ B.c) ∨ (A.f = B.f ∧ A.t = B.t ∧ A.each = B.each ∧ A.r = B.r ∧ A.c = B.c ∧ A.hid.length ≠ B.hid.length) := by omega
    clear hall HC0 HC1 HC2 HC3
    rcases hx with h1 | ⟨h1, h2⟩ | ⟨h1, h2, h3⟩ | ⟨h1, h2, h3, h4⟩ | ⟨h1, h2, h3, h4, h5⟩ | ⟨h1, h2, h3, h4, h5, h6⟩
    · have m1 := intrel_ne h1
      go_wp2_with fail
      go_ret
      exact ⟨ret_bool HB.out.symm, Hup.out y0⟩
    · have m1 := intrel_ne h2
      go_wp2_with fail
      go_ret
      exact ⟨ret_bool HB.out.symm, Hup.out y0⟩
    · have m1 := intrel_ne h3
      go_wp2_with fail
      go_ret
      exact ⟨ret_bool HB.out.symm, Hup.out y0⟩
    · have m0 := intrel_eq h3
      have m1 := intrel_ne h4
      go_wp2_with fail
      go_ret
      exact ⟨ret_bool HB.out.symm, Hup.out y0⟩
    · have m0 := intrel_eq h3
      have m2 := intrel_eq h4
      have m1 := intrel_ne h5
      go_wp2_with fail
      go_ret
      exact ⟨ret_bool HB.out.symm, Hup.out y0⟩
    · have m0 := intrel_eq h3
      have m2 := intrel_eq h4
      have m3 := intrel_eq h5
      have m1 : ((A.hid.length : Int) != (B.hid.length : Int)) = true := intrel_ne (by omega)
      go_wp2_with fail
      go_ret
      exact ⟨ret_bool HB.out.symm, Hup.out y0⟩
end Go.Proofs.YtdkcclngionihaaDoor
/- The laws of releases: zones, four. -/
namespace Go.Proofs.YtdkcclngionihaaDoor
open Go.RowKit

def RideRes (w : World) (L : List Ride) (o : Ending) (w' : World) : Prop := ∃ (a : Option Addr) (c : Nat) (R : List Ride) (y : Since w), o = .returned (.slice a R.length c) ∧ w' = y.w ∧ RideRow y.w a R ∧ R.map Ride.bare = L ∧ R.length ≤ c
/-- the legs of a ride lie alone in a block -/
structure LegAt (w : World) (r : Ride) (T : TypeId) : Prop where
  l : ∃ g, r.la = some ⟨g, 0, none⟩ ∧ w.heap[g]? = some (.cells (flat Leg.cs r.legs).toArray T)
  p : r.pauses = []
  n : r.legs.length ≤ 9223372036854775807
theorem LegAt.at {w : World} {r : Ride} {T : TypeId} (h : LegAt w r T) : r.At w := by
  obtain ⟨g, hg, hh⟩ := h.l
  refine ⟨fun i x hx => ⟨g, 0, hg, (Array.getElem?_eq_some_iff.1 hh).1, fun j v hv => ?_⟩, by rw [h.p]; exact els_nil _ _, h.n, by rw [h.p]; simp⟩
  have := flat_at Leg.len r.legs i x j v hx hv
  simp only [World.cell?, hh, Nat.zero_add]
  simpa using this
theorem LegAt.keep {w w' : World} {r : Ride} {T e : TypeId} {base n : Nat} {v : Value} {xs : List Value} (h : LegAt w r T) (hg : w.grownBy w' v.ownBlock) (hown : w.ownsRow base e 13 v n xs) (hne : e ≠ T) : LegAt w' r T := by
  obtain ⟨g, h1, hh⟩ := h.l
  refine ⟨⟨g, h1, ?_⟩, h.p, h.n⟩
  rw [hg.block g (Array.getElem?_eq_some_iff.1 hh).1 ?_]; exact hh
  obtain ⟨_, ⟨rfl, _⟩ | ⟨g', cap, cur, rfl, _, hh', _⟩⟩ := hown
  · simp [Value.ownBlock]
  · intro he
    have he' : g = g' := by simpa [Value.ownBlock] using he
    subst he'
    rw [hh] at hh'
    simp only [Option.some.injEq, Obj.cells.injEq] at hh'
    exact hne hh'.2.1.symm
theorem LegAt.to {w W : World} {r : Ride} {T : TypeId} (h : LegAt w r T) (hW : ∃ z : Since w, W = z.w) : LegAt W r T := by
  obtain ⟨z, rfl⟩ := hW
  obtain ⟨g, h1, hh⟩ := h.l
  exact ⟨⟨g, h1, Since.heap hh z⟩, h.p, h.n⟩
def zonesR : List Int := (List.replicate 64 (0 : Int)).set 1 1
def IntsRes (w : World) (l : List Int) (o : Ending) (w' : World) : Prop := ∃ (a : Option Addr) (c : Nat) (y : Since w), o = .returned (.slice a l.length c) ∧ w' = y.w ∧ IntRow y.w a l
set_option maxRecDepth 100000 in
set_option maxHeartbeats 4000000 in
theorem rzones_calls (w : World) (x : Since w) : Calls Tryd.prog 28 #[] x.w (IntsRes w zonesR) := by
  go_enter Tryd.func28, Tryd.ntmps28
  obtain ⟨zs, hzs⟩ : ∃ zs : Array Value, zs = (List.replicate 64 (Value.int .i64 0)).toArray := ⟨_, rfl⟩
  have hmk : ∀ q : World, (Instr.makeSlice 22 (.int .i64 64) (.int .i64 64)).run Tryd.prog q = .ok (.slice (some ⟨q.heap.size, 0, none⟩) 64 64) (q.alloc (.cells zs 3)) := fun q => by rw [hzs]; exact make1_run sIntF rfl 64 (by omega) (by omega) q
  have Hzs := Lib.hid hzs
  clear hzs
  go_upto_region 2 with fail
  clear hmk
  obtain ⟨y1, hy1⟩ := x.alloc (.cells (List.replicate 64 (Value.int .i64 0)).toArray 3)
  have hb := BoxIs.new x.w (List.replicate 64 (Value.int .i64 0)) 3
  have hx : w.heap.size ≤ x.w.heap.size := x.b.size
  rw [← Hzs.out] at hy1 hb
  rw [hy1] at hb ⊢
  clear hy1
  generalize x.w.heap.size = g at *
  have HB := Lib.hid (show BoxIs y1.w g ((List.replicate 64 (0 : Int)).map (.int .i64)) by rw [List.map_replicate]; exact hb)
  have q0 := HB.out.atI (i := 1) (by simp)
  have q1 := HB.out.f
  have hb2 := HB.out.setI (i := 1) (by simp) 1
  obtain ⟨y2, hy2⟩ := y1.set ⟨g, 1, none⟩ hx (.int .i64 1)
  rw [hy2] at hb2
  have HR := Lib.hid hb2.ints
  have Hy2 := Lib.hid hy2
  clear hb hb2 hy2 HB
  go_wp2_with fail
  go_ret
  exact ⟨some ⟨g, 0, none⟩, 64, y2, rfl, Hy2.out, HR.out⟩
def rideQ (k : Nat) : Ride := ⟨(k : Int) + 1, k, 100, 100, 900, 905, false, none, [⟨0, 100, 100, 900, 905⟩], 0, none, [], 0, 2, 0, 2, 1⟩
def fourL : List Ride := [rideQ 0, rideQ 1, rideQ 2, rideQ 3]
def rideQa (k g : Nat) : Ride := ⟨(k : Int) + 1, k, 100, 100, 900, 905, false, some ⟨g, 0, none⟩, [⟨0, 100, 100, 900, 905⟩], 1, none, [], 0, 2, 0, 2, 1⟩
theorem fourL_take (k : Nat) (h : k < 4) : fourL.take (k + 1) = fourL.take k ++ [rideQ k] := by
  match k, h with
  | 0, _ => rfl
  | 1, _ => rfl
  | 2, _ => rfl
  | 3, _ => rfl
set_option maxRecDepth 100000 in
set_option maxHeartbeats 8000000 in
theorem four_calls (w : World) (x : Since w) : Calls Tryd.prog 29 #[] x.w (RideRes w fourL) := by
  go_enter Tryd.func29, Tryd.ntmps29
  go_upto_region 3 with fail
  have hs0_0 : ((x.w.alloc (.cells #[.int .i64 100, .int .i64 100] 56)).alloc (.cells #[.int .i64 900, .int .i64 905] 56)).cell? ⟨x.w.heap.size, 0, none⟩ = some (.int .i64 100) := by simp [go_sem]
  have hs0_1 : ((x.w.alloc (.cells #[.int .i64 100, .int .i64 100] 56)).alloc (.cells #[.int .i64 900, .int .i64 905] 56)).cell? ⟨x.w.heap.size, 1, none⟩ = some (.int .i64 100) := by simp [go_sem]
  have hs1_0 : ((x.w.alloc (.cells #[.int .i64 100, .int .i64 100] 56)).alloc (.cells #[.int .i64 900, .int .i64 905] 56)).cell? ⟨x.w.heap.size + 1, 0, none⟩ = some (.int .i64 900) := by simp [go_sem]
  have hs1_1 : ((x.w.alloc (.cells #[.int .i64 100, .int .i64 100] 56)).alloc (.cells #[.int .i64 900, .int .i64 905] 56)).cell? ⟨x.w.heap.size + 1, 1, none⟩ = some (.int .i64 905) := by simp [go_sem]
  have hs0_f : ∀ o, ((x.w.alloc (.cells #[.int .i64 100, .int .i64 100] 56)).alloc (.cells #[.int .i64 900, .int .i64 905] 56)).frozen? ⟨x.w.heap.size, o, none⟩ = false := fun o => by simp [go_sem]
  have hs1_f : ∀ o, ((x.w.alloc (.cells #[.int .i64 100, .int .i64 100] 56)).alloc (.cells #[.int .i64 900, .int .i64 905] 56)).frozen? ⟨x.w.heap.size + 1, o, none⟩ = false := fun o => by simp [go_sem]
  have hlt0 : x.w.heap.size + 1 < ((x.w.alloc (.cells #[.int .i64 100, .int .i64 100] 56)).alloc (.cells #[.int .i64 900, .int .i64 905] 56)).heap.size := by simp
  have hst0 : ∃ zz : Since x.w, ((x.w.alloc (.cells #[.int .i64 100, .int .i64 100] 56)).alloc (.cells #[.int .i64 900, .int .i64 905] 56)) = zz.w := IsSince.alloc (IsSince.alloc (IsSince.self _) _) _
  have hsz0 := x.b.size
  obtain ⟨y1, e2⟩ := IsSince.alloc (IsSince.alloc (IsSince.of x) (.cells #[.int .i64 100, .int .i64 100] 56)) (.cells #[.int .i64 900, .int .i64 905] 56)
  rw [e2] at hs0_0 hs0_1 hs1_0 hs1_1 hs0_f hs1_f hlt0 hst0 ⊢
  skip
  clear e2 hst0
  generalize x.w.heap.size = gs at *
  have Hhs0_0 : ∀ q : Since y1.w, q.w.cell? ⟨gs, 0, none⟩ = some (.int .i64 100) := fun q => Since.cell hs0_0 (by omega) q
  have Hhs0_1 : ∀ q : Since y1.w, q.w.cell? ⟨gs, 1, none⟩ = some (.int .i64 100) := fun q => Since.cell hs0_1 (by omega) q
  have Hhs1_0 : ∀ q : Since y1.w, q.w.cell? ⟨gs + 1, 0, none⟩ = some (.int .i64 900) := fun q => Since.cell hs1_0 (by omega) q
  have Hhs1_1 : ∀ q : Since y1.w, q.w.cell? ⟨gs + 1, 1, none⟩ = some (.int .i64 905) := fun q => Since.cell hs1_1 (by omega) q
  have Hhs0_f : ∀ (q : Since y1.w) (o : Nat), q.w.frozen? ⟨gs, o, none⟩ = false := fun q o => Since.free (hs0_f o) (by omega) q
  have Hhs1_f : ∀ (q : Since y1.w) (o : Nat), q.w.frozen? ⟨gs + 1, o, none⟩ = false := fun q o => Since.free (hs1_f o) (by omega) q
  have Hhsg := Lib.hid (And.intro hsz0 hlt0)
  clear hlt0 hsz0
  clear hs0_0 hs0_1 hs1_0 hs1_1 hs0_f hs1_f Hhs0_f Hhs1_f Hhsg
  obtain ⟨y2, hy2⟩ := Since.refl y1.w
  rw [hy2]
  clear hy2
  go_upto_region 4 with fail
  go_loopw [1, 4] (fun v i wr => ∃ (k : Nat) (R : List Ride) (y : Since y1.w), k ≤ 4 ∧ i = .int .i64 k ∧ wr = y.w ∧ y.w.ownsRow y1.w.heap.size 73 13 v k (flat Ride.cs R) ∧ R.map Ride.bare = fourL.take k ∧ ∀ r ∈ R, LegAt y.w r 98) (fun _ i _ => 4 - (intOf i).toNat)
  case atStart => exact ⟨0, [], y2, by omega, rfl, rfl, ⟨rfl, .inl ⟨rfl, rfl⟩⟩, rfl, fun r hr => by cases hr⟩
  case round =>
    obtain ⟨k, R, y, hk, rfl, rfl, hown, hR, hat⟩ := hrel
    have Hown := Lib.hid hown; have HR := Lib.hid hR; have Hat := Lib.hid hat
    clear hown hR hat
    by_cases hlt : k < 4
    · have hk0 : (0 : Int) ≤ (k : Int) := by omega
      have hkl : (k : Int) < 4 := by omega
      go_upto_region 6 with fail
      go_wp2_with (at_builtin; (refine wpList_appendK (w0 := y1.w) ?hw rfl _ _ 23 rfl y1.w.heap.size (Nat.le_refl _) ?hb 73 zeroRide 136 sRide u1 k (flat Ride.cs R) rfl ?hown ⟨y.w.heap.size + 1, 0, none⟩ 1 1 (rideQa k y.w.heap.size).cs rfl rfl ?hc (ride_one _) ?h63 ?hbytes ?_; rotate_right 1; intro v2 q2 hown4 _ hg4))
      case hw => exact IsSince.alloc (IsSince.alloc (IsSince.of y) _) _
      case hb => have := y.b.size; simp; omega
      case hown => exact own_to Hown.out (IsSince.alloc (IsSince.alloc (IsSince.self _) _) _)
      case hc =>
        intro j v hv
        have := cell_new_at (y.w.alloc (.cells #[.int .i64 0, .int .i64 100, .int .i64 100, .int .i64 900, .int .i64 905] 98)) (rideQa k y.w.heap.size).cs 73 j v hv
        rw [show (y.w.alloc (.cells #[.int .i64 0, .int .i64 100, .int .i64 100, .int .i64 900, .int .i64 905] 98)).heap.size = y.w.heap.size + 1 by simp] at this
        exact this
      case h63 => unfold maxLen; omega
      case hbytes => omega
      have hown5 : q2.w.ownsRow y1.w.heap.size 73 13 v2 (k + 1) (flat Ride.cs (R ++ [rideQa k y.w.heap.size])) := by rw [flat_append, flat_one]; exact hown4
      have hbl : ((y.w.alloc (.cells #[.int .i64 0, .int .i64 100, .int .i64 100, .int .i64 900, .int .i64 905] 98)).alloc (.cells (rideQa k y.w.heap.size).cs.toArray 73)).heap[y.w.heap.size]? = some (.cells #[.int .i64 0, .int .i64 100, .int .i64 100, .int .i64 900, .int .i64 905] 98) := by
        show ((y.w.heap.push _).push _)[y.w.heap.size]? = _
        rw [Array.getElem?_push, if_neg (by simp), Array.getElem?_push, if_pos rfl]
      have Hnew := Lib.hid (LegAt.keep (r := rideQa k y.w.heap.size) (T := 98) ⟨⟨_, rfl, hbl⟩, rfl, show (1 : Nat) ≤ _ by decide⟩ hg4 (own_to Hown.out (IsSince.alloc (IsSince.alloc (IsSince.self _) _) _)) (by decide))
      have Hold := Lib.hid (fun r hr => LegAt.keep ((Hat.out r hr).to (IsSince.alloc (IsSince.alloc (IsSince.self _) _) _)) hg4 (own_to Hown.out (IsSince.alloc (IsSince.alloc (IsSince.self _) _) _)) (by decide))
      have Hown5 := Lib.hid hown5
      clear hown4 hg4 hown5 hbl
      go_wp2_with fail
      go_roundw
      case rel => exact ⟨k + 1, R ++ [rideQa k y.w.heap.size], q2, by omega, by go_num, rfl, Hown5.out, by rw [List.map_append, HR.out, fourL_take k hlt]; rfl, fun r hr => by
        rcases List.mem_append.1 hr with h | h
        · exact Hold.out r h
        · simp at h; subst h; exact Hnew.out⟩
      case measure => simp [intOf] <;> omega
    · obtain rfl : k = 4 := by omega
      obtain ⟨hlen, a3, c3, rfl, hc3, he3, _, _⟩ := own_els Ride.len (by decide) Hown.out
      have H3 := Lib.hid (And.intro hc3 he3)
      have hl4 : R.length = 4 := hlen.symm
      have Hl4 := Lib.hid hl4
      obtain ⟨z, hz⟩ := x.trans (Since.self _)
      clear hlen hc3 he3 hl4 hz
      go_wp2_with fail
      go_ret
      obtain ⟨z3, hz3⟩ : ∃ z : Since w, y.w = z.w := by obtain ⟨z, hz⟩ := y1.trans y; exact ⟨z, hz⟩
      refine ⟨a3, c3, R, z3, rfl, hz3, ?_, HR.out, H3.out.1⟩
      rw [← hz3]
      exact ⟨H3.out.2, fun r hr => (Hat.out r hr).at⟩
end Go.Proofs.YtdkcclngionihaaDoor
