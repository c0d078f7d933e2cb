/- Alike releases, walked (the reference). Written by mkr2.py. -/
import Derived.Test.YtdkcclngionihaaDoorRlMk
set_option linter.all false
namespace Go.Proofs.YtdkcclngionihaaDoor
open Go.RowKit

end Go.Proofs.YtdkcclngionihaaDoor
/- Releases compared by the reference, walked. Written by mkr3.py. -/
namespace Go.Proofs.YtdkcclngionihaaDoor
open Go.RowKit

noncomputable def sameR (A B : Rel) : Bool := open Classical in if A = B then true else false
def RelLen (A : Rel) : Prop := A.cells.length ≤ 9223372036854775807 ∧ A.hid.length ≤ 9223372036854775807 ∧ A.rows.length ≤ 9223372036854775807 ∧ A.cols.length ≤ 9223372036854775807 ∧ A.ws.length ≤ 9223372036854775807
theorem same_no {A B : Rel} (h : ¬ A = B) : sameR A B = false := by unfold sameR; exact if_neg h
theorem same_yes {A B : Rel} (hf : A.f = B.f ∧ A.t = B.t ∧ A.each = B.each ∧ A.r = B.r ∧ A.c = B.c) (hh : A.hid = B.hid) (e1 : A.cells = B.cells) (e2 : A.rows = B.rows) (e3 : A.cols = B.cols) (e4 : A.ws = B.ws) : sameR A B = true := by
  obtain ⟨a1, a2, a3, a4, a5⟩ := hf
  cases A; cases B
  simp only at a1 a2 a3 a4 a5 hh e1 e2 e3 e4
  subst a1 a2 a3 a4 a5 hh e1 e2 e3 e4
  unfold sameR; exact if_pos rfl
set_option linter.unusedSimpArgs false in
set_option maxRecDepth 100000 in
set_option maxHeartbeats 16000000 in
theorem rsame_calls (w : World) (x : Since w) (A B : Rel) (a1 a2 a3 a4 a5 b1 b2 b3 b4 b5 : Option Addr) (ac1 ac2 ac3 ac4 ac5 bc1 bc2 bc3 bc4 bc5 : Nat) (ha1 : IntRow w a1 A.cells) (ha2 : BlRow w a2 A.hid) (ha3 : IntRow w a3 A.rows) (ha4 : IntRow w a4 A.cols) (ha5 : IntRow w a5 A.ws) (la : RelLen A) (hb1 : IntRow w b1 B.cells) (hb2 : BlRow w b2 B.hid) (hb3 : IntRow w b3 B.rows) (hb4 : IntRow w b4 B.cols) (hb5 : IntRow w b5 B.ws) (lb : RelLen B) :
    Calls Tryd.prog 14 #[.agg #[.int .i64 A.f, .int .i64 A.t, .int .i64 A.each, .int .i64 A.r, .int .i64 A.c, .slice a1 A.cells.length ac1, .slice a2 A.hid.length ac2, .slice a3 A.rows.length ac3, .slice a4 A.cols.length ac4, .slice a5 A.ws.length ac5], .agg #[.int .i64 B.f, .int .i64 B.t, .int .i64 B.each, .int .i64 B.r, .int .i64 B.c, .slice b1 B.cells.length bc1, .slice b2 B.hid.length bc2, .slice b3 B.rows.length bc3, .slice b4 B.cols.length bc4, .slice b5 B.ws.length bc5]] x.w fun o w' => o = .returned (.bool (sameR A B)) ∧ ∃ y : Since w, w' = y.w := by
  have HA2 := Lib.hid ha2; have HB2 := Lib.hid hb2
  have HlA := Lib.hid la; have HlB := Lib.hid lb
  have K0 := Lib.hid (fun (W : World) (y : Since W) h k => rints_calls W y a1 b1 A.cells B.cells ac1 bc1 la.1 lb.1 h k)
  have K1 := Lib.hid (fun (W : World) (y : Since W) h k => rints_calls W y a3 b3 A.rows B.rows ac3 bc3 la.2.2.1 lb.2.2.1 h k)
  have K2 := Lib.hid (fun (W : World) (y : Since W) h k => rints_calls W y a4 b4 A.cols B.cols ac4 bc4 la.2.2.2.1 lb.2.2.2.1 h k)
  have K3 := Lib.hid (fun (W : World) (y : Since W) h k => rints_calls W y a5 b5 A.ws B.ws ac5 bc5 la.2.2.2.2 lb.2.2.2.2 h k)
  have R0 := Lib.hid (And.intro (And.intro ha1 hb1) (And.intro (And.intro ha3 hb3) (And.intro (And.intro ha4 hb4) (And.intro ha5 hb5))))
  clear ha1 ha2 ha3 ha4 ha5 hb1 hb2 hb3 hb4 hb5 la lb
  go_enter Tryd.func14, Tryd.ntmps14
  go_upto_region 1 with fail
  have hb0_0 : ∀ y : Since ((x.w.alloc (.cells #[.int .i64 A.f, .int .i64 A.t, .int .i64 A.each, .int .i64 A.r, .int .i64 A.c, .slice a1 A.cells.length ac1, .slice a2 A.hid.length ac2, .slice a3 A.rows.length ac3, .slice a4 A.cols.length ac4, .slice a5 A.ws.length ac5] 36)).alloc (.cells #[.int .i64 B.f, .int .i64 B.t, .int .i64 B.each, .int .i64 B.r, .int .i64 B.c, .slice b1 B.cells.length bc1, .slice b2 B.hid.length bc2, .slice b3 B.rows.length bc3, .slice b4 B.cols.length bc4, .slice b5 B.ws.length bc5] 36)), y.w.cell? ⟨x.w.heap.size, 0, none⟩ = some (.int .i64 A.f) := fun y => Since.cell (by simp [go_sem]) (by first | (simp; done) | (simp; omega)) y
  have hb0_1 : ∀ y : Since ((x.w.alloc (.cells #[.int .i64 A.f, .int .i64 A.t, .int .i64 A.each, .int .i64 A.r, .int .i64 A.c, .slice a1 A.cells.length ac1, .slice a2 A.hid.length ac2, .slice a3 A.rows.length ac3, .slice a4 A.cols.length ac4, .slice a5 A.ws.length ac5] 36)).alloc (.cells #[.int .i64 B.f, .int .i64 B.t, .int .i64 B.each, .int .i64 B.r, .int .i64 B.c, .slice b1 B.cells.length bc1, .slice b2 B.hid.length bc2, .slice b3 B.rows.length bc3, .slice b4 B.cols.length bc4, .slice b5 B.ws.length bc5] 36)), y.w.cell? ⟨x.w.heap.size, 1, none⟩ = some (.int .i64 A.t) := fun y => Since.cell (by simp [go_sem]) (by first | (simp; done) | (simp; omega)) y
  have hb0_2 : ∀ y : Since ((x.w.alloc (.cells #[.int .i64 A.f, .int .i64 A.t, .int .i64 A.each, .int .i64 A.r, .int .i64 A.c, .slice a1 A.cells.length ac1, .slice a2 A.hid.length ac2, .slice a3 A.rows.length ac3, .slice a4 A.cols.length ac4, .slice a5 A.ws.length ac5] 36)).alloc (.cells #[.int .i64 B.f, .int .i64 B.t, .int .i64 B.each, .int .i64 B.r, .int .i64 B.c, .slice b1 B.cells.length bc1, .slice b2 B.hid.length bc2, .slice b3 B.rows.length bc3, .slice b4 B.cols.length bc4, .slice b5 B.ws.length bc5] 36)), y.w.cell? ⟨x.w.heap.size, 2, none⟩ = some (.int .i64 A.each) := fun y => Since.cell (by simp [go_sem]) (by first | (simp; done) | (simp; omega)) y
  have hb0_3 : ∀ y : Since ((x.w.alloc (.cells #[.int .i64 A.f, .int .i64 A.t, .int .i64 A.each, .int .i64 A.r, .int .i64 A.c, .slice a1 A.cells.length ac1, .slice a2 A.hid.length ac2, .slice a3 A.rows.length ac3, .slice a4 A.cols.length ac4, .slice a5 A.ws.length ac5] 36)).alloc (.cells #[.int .i64 B.f, .int .i64 B.t, .int .i64 B.each, .int .i64 B.r, .int .i64 B.c, .slice b1 B.cells.length bc1, .slice b2 B.hid.length bc2, .slice b3 B.rows.length bc3, .slice b4 B.cols.length bc4, .slice b5 B.ws.length bc5] 36)), y.w.cell? ⟨x.w.heap.size, 3, none⟩ = some (.int .i64 A.r) := fun y => Since.cell (by simp [go_sem]) (by first | (simp; done) | (simp; omega)) y
  have hb0_4 : ∀ y : Since ((x.w.alloc (.cells #[.int .i64 A.f, .int .i64 A.t, .int .i64 A.each, .int .i64 A.r, .int .i64 A.c, .slice a1 A.cells.length ac1, .slice a2 A.hid.length ac2, .slice a3 A.rows.length ac3, .slice a4 A.cols.length ac4, .slice a5 A.ws.length ac5] 36)).alloc (.cells #[.int .i64 B.f, .int .i64 B.t, .int .i64 B.each, .int .i64 B.r, .int .i64 B.c, .slice b1 B.cells.length bc1, .slice b2 B.hid.length bc2, .slice b3 B.rows.length bc3, .slice b4 B.cols.length bc4, .slice b5 B.ws.length bc5] 36)), y.w.cell? ⟨x.w.heap.size, 4, none⟩ = some (.int .i64 A.c) := fun y => Since.cell (by simp [go_sem]) (by first | (simp; done) | (simp; omega)) y
  have hb0_5 : ∀ y : Since ((x.w.alloc (.cells #[.int .i64 A.f, .int .i64 A.t, .int .i64 A.each, .int .i64 A.r, .int .i64 A.c, .slice a1 A.cells.length ac1, .slice a2 A.hid.length ac2, .slice a3 A.rows.length ac3, .slice a4 A.cols.length ac4, .slice a5 A.ws.length ac5] 36)).alloc (.cells #[.int .i64 B.f, .int .i64 B.t, .int .i64 B.each, .int .i64 B.r, .int .i64 B.c, .slice b1 B.cells.length bc1, .slice b2 B.hid.length bc2, .slice b3 B.rows.length bc3, .slice b4 B.cols.length bc4, .slice b5 B.ws.length bc5] 36)), y.w.cell? ⟨x.w.heap.size, 5, none⟩ = some (.slice a1 A.cells.length ac1) := fun y => Since.cell (by simp [go_sem]) (by first | (simp; done) | (simp; omega)) y
  have hb0_6 : ∀ y : Since ((x.w.alloc (.cells #[.int .i64 A.f, .int .i64 A.t, .int .i64 A.each, .int .i64 A.r, .int .i64 A.c, .slice a1 A.cells.length ac1, .slice a2 A.hid.length ac2, .slice a3 A.rows.length ac3, .slice a4 A.cols.length ac4, .slice a5 A.ws.length ac5] 36)).alloc (.cells #[.int .i64 B.f, .int .i64 B.t, .int .i64 B.each, .int .i64 B.r, .int .i64 B.c, .slice b1 B.cells.length bc1, .slice b2 B.hid.length bc2, .slice b3 B.rows.length bc3, .slice b4 B.cols.length bc4, .slice b5 B.ws.length bc5] 36)), y.w.cell? ⟨x.w.heap.size, 6, none⟩ = some (.slice a2 A.hid.length ac2) := fun y => Since.cell (by simp [go_sem]) (by first | (simp; done) | (simp; omega)) y
  have hb0_7 : ∀ y : Since ((x.w.alloc (.cells #[.int .i64 A.f, .int .i64 A.t, .int .i64 A.each, .int .i64 A.r, .int .i64 A.c, .slice a1 A.cells.length ac1, .slice a2 A.hid.length ac2, .slice a3 A.rows.length ac3, .slice a4 A.cols.length ac4, .slice a5 A.ws.length ac5] 36)).alloc (.cells #[.int .i64 B.f, .int .i64 B.t, .int .i64 B.each, .int .i64 B.r, .int .i64 B.c, .slice b1 B.cells.length bc1, .slice b2 B.hid.length bc2, .slice b3 B.rows.length bc3, .slice b4 B.cols.length bc4, .slice b5 B.ws.length bc5] 36)), y.w.cell? ⟨x.w.heap.size, 7, none⟩ = some (.slice a3 A.rows.length ac3) := fun y => Since.cell (by simp [go_sem]) (by first | (simp; done) | (simp; omega)) y
  have hb0_8 : ∀ y : Since ((x.w.alloc (.cells #[.int .i64 A.f, .int .i64 A.t, .int .i64 A.each, .int .i64 A.r, .int .i64 A.c, .slice a1 A.cells.length ac1, .slice a2 A.hid.length ac2, .slice a3 A.rows.length ac3, .slice a4 A.cols.length ac4, .slice a5 A.ws.length ac5] 36)).alloc (.cells #[.int .i64 B.f, .int .i64 B.t, .int .i64 B.each, .int .i64 B.r, .int .i64 B.c, .slice b1 B.cells.length bc1, .slice b2 B.hid.length bc2, .slice b3 B.rows.length bc3, .slice b4 B.cols.length bc4, .slice b5 B.ws.length bc5] 36)), y.w.cell? ⟨x.w.heap.size, 8, none⟩ = some (.slice a4 A.cols.length ac4) := fun y => Since.cell (by simp [go_sem]) (by first | (simp; done) | (simp; omega)) y
  have hb0_9 : ∀ y : Since ((x.w.alloc (.cells #[.int .i64 A.f, .int .i64 A.t, .int .i64 A.each, .int .i64 A.r, .int .i64 A.c, .slice a1 A.cells.length ac1, .slice a2 A.hid.length ac2, .slice a3 A.rows.length ac3, .slice a4 A.cols.length ac4, .slice a5 A.ws.length ac5] 36)).alloc (.cells #[.int .i64 B.f, .int .i64 B.t, .int .i64 B.each, .int .i64 B.r, .int .i64 B.c, .slice b1 B.cells.length bc1, .slice b2 B.hid.length bc2, .slice b3 B.rows.length bc3, .slice b4 B.cols.length bc4, .slice b5 B.ws.length bc5] 36)), y.w.cell? ⟨x.w.heap.size, 9, none⟩ = some (.slice a5 A.ws.length ac5) := fun y => Since.cell (by simp [go_sem]) (by first | (simp; done) | (simp; omega)) y
  have hf0 : ∀ (y : Since ((x.w.alloc (.cells #[.int .i64 A.f, .int .i64 A.t, .int .i64 A.each, .int .i64 A.r, .int .i64 A.c, .slice a1 A.cells.length ac1, .slice a2 A.hid.length ac2, .slice a3 A.rows.length ac3, .slice a4 A.cols.length ac4, .slice a5 A.ws.length ac5] 36)).alloc (.cells #[.int .i64 B.f, .int .i64 B.t, .int .i64 B.each, .int .i64 B.r, .int .i64 B.c, .slice b1 B.cells.length bc1, .slice b2 B.hid.length bc2, .slice b3 B.rows.length bc3, .slice b4 B.cols.length bc4, .slice b5 B.ws.length bc5] 36))) (o : Nat), y.w.frozen? ⟨x.w.heap.size, o, none⟩ = false := fun y o => Since.free (by simp [go_sem]) (by first | (simp; done) | (simp; omega)) y
  have hb1_0 : ∀ y : Since ((x.w.alloc (.cells #[.int .i64 A.f, .int .i64 A.t, .int .i64 A.each, .int .i64 A.r, .int .i64 A.c, .slice a1 A.cells.length ac1, .slice a2 A.hid.length ac2, .slice a3 A.rows.length ac3, .slice a4 A.cols.length ac4, .slice a5 A.ws.length ac5] 36)).alloc (.cells #[.int .i64 B.f, .int .i64 B.t, .int .i64 B.each, .int .i64 B.r, .int .i64 B.c, .slice b1 B.cells.length bc1, .slice b2 B.hid.length bc2, .slice b3 B.rows.length bc3, .slice b4 B.cols.length bc4, .slice b5 B.ws.length bc5] 36)), y.w.cell? ⟨x.w.heap.size + 1, 0, none⟩ = some (.int .i64 B.f) := fun y => Since.cell (by simp [go_sem]) (by first | (simp; done) | (simp; omega)) y
  have hb1_1 : ∀ y : Since ((x.w.alloc (.cells #[.int .i64 A.f, .int .i64 A.t, .int .i64 A.each, .int .i64 A.r, .int .i64 A.c, .slice a1 A.cells.length ac1, .slice a2 A.hid.length ac2, .slice a3 A.rows.length ac3, .slice a4 A.cols.length ac4, .slice a5 A.ws.length ac5] 36)).alloc (.cells #[.int .i64 B.f, .int .i64 B.t, .int .i64 B.each, .int .i64 B.r, .int .i64 B.c, .slice b1 B.cells.length bc1, .slice b2 B.hid.length bc2, .slice b3 B.rows.length bc3, .slice b4 B.cols.length bc4, .slice b5 B.ws.length bc5] 36)), y.w.cell? ⟨x.w.heap.size + 1, 1, none⟩ = some (.int .i64 B.t) := fun y => Since.cell (by simp [go_sem]) (by first | (simp; done) | (simp; omega)) y
  have hb1_2 : ∀ y : Since ((x.w.alloc (.cells #[.int .i64 A.f, .int .i64 A.t, .int .i64 A.each, .int .i64 A.r, .int .i64 A.c, .slice a1 A.cells.length ac1, .slice a2 A.hid.length ac2, .slice a3 A.rows.length ac3, .slice a4 A.cols.length ac4, .slice a5 A.ws.length ac5] 36)).alloc (.cells #[.int .i64 B.f, .int .i64 B.t, .int .i64 B.each, .int .i64 B.r, .int .i64 B.c, .slice b1 B.cells.length bc1, .slice b2 B.hid.length bc2, .slice b3 B.rows.length bc3, .slice b4 B.cols.length bc4, .slice b5 B.ws.length bc5] 36)), y.w.cell? ⟨x.w.heap.size + 1, 2, none⟩ = some (.int .i64 B.each) := fun y => Since.cell (by simp [go_sem]) (by first | (simp; done) | (simp; omega)) y
  have hb1_3 : ∀ y : Since ((x.w.alloc (.cells #[.int .i64 A.f, .int .i64 A.t, .int .i64 A.each, .int .i64 A.r, .int .i64 A.c, .slice a1 A.cells.length ac1, .slice a2 A.hid.length ac2, .slice a3 A.rows.length ac3, .slice a4 A.cols.length ac4, .slice a5 A.ws.length ac5] 36)).alloc (.cells #[.int .i64 B.f, .int .i64 B.t, .int .i64 B.each, .int .i64 B.r, .int .i64 B.c, .slice b1 B.cells.length bc1, .slice b2 B.hid.length bc2, .slice b3 B.rows.length bc3, .slice b4 B.cols.length bc4, .slice b5 B.ws.length bc5] 36)), y.w.cell? ⟨x.w.heap.size + 1, 3, none⟩ = some (.int .i64 B.r) := fun y => Since.cell (by simp [go_sem]) (by first | (simp; done) | (simp; omega)) y
  have hb1_4 : ∀ y : Since ((x.w.alloc (.cells #[.int .i64 A.f, .int .i64 A.t, .int .i64 A.each, .int .i64 A.r, .int .i64 A.c, .slice a1 A.cells.length ac1, .slice a2 A.hid.length ac2, .slice a3 A.rows.length ac3, .slice a4 A.cols.length ac4, .slice a5 A.ws.length ac5] 36)).alloc (.cells #[.int .i64 B.f, .int .i64 B.t, .int .i64 B.each, .int .i64 B.r, .int .i64 B.c, .slice b1 B.cells.length bc1, .slice b2 B.hid.length bc2, .slice b3 B.rows.length bc3, .slice b4 B.cols.length bc4, .slice b5 B.ws.length bc5] 36)), y.w.cell? ⟨x.w.heap.size + 1, 4, none⟩ = some (.int .i64 B.c) := fun y => Since.cell (by simp [go_sem]) (by first | (simp; done) | (simp; omega)) y
  have hb1_5 : ∀ y : Since ((x.w.alloc (.cells #[.int .i64 A.f, .int .i64 A.t, .int .i64 A.each, .int .i64 A.r, .int .i64 A.c, .slice a1 A.cells.length ac1, .slice a2 A.hid.length ac2, .slice a3 A.rows.length ac3, .slice a4 A.cols.length ac4, .slice a5 A.ws.length ac5] 36)).alloc (.cells #[.int .i64 B.f, .int .i64 B.t, .int .i64 B.each, .int .i64 B.r, .int .i64 B.c, .slice b1 B.cells.length bc1, .slice b2 B.hid.length bc2, .slice b3 B.rows.length bc3, .slice b4 B.cols.length bc4, .slice b5 B.ws.length bc5] 36)), y.w.cell? ⟨x.w.heap.size + 1, 5, none⟩ = some (.slice b1 B.cells.length bc1) := fun y => Since.cell (by simp [go_sem]) (by first | (simp; done) | (simp; omega)) y
  have hb1_6 : ∀ y : Since ((x.w.alloc (.cells #[.int .i64 A.f, .int .i64 A.t, .int .i64 A.each, .int .i64 A.r, .int .i64 A.c, .slice a1 A.cells.length ac1, .slice a2 A.hid.length ac2, .slice a3 A.rows.length ac3, .slice a4 A.cols.length ac4, .slice a5 A.ws.length ac5] 36)).alloc (.cells #[.int .i64 B.f, .int .i64 B.t, .int .i64 B.each, .int .i64 B.r, .int .i64 B.c, .slice b1 B.cells.length bc1, .slice b2 B.hid.length bc2, .slice b3 B.rows.length bc3, .slice b4 B.cols.length bc4, .slice b5 B.ws.length bc5] 36)), y.w.cell? ⟨x.w.heap.size + 1, 6, none⟩ = some (.slice b2 B.hid.length bc2) := fun y => Since.cell (by simp [go_sem]) (by first | (simp; done) | (simp; omega)) y
  have hb1_7 : ∀ y : Since ((x.w.alloc (.cells #[.int .i64 A.f, .int .i64 A.t, .int .i64 A.each, .int .i64 A.r, .int .i64 A.c, .slice a1 A.cells.length ac1, .slice a2 A.hid.length ac2, .slice a3 A.rows.length ac3, .slice a4 A.cols.length ac4, .slice a5 A.ws.length ac5] 36)).alloc (.cells #[.int .i64 B.f, .int .i64 B.t, .int .i64 B.each, .int .i64 B.r, .int .i64 B.c, .slice b1 B.cells.length bc1, .slice b2 B.hid.length bc2, .slice b3 B.rows.length bc3, .slice b4 B.cols.length bc4, .slice b5 B.ws.length bc5] 36)), y.w.cell? ⟨x.w.heap.size + 1, 7, none⟩ = some (.slice b3 B.rows.length bc3) := fun y => Since.cell (by simp [go_sem]) (by first | (simp; done) | (simp; omega)) y
  have hb1_8 : ∀ y : Since ((x.w.alloc (.cells #[.int .i64 A.f, .int .i64 A.t, .int .i64 A.each, .int .i64 A.r, .int .i64 A.c, .slice a1 A.cells.length ac1, .slice a2 A.hid.length ac2, .slice a3 A.rows.length ac3, .slice a4 A.cols.length ac4, .slice a5 A.ws.length ac5] 36)).alloc (.cells #[.int .i64 B.f, .int .i64 B.t, .int .i64 B.each, .int .i64 B.r, .int .i64 B.c, .slice b1 B.cells.length bc1, .slice b2 B.hid.length bc2, .slice b3 B.rows.length bc3, .slice b4 B.cols.length bc4, .slice b5 B.ws.length bc5] 36)), y.w.cell? ⟨x.w.heap.size + 1, 8, none⟩ = some (.slice b4 B.cols.length bc4) := fun y => Since.cell (by simp [go_sem]) (by first | (simp; done) | (simp; omega)) y
  have hb1_9 : ∀ y : Since ((x.w.alloc (.cells #[.int .i64 A.f, .int .i64 A.t, .int .i64 A.each, .int .i64 A.r, .int .i64 A.c, .slice a1 A.cells.length ac1, .slice a2 A.hid.length ac2, .slice a3 A.rows.length ac3, .slice a4 A.cols.length ac4, .slice a5 A.ws.length ac5] 36)).alloc (.cells #[.int .i64 B.f, .int .i64 B.t, .int .i64 B.each, .int .i64 B.r, .int .i64 B.c, .slice b1 B.cells.length bc1, .slice b2 B.hid.length bc2, .slice b3 B.rows.length bc3, .slice b4 B.cols.length bc4, .slice b5 B.ws.length bc5] 36)), y.w.cell? ⟨x.w.heap.size + 1, 9, none⟩ = some (.slice b5 B.ws.length bc5) := fun y => Since.cell (by simp [go_sem]) (by first | (simp; done) | (simp; omega)) y
  have hf1 : ∀ (y : Since ((x.w.alloc (.cells #[.int .i64 A.f, .int .i64 A.t, .int .i64 A.each, .int .i64 A.r, .int .i64 A.c, .slice a1 A.cells.length ac1, .slice a2 A.hid.length ac2, .slice a3 A.rows.length ac3, .slice a4 A.cols.length ac4, .slice a5 A.ws.length ac5] 36)).alloc (.cells #[.int .i64 B.f, .int .i64 B.t, .int .i64 B.each, .int .i64 B.r, .int .i64 B.c, .slice b1 B.cells.length bc1, .slice b2 B.hid.length bc2, .slice b3 B.rows.length bc3, .slice b4 B.cols.length bc4, .slice b5 B.ws.length bc5] 36))) (o : Nat), y.w.frozen? ⟨x.w.heap.size + 1, o, none⟩ = false := fun y o => Since.free (by simp [go_sem]) (by first | (simp; done) | (simp; omega)) y
  have hWup : ∃ z : Since w, ((x.w.alloc (.cells #[.int .i64 A.f, .int .i64 A.t, .int .i64 A.each, .int .i64 A.r, .int .i64 A.c, .slice a1 A.cells.length ac1, .slice a2 A.hid.length ac2, .slice a3 A.rows.length ac3, .slice a4 A.cols.length ac4, .slice a5 A.ws.length ac5] 36)).alloc (.cells #[.int .i64 B.f, .int .i64 B.t, .int .i64 B.each, .int .i64 B.r, .int .i64 B.c, .slice b1 B.cells.length bc1, .slice b2 B.hid.length bc2, .slice b3 B.rows.length bc3, .slice b4 B.cols.length bc4, .slice b5 B.ws.length bc5] 36)) = z.w := Since.allocs x [.cells #[.int .i64 A.f, .int .i64 A.t, .int .i64 A.each, .int .i64 A.r, .int .i64 A.c, .slice a1 A.cells.length ac1, .slice a2 A.hid.length ac2, .slice a3 A.rows.length ac3, .slice a4 A.cols.length ac4, .slice a5 A.ws.length ac5] 36, .cells #[.int .i64 B.f, .int .i64 B.t, .int .i64 B.each, .int .i64 B.r, .int .i64 B.c, .slice b1 B.cells.length bc1, .slice b2 B.hid.length bc2, .slice b3 B.rows.length bc3, .slice b4 B.cols.length bc4, .slice b5 B.ws.length bc5] 36]
  obtain ⟨y0, hy0⟩ := Since.refl ((x.w.alloc (.cells #[.int .i64 A.f, .int .i64 A.t, .int .i64 A.each, .int .i64 A.r, .int .i64 A.c, .slice a1 A.cells.length ac1, .slice a2 A.hid.length ac2, .slice a3 A.rows.length ac3, .slice a4 A.cols.length ac4, .slice a5 A.ws.length ac5] 36)).alloc (.cells #[.int .i64 B.f, .int .i64 B.t, .int .i64 B.each, .int .i64 B.r, .int .i64 B.c, .slice b1 B.cells.length bc1, .slice b2 B.hid.length bc2, .slice b3 B.rows.length bc3, .slice b4 B.cols.length bc4, .slice b5 B.ws.length bc5] 36))
  have Hbx := Lib.hid (And.intro x.b.size (show x.w.heap.size + 2 = ((x.w.alloc (.cells #[.int .i64 A.f, .int .i64 A.t, .int .i64 A.each, .int .i64 A.r, .int .i64 A.c, .slice a1 A.cells.length ac1, .slice a2 A.hid.length ac2, .slice a3 A.rows.length ac3, .slice a4 A.cols.length ac4, .slice a5 A.ws.length ac5] 36)).alloc (.cells #[.int .i64 B.f, .int .i64 B.t, .int .i64 B.each, .int .i64 B.r, .int .i64 B.c, .slice b1 B.cells.length bc1, .slice b2 B.hid.length bc2, .slice b3 B.rows.length bc3, .slice b4 B.cols.length bc4, .slice b5 B.ws.length bc5] 36)).heap.size from by simp))
  generalize hW : ((x.w.alloc (.cells #[.int .i64 A.f, .int .i64 A.t, .int .i64 A.each, .int .i64 A.r, .int .i64 A.c, .slice a1 A.cells.length ac1, .slice a2 A.hid.length ac2, .slice a3 A.rows.length ac3, .slice a4 A.cols.length ac4, .slice a5 A.ws.length ac5] 36)).alloc (.cells #[.int .i64 B.f, .int .i64 B.t, .int .i64 B.each, .int .i64 B.r, .int .i64 B.c, .slice b1 B.cells.length bc1, .slice b2 B.hid.length bc2, .slice b3 B.rows.length bc3, .slice b4 B.cols.length bc4, .slice b5 B.ws.length bc5] 36)) = W at *
  clear hW
  generalize x.w.heap.size = bx at *
  have Hup := Lib.hid (Since.up hWup)
  rw [hy0]
  clear hy0
  replace HA2 := Lib.hid (HA2.out.to hWup)
  replace HB2 := Lib.hid (HB2.out.to hWup)
  have HC0 := Lib.hid (fun z : Since W => K0.out W z (R0.out.1.1.to hWup) (R0.out.1.2.to hWup))
  have HC1 := Lib.hid (fun z : Since W => K1.out W z (R0.out.2.1.1.to hWup) (R0.out.2.1.2.to hWup))
  have HC2 := Lib.hid (fun z : Since W => K2.out W z (R0.out.2.2.1.1.to hWup) (R0.out.2.2.1.2.to hWup))
  have HC3 := Lib.hid (fun z : Since W => K3.out W z (R0.out.2.2.2.1.to hWup) (R0.out.2.2.2.2.to hWup))
  clear hWup hf0 hf1 K0 K1 K2 K3 R0
  by_cases hall : A.f = B.f ∧ A.t = B.t ∧ A.each = B.each ∧ A.r = B.r ∧ A.c = B.c ∧ A.hid.length = B.hid.length
  · have Hf := Lib.hid (show A.f = B.f ∧ A.t = B.t ∧ A.each = B.each ∧ A.r = B.r ∧ A.c = B.c from ⟨hall.1, hall.2.1, hall.2.2.1, hall.2.2.2.1, hall.2.2.2.2.1⟩)
    have Hln := Lib.hid hall.2.2.2.2.2
    have n0 := hall.1
    have n1 := hall.2.1
    have n2 := intrel_eq hall.2.2.1
    have n3 := intrel_eq hall.2.2.2.1
    have n4 := intrel_eq hall.2.2.2.2.1
    have n5 : ((A.hid.length : Int) != (B.hid.length : Int)) = false := intrel_eq (by rw [hall.2.2.2.2.2])
    clear hall
    go_upto_region 4 with fail
    go_loopw [5] (fun si wr => ∃ (k : Nat) (y : Since W), k ≤ A.hid.length ∧ si = .int .i64 (k : Int) ∧ wr = y.w ∧ ∀ j, j < k → bo A.hid j = bo B.hid j) (fun si _ => A.hid.length - (intOf si).toNat)
    case atStart => exact ⟨0, y0, by omega, rfl, rfl, fun j hj => by omega⟩
    case round =>
      obtain ⟨k, y, hk, rfl, rfl, hn⟩ := hrel
      have Hn := Lib.hid hn
      clear hn
      by_cases hlt : k < A.hid.length
      · have hk0 : (0 : Int) ≤ (k : Int) := by omega
        have hle : A.hid.length ≤ 9223372036854775807 := HlA.out.2.1
        have hkl : (k : Int) < (A.hid.length : Int) := by omega
        have hkb : (k : Int) < (B.hid.length : Int) := by have := Hln.out; omega
        obtain ⟨c1, o1, h1, hb1, hc1⟩ := HA2.out k hlt
        have f0 : ∀ q : Since W, q.w.cell? ⟨c1, o1 + k, none⟩ = some (.bool (bo A.hid k)) := fun q => Since.cell hc1 hb1 q
        obtain ⟨c2, o2, h2, hb2, hc2⟩ := HB2.out k (by have := Hln.out; omega)
        have f1 : ∀ q : Since W, q.w.cell? ⟨c2, o2 + k, none⟩ = some (.bool (bo B.hid k)) := fun q => Since.cell hc2 hb2 q
        subst h1
        subst h2
        clear hb1 hc1 hb2 hc2
        by_cases he : bo A.hid k = bo B.hid k
        · have HS := Lib.hid (fun q (hq : q < k + 1) => show bo A.hid q = bo B.hid q from by
            by_cases e : q = k
            · rw [e]; exact he
            · exact Hn.out q (by omega))
          clear HC0 HC1 HC2 HC3
          rw [he] at f0
          clear he
          generalize bo B.hid k = bb at *
          go_upto_region 6 with fail
          refine wp_region_since (by kernel_rfl) (by kernel_rfl) ?_
          repeat (go_big_quiet_step (fail))
          refine wpQuiet_nil ?_
          rintro _ ⟨z, rfl⟩
          cases bb
          all_goals
            go_wp2_with fail
            go_roundw
            case rel => exact ⟨k + 1, z, by omega, by go_num, rfl, HS.out⟩
            case measure => simp [intOf] <;> omega
        · have HB := Lib.hid (show sameR A B = false from same_no fun h => he (by rw [h]))
          have hx : (bo A.hid k = true ∧ bo B.hid k = false) ∨ (bo A.hid k = false ∧ bo B.hid k = true) := by cases h1 : bo A.hid k <;> cases h2 : bo B.hid k <;> simp [h1, h2] at he ⊢
          clear HC0 HC1 HC2 HC3 he
          rcases hx with ⟨x1, x2⟩ | ⟨x1, x2⟩
          all_goals
            rw [x1] at f0
            rw [x2] at f1
            go_upto_region 6 with fail
            refine wp_region_since (by kernel_rfl) (by kernel_rfl) ?_
            repeat (go_big_quiet_step (fail))
            refine wpQuiet_nil ?_
            rintro _ ⟨z, rfl⟩
            go_wp2_with fail
            go_ret
            exact ⟨ret_bool HB.out.symm, Hup.out z⟩
      · obtain rfl : k = A.hid.length := by omega
        have HhE := Lib.hid (show A.hid = B.hid from bo_ext Hln.out Hn.out)
        clear Hn HA2 HB2
        by_cases e1 : A.cells = B.cells
        · have d0 : decide (A.cells = B.cells) = true := decide_eq_true e1
          have E1 := Lib.hid e1
          clear e1
          by_cases e2 : A.rows = B.rows
          · have d1 : decide (A.rows = B.rows) = true := decide_eq_true e2
            have E2 := Lib.hid e2
            clear e2
            by_cases e3 : A.cols = B.cols
            · have d2 : decide (A.cols = B.cols) = true := decide_eq_true e3
              have E3 := Lib.hid e3
              clear e3
              by_cases e4 : A.ws = B.ws
              · have d3 : decide (A.ws = B.ws) = true := decide_eq_true e4
                have E4 := Lib.hid e4
                clear e4
                have HB := Lib.hid (show sameR A B = true from same_yes Hf.out HhE.out E1.out E2.out E3.out E4.out)
                go_wp2_with (go_at_call 18; (first | ((with_reducible refine (HC0.out _).mono ?_); rintro _ _ ⟨rfl, z, rfl⟩) | ((with_reducible refine (HC1.out _).mono ?_); rintro _ _ ⟨rfl, z, rfl⟩) | ((with_reducible refine (HC2.out _).mono ?_); rintro _ _ ⟨rfl, z, rfl⟩) | ((with_reducible refine (HC3.out _).mono ?_); rintro _ _ ⟨rfl, z, rfl⟩)))
                go_ret
                exact ⟨ret_bool HB.out.symm, Hup.out _⟩
              · have d3 : decide (A.ws = B.ws) = false := decide_eq_false e4
                have HB := Lib.hid (show sameR A B = false from same_no fun h => e4 (by rw [h]))
                go_wp2_with (go_at_call 18; (first | ((with_reducible refine (HC0.out _).mono ?_); rintro _ _ ⟨rfl, z, rfl⟩) | ((with_reducible refine (HC1.out _).mono ?_); rintro _ _ ⟨rfl, z, rfl⟩) | ((with_reducible refine (HC2.out _).mono ?_); rintro _ _ ⟨rfl, z, rfl⟩) | ((with_reducible refine (HC3.out _).mono ?_); rintro _ _ ⟨rfl, z, rfl⟩)))
                go_ret
                exact ⟨ret_bool HB.out.symm, Hup.out _⟩
            · have d2 : decide (A.cols = B.cols) = false := decide_eq_false e3
              have HB := Lib.hid (show sameR A B = false from same_no fun h => e3 (by rw [h]))
              go_wp2_with (go_at_call 18; (first | ((with_reducible refine (HC0.out _).mono ?_); rintro _ _ ⟨rfl, z, rfl⟩) | ((with_reducible refine (HC1.out _).mono ?_); rintro _ _ ⟨rfl, z, rfl⟩) | ((with_reducible refine (HC2.out _).mono ?_); rintro _ _ ⟨rfl, z, rfl⟩) | ((with_reducible refine (HC3.out _).mono ?_); rintro _ _ ⟨rfl, z, rfl⟩)))
              go_ret
              exact ⟨ret_bool HB.out.symm, Hup.out _⟩
          · have d1 : decide (A.rows = B.rows) = false := decide_eq_false e2
            have HB := Lib.hid (show sameR A B = false from same_no fun h => e2 (by rw [h]))
            go_wp2_with (go_at_call 18; (first | ((with_reducible refine (HC0.out _).mono ?_); rintro _ _ ⟨rfl, z, rfl⟩) | ((with_reducible refine (HC1.out _).mono ?_); rintro _ _ ⟨rfl, z, rfl⟩) | ((with_reducible refine (HC2.out _).mono ?_); rintro _ _ ⟨rfl, z, rfl⟩) | ((with_reducible refine (HC3.out _).mono ?_); rintro _ _ ⟨rfl, z, rfl⟩)))
            go_ret
            exact ⟨ret_bool HB.out.symm, Hup.out _⟩
        · have d0 : decide (A.cells = B.cells) = false := decide_eq_false e1
          have HB := Lib.hid (show sameR A B = false from same_no fun h => e1 (by rw [h]))
          go_wp2_with (go_at_call 18; (first | ((with_reducible refine (HC0.out _).mono ?_); rintro _ _ ⟨rfl, z, rfl⟩) | ((with_reducible refine (HC1.out _).mono ?_); rintro _ _ ⟨rfl, z, rfl⟩) | ((with_reducible refine (HC2.out _).mono ?_); rintro _ _ ⟨rfl, z, rfl⟩) | ((with_reducible refine (HC3.out _).mono ?_); rintro _ _ ⟨rfl, z, rfl⟩)))
          go_ret
          exact ⟨ret_bool HB.out.symm, Hup.out _⟩
  · have HB := Lib.hid (show sameR A B = false from same_no fun h => hall (by rw [h]; exact ⟨rfl, rfl, rfl, rfl, rfl, rfl⟩))
    have hx : A.f ≠ B.f ∨ (A.f = B.f ∧ A.t ≠ B.t) ∨ (A.f = B.f ∧ A.t = B.t ∧ A.each ≠ B.each) ∨ (A.f = B.f ∧ A.t = B.t ∧ A.each = B.each ∧ A.r ≠ B.r) ∨ (A.f = B.f ∧ A.t = B.t ∧ A.each = B.each ∧ A.r = B.r ∧ A.c ≠ B.c) ∨ (A.f = B.f ∧ A.t = B.t ∧ A.each = B.each ∧ A.r = B.r ∧ A.c = B.c ∧ A.hid.length ≠ B.hid.length) := by omega
    clear hall HC0 HC1 HC2 HC3
    rcases hx with h1 | ⟨h1, h2⟩ | ⟨h1, h2, h3⟩ | ⟨h1, h2, h3, h4⟩ | ⟨h1, h2, h3, h4, h5⟩ | ⟨h1, h2, h3, h4, h5, h6⟩
    · have m1 := intrel_ne h1
      go_wp2_with fail
      go_ret
      exact ⟨ret_bool HB.out.symm, Hup.out y0⟩
    · have m1 := intrel_ne h2
      go_wp2_with fail
      go_ret
      exact ⟨ret_bool HB.out.symm, Hup.out y0⟩
    · have m1 := intrel_ne h3
      go_wp2_with fail
      go_ret
      exact ⟨ret_bool HB.out.symm, Hup.out y0⟩
    · have m0 := intrel_eq h3
      have m1 := intrel_ne h4
      go_wp2_with fail
      go_ret
      exact ⟨ret_bool HB.out.symm, Hup.out y0⟩
    · have m0 := intrel_eq h3
      have m2 := intrel_eq h4
      have m1 := intrel_ne h5
      go_wp2_with fail
      go_ret
      exact ⟨ret_bool HB.out.symm, Hup.out y0⟩
    · have m0 := intrel_eq h3
      have m2 := intrel_eq h4
      have m3 := intrel_eq h5
      have m1 : ((A.hid.length : Int) != (B.hid.length : Int)) = true := intrel_ne (by omega)
      go_wp2_with fail
      go_ret
      exact ⟨ret_bool HB.out.symm, Hup.out y0⟩
end Go.Proofs.YtdkcclngionihaaDoor
/- The laws of releases: zones, four. -/
namespace Go.Proofs.YtdkcclngionihaaDoor
open Go.RowKit

def RideRes (w : World) (L : List Ride) (o : Ending) (w' : World) : Prop := ∃ (a : Option Addr) (c : Nat) (R : List Ride) (y : Since w), o = .returned (.slice a R.length c) ∧ w' = y.w ∧ RideRow y.w a R ∧ R.map Ride.bare = L ∧ R.length ≤ c
/-- the legs of a ride lie alone in a block -/
structure LegAt (w : World) (r : Ride) (T : TypeId) : Prop where
  l : ∃ g, r.la = some ⟨g, 0, none⟩ ∧ w.heap[g]? = some (.cells (flat Leg.cs r.legs).toArray T)
  p : r.pauses = []
  n : r.legs.length ≤ 9223372036854775807
theorem LegAt.at {w : World} {r : Ride} {T : TypeId} (h : LegAt w r T) : r.At w := by
  obtain ⟨g, hg, hh⟩ := h.l
  refine ⟨fun i x hx => ⟨g, 0, hg, (Array.getElem?_eq_some_iff.1 hh).1, fun j v hv => ?_⟩, by rw [h.p]; exact els_nil _ _, h.n, by rw [h.p]; simp⟩
  have := flat_at Leg.len r.legs i x j v hx hv
  simp only [World.cell?, hh, Nat.zero_add]
  simpa using this
theorem LegAt.keep {w w' : World} {r : Ride} {T e : TypeId} {base n : Nat} {v : Value} {xs : List Value} (h : LegAt w r T) (hg : w.grownBy w' v.ownBlock) (hown : w.ownsRow base e 13 v n xs) (hne : e ≠ T) : LegAt w' r T := by
  obtain ⟨g, h1, hh⟩ := h.l
  refine ⟨⟨g, h1, ?_⟩, h.p, h.n⟩
  rw [hg.block g (Array.getElem?_eq_some_iff.1 hh).1 ?_]; exact hh
  obtain ⟨_, ⟨rfl, _⟩ | ⟨g', cap, cur, rfl, _, hh', _⟩⟩ := hown
  · simp [Value.ownBlock]
  · intro he
    have he' : g = g' := by simpa [Value.ownBlock] using he
    subst he'
    rw [hh] at hh'
    simp only [Option.some.injEq, Obj.cells.injEq] at hh'
    exact hne hh'.2.1.symm
theorem LegAt.to {w W : World} {r : Ride} {T : TypeId} (h : LegAt w r T) (hW : ∃ z : Since w, W = z.w) : LegAt W r T := by
  obtain ⟨z, rfl⟩ := hW
  obtain ⟨g, h1, hh⟩ := h.l
  exact ⟨⟨g, h1, Since.heap hh z⟩, h.p, h.n⟩
def zonesR : List Int := (List.replicate 64 (0 : Int)).set 1 1
def IntsRes (w : World) (l : List Int) (o : Ending) (w' : World) : Prop := ∃ (a : Option Addr) (c : Nat) (y : Since w), o = .returned (.slice a l.length c) ∧ w' = y.w ∧ IntRow y.w a l
set_option maxRecDepth 100000 in
set_option maxHeartbeats 4000000 in
theorem rzones_calls (w : World) (x : Since w) : Calls Tryd.prog 28 #[] x.w (IntsRes w zonesR) := by
  go_enter Tryd.func28, Tryd.ntmps28
  obtain ⟨zs, hzs⟩ : ∃ zs : Array Value, zs = (List.replicate 64 (Value.int .i64 0)).toArray := ⟨_, rfl⟩
  have hmk : ∀ q : World, (Instr.makeSlice 22 (.int .i64 64) (.int .i64 64)).run Tryd.prog q = .ok (.slice (some ⟨q.heap.size, 0, none⟩) 64 64) (q.alloc (.cells zs 3)) := fun q => by rw [hzs]; exact make1_run sIntF rfl 64 (by omega) (by omega) q
  have Hzs := Lib.hid hzs
  clear hzs
  go_upto_region 2 with fail
  clear hmk
  obtain ⟨y1, hy1⟩ := x.alloc (.cells (List.replicate 64 (Value.int .i64 0)).toArray 3)
  have hb := BoxIs.new x.w (List.replicate 64 (Value.int .i64 0)) 3
  have hx : w.heap.size ≤ x.w.heap.size := x.b.size
  rw [← Hzs.out] at hy1 hb
  rw [hy1] at hb ⊢
  clear hy1
  generalize x.w.heap.size = g at *
  have HB := Lib.hid (show BoxIs y1.w g ((List.replicate 64 (0 : Int)).map (.int .i64)) by rw [List.map_replicate]; exact hb)
  have q0 := HB.out.atI (i := 1) (by simp)
  have q1 := HB.out.f
  have hb2 := HB.out.setI (i := 1) (by simp) 1
  obtain ⟨y2, hy2⟩ := y1.set ⟨g, 1, none⟩ hx (.int .i64 1)
  rw [hy2] at hb2
  have HR := Lib.hid hb2.ints
  have Hy2 := Lib.hid hy2
  clear hb hb2 hy2 HB
  go_wp2_with fail
  go_ret
  exact ⟨some ⟨g, 0, none⟩, 64, y2, rfl, Hy2.out, HR.out⟩
def rideQ (k : Nat) : Ride := ⟨(k : Int) + 1, k, 100, 100, 900, 905, false, none, [⟨0, 100, 100, 900, 905⟩], 0, none, [], 0, 2, 0, 2, 1⟩
def fourL : List Ride := [rideQ 0, rideQ 1, rideQ 2, rideQ 3]
def rideQa (k g : Nat) : Ride := ⟨(k : Int) + 1, k, 100, 100, 900, 905, false, some ⟨g, 0, none⟩, [⟨0, 100, 100, 900, 905⟩], 1, none, [], 0, 2, 0, 2, 1⟩
theorem fourL_take (k : Nat) (h : k < 4) : fourL.take (k + 1) = fourL.take k ++ [rideQ k] := by
  match k, h with
  | 0, _ => rfl
  | 1, _ => rfl
  | 2, _ => rfl
  | 3, _ => rfl
set_option maxRecDepth 100000 in
set_option maxHeartbeats 8000000 in
theorem four_calls (w : World) (x : Since w) : Calls Tryd.prog 29 #[] x.w (RideRes w fourL) := by
  go_enter Tryd.func29, Tryd.ntmps29
  go_upto_region 3 with fail
  have hs0_0 : ((x.w.alloc (.cells #[.int .i64 100, .int .i64 100] 56)).alloc (.cells #[.int .i64 900, .int .i64 905] 56)).cell? ⟨x.w.heap.size, 0, none⟩ = some (.int .i64 100) := by simp [go_sem]
  have hs0_1 : ((x.w.alloc (.cells #[.int .i64 100, .int .i64 100] 56)).alloc (.cells #[.int .i64 900, .int .i64 905] 56)).cell? ⟨x.w.heap.size, 1, none⟩ = some (.int .i64 100) := by simp [go_sem]
  have hs1_0 : ((x.w.alloc (.cells #[.int .i64 100, .int .i64 100] 56)).alloc (.cells #[.int .i64 900, .int .i64 905] 56)).cell? ⟨x.w.heap.size + 1, 0, none⟩ = some (.int .i64 900) := by simp [go_sem]
  have hs1_1 : ((x.w.alloc (.cells #[.int .i64 100, .int .i64 100] 56)).alloc (.cells #[.int .i64 900, .int .i64 905] 56)).cell? ⟨x.w.heap.size + 1, 1, none⟩ = some (.int .i64 905) := by simp [go_sem]
  have hs0_f : ∀ o, ((x.w.alloc (.cells #[.int .i64 100, .int .i64 100] 56)).alloc (.cells #[.int .i64 900, .int .i64 905] 56)).frozen? ⟨x.w.heap.size, o, none⟩ = false := fun o => by simp [go_sem]
  have hs1_f : ∀ o, ((x.w.alloc (.cells #[.int .i64 100, .int .i64 100] 56)).alloc (.cells #[.int .i64 900, .int .i64 905] 56)).frozen? ⟨x.w.heap.size + 1, o, none⟩ = false := fun o => by simp [go_sem]
  have hlt0 : x.w.heap.size + 1 < ((x.w.alloc (.cells #[.int .i64 100, .int .i64 100] 56)).alloc (.cells #[.int .i64 900, .int .i64 905] 56)).heap.size := by simp
  have hst0 : ∃ zz : Since x.w, ((x.w.alloc (.cells #[.int .i64 100, .int .i64 100] 56)).alloc (.cells #[.int .i64 900, .int .i64 905] 56)) = zz.w := IsSince.alloc (IsSince.alloc (IsSince.self _) _) _
  have hsz0 := x.b.size
  obtain ⟨y1, e2⟩ := IsSince.alloc (IsSince.alloc (IsSince.of x) (.cells #[.int .i64 100, .int .i64 100] 56)) (.cells #[.int .i64 900, .int .i64 905] 56)
  rw [e2] at hs0_0 hs0_1 hs1_0 hs1_1 hs0_f hs1_f hlt0 hst0 ⊢
  skip
  clear e2 hst0
  generalize x.w.heap.size = gs at *
  have Hhs0_0 : ∀ q : Since y1.w, q.w.cell? ⟨gs, 0, none⟩ = some (.int .i64 100) := fun q => Since.cell hs0_0 (by omega) q
  have Hhs0_1 : ∀ q : Since y1.w, q.w.cell? ⟨gs, 1, none⟩ = some (.int .i64 100) := fun q => Since.cell hs0_1 (by omega) q
  have Hhs1_0 : ∀ q : Since y1.w, q.w.cell? ⟨gs + 1, 0, none⟩ = some (.int .i64 900) := fun q => Since.cell hs1_0 (by omega) q
  have Hhs1_1 : ∀ q : Since y1.w, q.w.cell? ⟨gs + 1, 1, none⟩ = some (.int .i64 905) := fun q => Since.cell hs1_1 (by omega) q
  have Hhs0_f : ∀ (q : Since y1.w) (o : Nat), q.w.frozen? ⟨gs, o, none⟩ = false := fun q o => Since.free (hs0_f o) (by omega) q
  have Hhs1_f : ∀ (q : Since y1.w) (o : Nat), q.w.frozen? ⟨gs + 1, o, none⟩ = false := fun q o => Since.free (hs1_f o) (by omega) q
  have Hhsg := Lib.hid (And.intro hsz0 hlt0)
  clear hlt0 hsz0
  clear hs0_0 hs0_1 hs1_0 hs1_1 hs0_f hs1_f Hhs0_f Hhs1_f Hhsg
  obtain ⟨y2, hy2⟩ := Since.refl y1.w
  rw [hy2]
  clear hy2
  go_upto_region 4 with fail
  go_loopw [1, 4] (fun v i wr => ∃ (k : Nat) (R : List Ride) (y : Since y1.w), k ≤ 4 ∧ i = .int .i64 k ∧ wr = y.w ∧ y.w.ownsRow y1.w.heap.size 73 13 v k (flat Ride.cs R) ∧ R.map Ride.bare = fourL.take k ∧ ∀ r ∈ R, LegAt y.w r 98) (fun _ i _ => 4 - (intOf i).toNat)
  case atStart => exact ⟨0, [], y2, by omega, rfl, rfl, ⟨rfl, .inl ⟨rfl, rfl⟩⟩, rfl, fun r hr => by cases hr⟩
  case round =>
    obtain ⟨k, R, y, hk, rfl, rfl, hown, hR, hat⟩ := hrel
    have Hown := Lib.hid hown; have HR := Lib.hid hR; have Hat := Lib.hid hat
    clear hown hR hat
    by_cases hlt : k < 4
    · have hk0 : (0 : Int) ≤ (k : Int) := by omega
      have hkl : (k : Int) < 4 := by omega
      go_upto_region 6 with fail
      go_wp2_with (at_builtin; (refine wpList_appendK (w0 := y1.w) ?hw rfl _ _ 23 rfl y1.w.heap.size (Nat.le_refl _) ?hb 73 zeroRide 136 sRide u1 k (flat Ride.cs R) rfl ?hown ⟨y.w.heap.size + 1, 0, none⟩ 1 1 (rideQa k y.w.heap.size).cs rfl rfl ?hc (ride_one _) ?h63 ?hbytes ?_; rotate_right 1; intro v2 q2 hown4 _ hg4))
      case hw => exact IsSince.alloc (IsSince.alloc (IsSince.of y) _) _
      case hb => have := y.b.size; simp; omega
      case hown => exact own_to Hown.out (IsSince.alloc (IsSince.alloc (IsSince.self _) _) _)
      case hc =>
        intro j v hv
        have := cell_new_at (y.w.alloc (.cells #[.int .i64 0, .int .i64 100, .int .i64 100, .int .i64 900, .int .i64 905] 98)) (rideQa k y.w.heap.size).cs 73 j v hv
        rw [show (y.w.alloc (.cells #[.int .i64 0, .int .i64 100, .int .i64 100, .int .i64 900, .int .i64 905] 98)).heap.size = y.w.heap.size + 1 by simp] at this
        exact this
      case h63 => unfold maxLen; omega
      case hbytes => omega
      have hown5 : q2.w.ownsRow y1.w.heap.size 73 13 v2 (k + 1) (flat Ride.cs (R ++ [rideQa k y.w.heap.size])) := by rw [flat_append, flat_one]; exact hown4
      have hbl : ((y.w.alloc (.cells #[.int .i64 0, .int .i64 100, .int .i64 100, .int .i64 900, .int .i64 905] 98)).alloc (.cells (rideQa k y.w.heap.size).cs.toArray 73)).heap[y.w.heap.size]? = some (.cells #[.int .i64 0, .int .i64 100, .int .i64 100, .int .i64 900, .int .i64 905] 98) := by
        show ((y.w.heap.push _).push _)[y.w.heap.size]? = _
        rw [Array.getElem?_push, if_neg (by simp), Array.getElem?_push, if_pos rfl]
      have Hnew := Lib.hid (LegAt.keep (r := rideQa k y.w.heap.size) (T := 98) ⟨⟨_, rfl, hbl⟩, rfl, show (1 : Nat) ≤ _ by decide⟩ hg4 (own_to Hown.out (IsSince.alloc (IsSince.alloc (IsSince.self _) _) _)) (by decide))
      have Hold := Lib.hid (fun r hr => LegAt.keep ((Hat.out r hr).to (IsSince.alloc (IsSince.alloc (IsSince.self _) _) _)) hg4 (own_to Hown.out (IsSince.alloc (IsSince.alloc (IsSince.self _) _) _)) (by decide))
      have Hown5 := Lib.hid hown5
      clear hown4 hg4 hown5 hbl
      go_wp2_with fail
      go_roundw
      case rel => exact ⟨k + 1, R ++ [rideQa k y.w.heap.size], q2, by omega, by go_num, rfl, Hown5.out, by rw [List.map_append, HR.out, fourL_take k hlt]; rfl, fun r hr => by
        rcases List.mem_append.1 hr with h | h
        · exact Hold.out r h
        · simp at h; subst h; exact Hnew.out⟩
      case measure => simp [intOf] <;> omega
    · obtain rfl : k = 4 := by omega
      obtain ⟨hlen, a3, c3, rfl, hc3, he3, _, _⟩ := own_els Ride.len (by decide) Hown.out
      have H3 := Lib.hid (And.intro hc3 he3)
      have hl4 : R.length = 4 := hlen.symm
      have Hl4 := Lib.hid hl4
      obtain ⟨z, hz⟩ := x.trans (Since.self _)
      clear hlen hc3 he3 hl4 hz
      go_wp2_with fail
      go_ret
      obtain ⟨z3, hz3⟩ : ∃ z : Since w, y.w = z.w := by obtain ⟨z, hz⟩ := y1.trans y; exact ⟨z, hz⟩
      refine ⟨a3, c3, R, z3, rfl, hz3, ?_, HR.out, H3.out.1⟩
      rw [← hz3]
      exact ⟨H3.out.2, fun r hr => (Hat.out r hr).at⟩
end Go.Proofs.YtdkcclngionihaaDoor
/- The values of the chapter's examples of releases: plain mathematics. -/
namespace Go.Proofs.YtdkcclngionihaaDoor
open Go.RowKit

theorem rlE_bare (zs : List Int) (size : Int) (R : List Ride) (f t each : Int) : rlE zs size (R.map Ride.bare) f t each = rlE zs size R f t each := by
  unfold rlE; rw [tabE_bare]
theorem rlT_bare (zs : List Int) (size : Int) (R : List Ride) (f t each : Int) : rlT zs size (R.map Ride.bare) f t each = rlT zs size R f t each := by
  unfold rlT; rw [rlE_bare, tabV_bare]
theorem exE_bare (zs : List Int) (size : Int) (R : List Ride) (f t each least width : Int) : exE zs size (R.map Ride.bare) f t each least width = exE zs size R f t each least width := by
  unfold exE; rw [rlE_bare, rlT_bare]
theorem exR_bare (zs : List Int) (size : Int) (R : List Ride) (f t each least width : Int) : exR zs size (R.map Ride.bare) f t each least width = exR zs size R f t each least width := by
  unfold exR; rw [exE_bare, rlT_bare]
theorem ex_tab4 : tabE zonesR 2 fourL 0 86400 2 = 0 ∧ tabV zonesR 2 fourL 0 86400 2 = ⟨2, 2, exT4⟩ := ⟨by kernel_rfl, by kernel_rfl⟩
theorem ex_rl : rlE zonesR 2 fourL 0 86400 2 = 0 ∧ rlT zonesR 2 fourL 0 86400 2 = ⟨2, 2, exT4⟩ := by
  have h : rlE zonesR 2 fourL 0 86400 2 = 0 := by unfold rlE; rw [ex_tab4.1]; rfl
  exact ⟨h, by unfold rlT; rw [if_pos h, ex_tab4.2]⟩
theorem hideE_in {R C : Nat} {l : List Int} {least width : Int} (h : ¬ badH least width) : hideE R C l least width = if hideV R C l least width = none then 10 else 0 := by
  unfold hideE; rw [if_neg h]
def exA : Rel := ⟨0, 86400, 2, 2, 2, [0, 4, 0, 0], [false, false, false, false], [4, 0], [0, 4], []⟩
def exB : Rel := ⟨0, 86400, 2, 2, 2, [0, 0, 0, 0], [false, true, false, false], [4, 0], [0, 4], []⟩
theorem ex_val {least : Int} {h : List Bool} (hv : hideV 2 2 exT4 least 0 = some h) (hb : ¬ badH least 0) : exE zonesR 2 fourL 0 86400 2 least 0 = 0 ∧ exR zonesR 2 fourL 0 86400 2 least 0 = ⟨0, 86400, 2, 2, 2, hidL exT4 h, h, rowL 2 2 exT4 4, colL 2 exT4 4, []⟩ := by
  have e : exE zonesR 2 fourL 0 86400 2 least 0 = 0 := by
    unfold exE
    rw [ex_rl.1, ex_rl.2, if_neg (by simp)]
    show hideE 2 2 exT4 least 0 = 0
    rw [hideE_in hb, if_neg (by rw [hv]; intro h; cases h)]
  refine ⟨e, ?_⟩
  unfold exR
  rw [if_pos e, ex_rl.2]
  show (match hideV 2 2 exT4 least 0 with | some h => (⟨0, 86400, 2, 2, 2, hidL exT4 h, h, rowL 2 2 exT4 4, colL 2 exT4 4, []⟩ : Rel) | none => rel0) = _
  rw [hv]
theorem ex_a : exE zonesR 2 fourL 0 86400 2 3 0 = 0 ∧ exR zonesR 2 fourL 0 86400 2 3 0 = exA := by
  obtain ⟨h1, h2⟩ := ex_val (least := 3) (hideV_zero ex_good 3 (Int.le_refl 0)) (by unfold badH; omega)
  exact ⟨h1, h2.trans (by kernel_rfl)⟩
theorem ex_b : exE zonesR 2 fourL 0 86400 2 5 0 = 0 ∧ exR zonesR 2 fourL 0 86400 2 5 0 = exB := by
  obtain ⟨h1, h2⟩ := ex_val (least := 5) (hideV_zero ex_good 5 (Int.le_refl 0)) (by unfold badH; omega)
  exact ⟨h1, h2.trans (by kernel_rfl)⟩
theorem ex_g : exE zonesR 2 fourL 0 86400 2 5 1 = 10 ∧ exR zonesR 2 fourL 0 86400 2 5 1 = rel0 := by
  have e : exE zonesR 2 fourL 0 86400 2 5 1 = 10 := by
    unfold exE
    rw [ex_rl.1, ex_rl.2, if_neg (by simp)]
    show hideE 2 2 exT4 5 1 = 10
    rw [hideE_in (by unfold badH; omega), if_pos ex_hide]
  exact ⟨e, by unfold exR; rw [if_neg (by rw [e]; decide)]⟩
/-- the noise of the examples -/
abbrev exN : List Int := [4, 2, 1]
abbrev eXx : Tab := ⟨2, 2, [1, 4, 0, 0]⟩
abbrev eTt : Tab := ⟨2, 2, [0, 4, 0, 0]⟩
abbrev eUu : Tab := ⟨2, 2, [0, 5, 0, 0]⟩
theorem exN_good : Good exN := by
  refine ⟨by decide, by decide, fun i hi => ?_⟩
  have : i = 0 ∨ i = 1 ∨ i = 2 := by simp at hi; omega
  rcases this with rfl | rfl | rfl <;> (unfold okAt; decide)
theorem exW (v : Int) : weight exN v = wt exN v := weight_good exN_good v
theorem ex_chE : chE eXx eTt exN = 0 ∧ chE eXx eUu exN = 0 := by
  have h1 : chkE eXx = 0 := by decide
  have h2 : chkE eTt = 0 := by decide
  have h3 : chkE eUu = 0 := by decide
  unfold chE
  rw [h1, h2, h3, check_good exN_good]
  exact ⟨rfl, rfl⟩
theorem ex_chV : chV eXx eTt exN = [2, 4, 4, 4] := by
  unfold chV
  rw [if_pos ex_chE.1]
  unfold chL
  simp only [exW]
  decide
theorem ex_al2 : alB eXx eTt eUu exN 2 1 = true := by
  refine alB_yes ⟨ex_chE.1, ex_chE.2, by decide, by decide, by decide⟩ fun i hi => ?_
  unfold alC
  rw [exW, exW]
  have : i = 0 ∨ i = 1 ∨ i = 2 ∨ i = 3 := by simp at hi; omega
  rcases this with rfl | rfl | rfl | rfl <;> decide
theorem ex_al3 : alB eXx eTt eUu exN 3 2 = false := by
  refine alB_cell (i := 1) (by decide) ?_
  unfold alC
  rw [exW, exW]
  decide
end Go.Proofs.YtdkcclngionihaaDoor
/- The laws of releases: contracts over a world that may be older, for awake. -/
namespace Go.Proofs.YtdkcclngionihaaDoor
open Go.RowKit

/-- a release in a box -/
def RelBox (w : World) (g : Nat) (E : Rel) (a1 a2 a3 a4 a5 : Option Addr) (c1 c2 c3 c4 c5 : Nat) : Prop :=
  BoxIs w g [.int .i64 E.f, .int .i64 E.t, .int .i64 E.each, .int .i64 E.r, .int .i64 E.c, .slice a1 E.cells.length c1, .slice a2 E.hid.length c2, .slice a3 E.rows.length c3, .slice a4 E.cols.length c4, .slice a5 E.ws.length c5]
structure RelRows (w : World) (E : Rel) (a1 a2 a3 a4 a5 : Option Addr) : Prop where
  a : IntRow w a1 E.cells
  b : BlRow w a2 E.hid
  c : IntRow w a3 E.rows
  d : IntRow w a4 E.cols
  e : IntRow w a5 E.ws
theorem RelRows.to {w W : World} {E : Rel} {a1 a2 a3 a4 a5 : Option Addr} (h : RelRows w E a1 a2 a3 a4 a5) (hW : ∃ z : Since w, W = z.w) : RelRows W E a1 a2 a3 a4 a5 :=
  ⟨h.a.to hW, h.b.to hW, h.c.to hW, h.d.to hW, h.e.to hW⟩
theorem RelRows.sets {E : Rel} {a1 a2 a3 a4 a5 : Option Addr} {g : Nat} (hg : ∀ b, a1 = some b ∨ a2 = some b ∨ a3 = some b ∨ a4 = some b ∨ a5 = some b → b.block ≠ g) : ∀ (vs : List Value) (o : Nat) (w : World), RelRows w E a1 a2 a3 a4 a5 → RelRows (w.setCells g o vs) E a1 a2 a3 a4 a5
  | [], _, _, h => h
  | v :: vs, o, w, h => RelRows.sets hg vs (o + 1) (w.setCell ⟨g, o, none⟩ v)
      ⟨h.a.set _ _ fun b hb => hg b (Or.inl hb), h.b.set _ _ fun b hb => hg b (Or.inr (Or.inl hb)), h.c.set _ _ fun b hb => hg b (Or.inr (Or.inr (Or.inl hb))), h.d.set _ _ fun b hb => hg b (Or.inr (Or.inr (Or.inr (Or.inl hb)))), h.e.set _ _ fun b hb => hg b (Or.inr (Or.inr (Or.inr (Or.inr hb))))⟩
theorem zones_s (W u : World) (hu : IsSince W u) : Calls Tryd.prog 28 #[] u fun o w' => ∃ (a : Option Addr) (c : Nat) (y : Since W), o = .returned (.slice a 64 c) ∧ w' = y.w ∧ (∃ z : Since u, y.w = z.w) ∧ IntRow y.w a zonesR := by
  obtain ⟨y0, rfl⟩ := hu
  refine (rzones_calls y0.w (Since.self y0.w)).mono ?_
  rintro _ w' ⟨a, c, z, rfl, rfl, h⟩
  obtain ⟨y', e⟩ := y0.trans z
  exact ⟨a, c, y', rfl, e, ⟨z, e.symm⟩, e ▸ h⟩
theorem four_s (W u : World) (hu : IsSince W u) : Calls Tryd.prog 29 #[] u fun o w' => ∃ (a : Option Addr) (c : Nat) (R : List Ride) (y : Since W), o = .returned (.slice a 4 c) ∧ w' = y.w ∧ (∃ z : Since u, y.w = z.w) ∧ RideRow y.w a R ∧ R.map Ride.bare = fourL := by
  obtain ⟨y0, rfl⟩ := hu
  refine (four_calls y0.w (Since.self y0.w)).mono ?_
  rintro _ w' ⟨a, c, R, z, rfl, rfl, h, hR, _⟩
  obtain ⟨y', e⟩ := y0.trans z
  have hl : R.length = 4 := by have := congrArg List.length hR; rwa [List.length_map] at this
  exact ⟨a, c, R, y', by rw [hl], e, ⟨z, e.symm⟩, e ▸ h, hR⟩
theorem fourL_mem {R : List Ride} (hR : R.map Ride.bare = fourL) : R.length = 4 ∧ ∀ r ∈ R, (r.fp ≤ 9223372036854775807 ∧ r.pl ≤ 9223372036854775807) := by
  refine ⟨by have := congrArg List.length hR; rwa [List.length_map] at this, fun r hr => ?_⟩
  have h : r.bare ∈ fourL := by rw [← hR]; exact List.mem_map_of_mem hr
  have e1 : r.bare.fp = r.fp := rfl
  have e2 : r.bare.pl = r.pl := rfl
  rw [← e1, ← e2]
  simp only [fourL, List.mem_cons, List.not_mem_nil, or_false] at h
  rcases h with h | h | h | h <;> rw [h] <;> exact ⟨by simp [rideQ], by simp [rideQ]⟩
theorem exact_s (W u : World) (hu : IsSince W u) (az : Option Addr) (cz : Nat) (a : Option Addr) (R : List Ride) (c : Nat) (least width e : Int) (E : Rel) (hz : IntRow u az zonesR) (h : RideRow u a R) (hR : R.map Ride.bare = fourL) (he : exE zonesR 2 fourL 0 86400 2 least width = e) (hE : exR zonesR 2 fourL 0 86400 2 least width = E) (n1 n2 n3 n4 n5 : Nat) (l1 : E.cells.length = n1) (l2 : E.hid.length = n2) (l3 : E.rows.length = n3) (l4 : E.cols.length = n4) (l5 : E.ws.length = n5) :
    Calls Tryd.prog 12 #[.slice az 64 cz, .int .i64 2, .slice a 4 c, .agg #[.int .i64 0, .int .i64 86400], .int .i64 2, .int .i64 least, .int .i64 width] u fun o w' => ∃ (a1 a2 a3 a4 a5 : Option Addr) (c1 c2 c3 c4 c5 : Nat) (y : Since W), o = .returned (.tuple #[.agg #[.int .i64 E.f, .int .i64 E.t, .int .i64 E.each, .int .i64 E.r, .int .i64 E.c, .slice a1 n1 c1, .slice a2 n2 c2, .slice a3 n3 c3, .slice a4 n4 c4, .slice a5 n5 c5], .int .i64 e]) ∧ w' = y.w ∧ (∃ z : Since u, y.w = z.w) ∧ RelRows y.w E a1 a2 a3 a4 a5 ∧ ∀ b, a1 = some b ∨ a2 = some b ∨ a3 = some b ∨ a4 = some b ∨ a5 = some b → u.heap.size ≤ b.block := by
  obtain ⟨hl, hm⟩ := fourL_mem hR
  obtain ⟨y0, rfl⟩ := hu
  have hc := exact_calls y0.w (Since.self y0.w) az zonesR cz 2 a R c 0 86400 2 least width hz (by unfold zonesR; simp) h (by omega) hm
  rw [← exE_bare, ← exR_bare, hR, he, hE, hl] at hc
  refine Calls.mono (show Calls Tryd.prog 12 #[.slice az 64 cz, .int .i64 2, .slice a 4 c, .agg #[.int .i64 0, .int .i64 86400], .int .i64 2, .int .i64 least, .int .i64 width] y0.w (RelRes y0.w E e) from hc) ?_
  rintro _ w' ⟨a1, a2, a3, a4, a5, c1, c2, c3, c4, c5, z, rfl, rfl, r1, r2, r3, r4, r5, hf⟩
  obtain ⟨y', e⟩ := y0.trans z
  subst l1 l2 l3 l4 l5
  exact ⟨a1, a2, a3, a4, a5, c1, c2, c3, c4, c5, y', rfl, e, ⟨z, e.symm⟩, e ▸ ⟨r1, r2, r3, r4, r5⟩, hf⟩
/-- a release's box, made behind the release -/
theorem rel_late {W : World} (y : Since W) {E : Rel} {a1 a2 a3 a4 a5 : Option Addr} {c1 c2 c3 c4 c5 : Nat} (h : RelRows y.w E a1 a2 a3 a4 a5) (T : TypeId) :
    ∃ y5 : Since W, y.w.alloc (.cells #[.int .i64 E.f, .int .i64 E.t, .int .i64 E.each, .int .i64 E.r, .int .i64 E.c, .slice a1 E.cells.length c1, .slice a2 E.hid.length c2, .slice a3 E.rows.length c3, .slice a4 E.cols.length c4, .slice a5 E.ws.length c5] T) = y5.w ∧ RelBox y5.w y.w.heap.size E a1 a2 a3 a4 a5 c1 c2 c3 c4 c5 ∧ RelRows y5.w E a1 a2 a3 a4 a5 := by
  obtain ⟨y5, h5⟩ := y.alloc (.cells #[.int .i64 E.f, .int .i64 E.t, .int .i64 E.each, .int .i64 E.r, .int .i64 E.c, .slice a1 E.cells.length c1, .slice a2 E.hid.length c2, .slice a3 E.rows.length c3, .slice a4 E.cols.length c4, .slice a5 E.ws.length c5] T)
  have hb := BoxIs.new y.w [.int .i64 E.f, .int .i64 E.t, .int .i64 E.each, .int .i64 E.r, .int .i64 E.c, .slice a1 E.cells.length c1, .slice a2 E.hid.length c2, .slice a3 E.rows.length c3, .slice a4 E.cols.length c4, .slice a5 E.ws.length c5] T
  have hr := h.to (IsSince.alloc (IsSince.self _) (.cells #[.int .i64 E.f, .int .i64 E.t, .int .i64 E.each, .int .i64 E.r, .int .i64 E.c, .slice a1 E.cells.length c1, .slice a2 E.hid.length c2, .slice a3 E.rows.length c3, .slice a4 E.cols.length c4, .slice a5 E.ws.length c5] T))
  rw [h5] at hb hr
  exact ⟨y5, h5, hb, hr⟩
/-- or ahead of it -/
theorem rel_early {W : World} (y : Since W) {g : Nat} {us : List Value} (hb : BoxIs y.w g us) (hg : W.heap.size ≤ g) (hl : us.length = 10) {E : Rel} {a1 a2 a3 a4 a5 : Option Addr} {c1 c2 c3 c4 c5 : Nat} (h : RelRows y.w E a1 a2 a3 a4 a5) (hf : ∀ b, a1 = some b ∨ a2 = some b ∨ a3 = some b ∨ a4 = some b ∨ a5 = some b → b.block ≠ g) :
    ∃ y5 : Since W, y.w.setCells g 0 [.int .i64 E.f, .int .i64 E.t, .int .i64 E.each, .int .i64 E.r, .int .i64 E.c, .slice a1 E.cells.length c1, .slice a2 E.hid.length c2, .slice a3 E.rows.length c3, .slice a4 E.cols.length c4, .slice a5 E.ws.length c5] = y5.w ∧ RelBox y5.w g E a1 a2 a3 a4 a5 c1 c2 c3 c4 c5 ∧ RelRows y5.w E a1 a2 a3 a4 a5 := by
  obtain ⟨z, hz, hb2, _⟩ := hb.stored (B := W) ⟨y, rfl⟩ hg [.int .i64 E.f, .int .i64 E.t, .int .i64 E.each, .int .i64 E.r, .int .i64 E.c, .slice a1 E.cells.length c1, .slice a2 E.hid.length c2, .slice a3 E.rows.length c3, .slice a4 E.cols.length c4, .slice a5 E.ws.length c5] (by rw [hl]; rfl)
  have hr := RelRows.sets hf [.int .i64 E.f, .int .i64 E.t, .int .i64 E.each, .int .i64 E.r, .int .i64 E.c, .slice a1 E.cells.length c1, .slice a2 E.hid.length c2, .slice a3 E.rows.length c3, .slice a4 E.cols.length c4, .slice a5 E.ws.length c5] 0 y.w h
  rw [hz] at hr
  exact ⟨z, hz, hb2, hr⟩
end Go.Proofs.YtdkcclngionihaaDoor
