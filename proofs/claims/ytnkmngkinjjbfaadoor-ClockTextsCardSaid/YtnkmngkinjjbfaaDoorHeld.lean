/- A class of worlds by name: what is later than W; facts said of it serve in regions that draw their order: generic, no program in sight. -/
import Derived.Test.YtnkmngkinjjbfaaDoorLib
import Derived.Deep.RegionHeld3
set_option linter.all false
namespace Go.Proofs.YtnkmngkinjjbfaaDoor
open Go.RowKit
/-- w is later than W -/
def IsSince (W w : World) : Prop := ∃ y : Since W, w = y.w
theorem IsSince.mk' {W w : World} (h : ∃ y : Since W, w = y.w) : IsSince W w := h
theorem IsSince.of {W : World} (y : Since W) : IsSince W y.w := ⟨y, rfl⟩
theorem IsSince.drew {W : World} (y : Since W) : IsSince W y.w.drew := y.drew
theorem IsSince.self (W : World) : IsSince W W := ⟨Since.self W, rfl⟩
theorem IsSince.alloc {W w : World} (h : IsSince W w) (o : Obj) : IsSince W (w.alloc o) := by
  obtain ⟨y, rfl⟩ := h; exact y.alloc o
theorem IsSince.drew' {W w : World} (h : IsSince W w) : IsSince W w.drew := by
  obtain ⟨y, rfl⟩ := h; exact y.drew
theorem IsSince.set {W w : World} (h : IsSince W w) (a : Addr) (ha : W.heap.size ≤ a.block) (v : Value) : IsSince W (w.setCell a v) := by
  obtain ⟨y, rfl⟩ := h; exact y.set a ha v
theorem IsSince.size {W w : World} (h : IsSince W w) : W.heap.size ≤ w.heap.size := by
  obtain ⟨y, rfl⟩ := h; exact y.b.size
theorem IsSince.cell {W w : World} {a : Addr} {v : Value} (h : ∀ y : Since W, y.w.cell? a = some v) (hw : IsSince W w) : w.cell? a = some v := by
  obtain ⟨y, rfl⟩ := hw; exact h y
theorem Since.cellTo {Y W : World} (hst : ∃ zz : Since Y, W = zz.w) {a : Addr} {v : Value} (h : ∀ q : Since Y, q.w.cell? a = some v) : ∀ q : Since W, q.w.cell? a = some v := fun q => by
  obtain ⟨zz, rfl⟩ := hst; obtain ⟨z, e⟩ := zz.trans q; rw [e]; exact h z
theorem Since.grownBy {w : World} (z : Since w) : w.grownBy z.w none := ⟨z.b.os, z.b.tape, z.b.output, z.b.size, fun i hi _ => z.b.block i hi⟩
end Go.Proofs.YtnkmngkinjjbfaaDoor
