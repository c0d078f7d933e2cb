/- Worlds with new blocks and draws, no more; comparing numbers: what the library's sort asks of a comparison. -/
import Derived.Test.YtnkmngkinjjbfaaDoorHeld
import Derived.Deep.QuietTactic
import Derived.BigQuiet
import Derived.Shelf.SlSortCmp.NoneTotal
import Derived.Test.YtnkmngkinjjbfaaDoorProg
set_option linter.all false
namespace Go.Proofs.YtnkmngkinjjbfaaDoor
open Go.RowKit Go.Sort

/-- new blocks and draws, no more -/
def Gr (w w' : World) : Prop := ∃ (q : Nat) (os : Array Obj), w' = grow (w.drewN q) os
theorem Gr.refl (w : World) : Gr w w := ⟨0, #[], by simp [grow, World.drewN]⟩
theorem Gr.trans {a b c : World} (h : Gr a b) (k : Gr b c) : Gr a c := by
  obtain ⟨q, os, rfl⟩ := h
  obtain ⟨q', os', rfl⟩ := k
  exact ⟨q + q', os ++ os', by simp [grow, World.drewN, Nat.add_assoc, Array.append_assoc]⟩
theorem Gr.alloc (w : World) (o : Obj) : Gr w (w.alloc o) := ⟨0, #[o], by rw [alloc_eq_grow]; rfl⟩
theorem Gr.drewN (w : World) (q : Nat) : Gr w (w.drewN q) := ⟨q, #[], by rw [grow_empty]⟩
theorem Gr.since {w w' : World} (h : Gr w w') : ∃ y : Since w, w' = y.w := by
  obtain ⟨q, os, rfl⟩ := h
  exact ⟨⟨grow (w.drewN q) os, ⟨rfl, rfl, rfl, by simp [grow, World.drewN], fun b hb => by simp [grow, World.drewN, Array.getElem?_append, hb]⟩⟩, rfl⟩

structure GrW (w0 : World) where
  w : World
  g : Gr w0 w
instance (w0 : World) : Nonempty (GrW w0) := ⟨⟨w0, Gr.refl _⟩⟩
theorem wp_region_gr {P : Program} {id : Nat} {Q : Exit → Act → World → Prop} {a : Act} {w0 : World} {x : GrW w0} {l : List Oper} (hm : P.follows .mixedOrders = true) (hB : Region.lexB .any l.toArray = true)
    (h : wpQuiet P l.toArray (fun w' => ∃ y : GrW w0, w' = y.w) (fun a' => ∀ w', (∃ y : GrW w0, w' = y.w) → Q .normal a' w') l a) : (Code.region id l.toArray true).wp P Q a x.w :=
  wp_region_quiet (C := fun w' => ∃ y : GrW w0, w' = y.w) hm hB ⟨⟨_, x.g.trans (Gr.drewN x.w 1)⟩, rfl⟩ (by simpa using h)
theorem GrW.refl (w0 : World) : ∃ y : GrW w0, w0 = y.w := ⟨⟨w0, Gr.refl _⟩, rfl⟩
theorem GrW.step {w0 : World} (x : GrW w0) {w : World} (h : Gr x.w w) : ∃ y : GrW w0, w = y.w := ⟨⟨w, x.g.trans h⟩, rfl⟩
theorem GrW.cell {w0 : World} {a : Addr} {v : Value} (h : w0.cell? a = some v) (y : GrW w0) : y.w.cell? a = some v := by
  obtain ⟨z, e⟩ := y.g.since
  rw [e]
  have hb := World.block_lt_of_cell? w0 _ h
  rw [z.b.cell (p := a) hb]; exact h
theorem Gr.drew' {a b : World} (h : Gr a b) : Gr a b.drew := h.trans (Gr.drewN b 1)
theorem Gr.alloc' {a b : World} (h : Gr a b) (o : Obj) : Gr a (b.alloc o) := h.trans (Gr.alloc b o)
theorem Gr.cell {W w : World} {a : Addr} {v : Value} (h : W.cell? a = some v) (hw : Gr W w) : w.cell? a = some v := GrW.cell h ⟨w, hw⟩
/-- a number before another one -/
def ccmp (x y : Int) : Int := if x < y then -1 else if y < x then 1 else 0
theorem nan_calls (x : Int) (w : World) : Calls Tryd.prog 57 #[.int .i64 x] w fun e w' => e = .returned (.bool false) ∧ w = w' := by
  have h : (x != x) = false := by simp
  go_enter Tryd.func57, Tryd.ntmps57
  go_wp2_with fail
  go_ret
  exact ⟨rfl, rfl⟩
theorem ccmp_calls (x y : Int) (w : World) : Calls Tryd.prog 49 #[.int .i64 x, .int .i64 y] w fun e w' => e = .returned (.int .i64 (ccmp x y)) ∧ w = w' := by
  rcases (by omega : x < y ∨ (¬ x < y ∧ y < x) ∨ (¬ x < y ∧ ¬ y < x)) with h | ⟨h, h'⟩ | ⟨h, h'⟩
  · have hc := Lib.hid (show ccmp x y = -1 from by unfold ccmp; rw [if_pos h])
    go_enter Tryd.func49, Tryd.ntmps49
    go_wp2_with (go_at_call 57; refine (nan_calls _ _).mono ?_; rintro _ _ ⟨rfl, rfl⟩)
    go_ret
    exact ⟨ret_int hc.out.symm, rfl⟩
  · have hc := Lib.hid (show ccmp x y = 1 from by unfold ccmp; rw [if_neg h, if_pos h'])
    have h2 : y ≤ x := by omega
    go_enter Tryd.func49, Tryd.ntmps49
    go_wp2_with (go_at_call 57; refine (nan_calls _ _).mono ?_; rintro _ _ ⟨rfl, rfl⟩)
    go_ret
    exact ⟨ret_int hc.out.symm, rfl⟩
  · have hc := Lib.hid (show ccmp x y = 0 from by unfold ccmp; rw [if_neg h, if_neg h'])
    have h2 : y ≤ x := by omega
    have h3 : x ≤ y := by omega
    go_enter Tryd.func49, Tryd.ntmps49
    go_wp2_with (go_at_call 57; refine (nan_calls _ _).mono ?_; rintro _ _ ⟨rfl, rfl⟩)
    go_ret
    exact ⟨ret_int hc.out.symm, rfl⟩

end Go.Proofs.YtnkmngkinjjbfaaDoor
