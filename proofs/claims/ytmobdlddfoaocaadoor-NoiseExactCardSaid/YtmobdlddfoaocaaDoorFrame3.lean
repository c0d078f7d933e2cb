/- Opening a slice of booleans: generic. -/
import Derived.Test.YtmobdlddfoaocaaDoorFrame2
namespace Go.Proofs.YtmobdlddfoaocaaDoor
open Go.ChangeShapes Go.WideShapes Go.ChangeAt Go.RowKit

section
variable {H : Type} {enc : TypeId × Value → H} {P : Program}
theorem trod_bool_cell {w : World} {base n : Nat} {spare : Nat → Bool} {held : Bool} {e : TypeId} {a : Addr} {x : DataW H × List MemPlace} (he : P.underlying e = some .bool) (hc : P.cellsOf e = 1) (h : (w.cells? base a (P.cellsOf e)).bind (DataW.trod enc P w base spare held n e) = some x) : ∃ b, w.cell? a = some (.bool b) := by
  rw [hc, Option.bind_eq_some_iff] at h
  obtain ⟨cs, h1, h2⟩ := h
  obtain ⟨b, rfl, _⟩ := DataW.trod_bool he h2
  exact ⟨b, cell_of_cells?_one h1⟩

/-- a slice of booleans that came in as an argument -/
theorem open_bools {w : World} {base b0 : Nat} {r : Reach} {spare : Nat → Bool} {held : Bool} {t e : TypeId} {v : Value} {d : DataW H} {p : List MemPlace} (ht : P.underlying t = some (.slice e)) (he : P.underlying e = some .bool) (hc : P.cellsOf e = 1)
    (hv : Value.okWide P w r b0 t v) (h : DataW.Trod enc P w base spare held t v d p) :
    ∃ (a : Option Addr) (n cap : Nat) (bs : Nat → Bool), v = .slice a n cap ∧ n ≤ cap ∧ cap ≤ 9223372036854775807 ∧ Row w a n fun i => .bool (bs i) := by
  obtain ⟨a0, n0, c0, rfl⟩ := okWide_slice ht hv
  obtain ⟨fuel, hf⟩ := h
  rcases DataW.trod_slice ht (show DataW.trod enc P w base spare held fuel t [.slice a0 n0 c0] = some (d, p) from hf) with ⟨hcs, _⟩ | ⟨a, len, cap, elems, rest, n, _, hcs, _, _, hl, hm, hlen, hel, _, _⟩
  · simp at hcs
    obtain ⟨rfl, rfl, rfl⟩ := hcs
    exact ⟨none, 0, 0, fun _ => false, rfl, Nat.le_refl _, by decide, fun i hi => (by omega)⟩
  · simp at hcs
    obtain ⟨rfl, rfl, rfl⟩ := hcs
    have hcell : ∀ i, i < n0 → ∃ b, w.cell? (a.add i) = some (.bool b) := fun i hi => by
      have h1 := hel i hi
      rw [hc, Nat.mul_one] at h1
      obtain ⟨x, hx⟩ : ∃ x, elems[i]? = some x := ⟨elems[i]'(by omega), List.getElem?_eq_getElem (by omega)⟩
      rw [hx] at h1
      exact trod_bool_cell (P := P) (enc := enc) (base := base) (n := n) (spare := spare) (held := held) he hc (by rw [hc]; exact h1)
    refine ⟨some a, n0, c0, fun i => match w.cell? (a.add i) with | some (.bool b) => b | _ => false, rfl, hl, hm, ?_⟩
    intro i hi
    obtain ⟨b, off, spot⟩ := a
    obtain ⟨q, hq⟩ := hcell i hi
    obtain ⟨q0, hq0⟩ := hcell 0 (by omega)
    have hspot : spot = none := by simpa [Addr.add] using World.cell?_spot hq0
    subst hspot
    have hblk := World.block_lt_of_cell? w _ hq0
    have hadd : ∀ i, Addr.add ⟨b, off, none⟩ i = ⟨b, off + i, none⟩ := fun i => by
      unfold Addr.add; split
      · rename_i h; subst h; rfl
      · rfl
    rw [hadd] at hblk
    refine ⟨b, off, rfl, hblk, ?_⟩
    show w.cell? ⟨b, off + i, none⟩ = some (Value.bool (match w.cell? (Addr.add ⟨b, off, none⟩ i) with | some (.bool b) => b | _ => false))
    rw [hadd] at hq ⊢
    rw [hq]
end
end Go.Proofs.YtmobdlddfoaocaaDoor
