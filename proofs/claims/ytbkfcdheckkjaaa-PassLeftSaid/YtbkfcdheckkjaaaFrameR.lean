/- The frame: opening slices of structs of any fields, part by part: generic, no program in sight. -/
import Derived.Test.YtbkfcdheckkjaaaFrameE
set_option linter.all false
namespace Go.Proofs.Ytbkfcdheckkjaaa
open Go.ChangeShapes Go.WideShapes Go.ChangeAt Go.RowKit

section
variable {H : Type} {enc : TypeId × Value → H} {P : Program}
/-- a slice whose elements open one by one -/
theorem open_sliceG {α : Type} {encA : α → List Value} {Q : α → Prop} {w : World} {base fuel nc : Nat} {spare : Nat → Bool} {held : Bool} {t e : TypeId} {c : Value} {y : DataW H × List MemPlace} (ht : P.underlying t = some (.slice e)) (hc : P.cellsOf e = nc) (h0 : 0 < nc) (hlen : ∀ x, (encA x).length = nc)
    (hE : ∀ fuel cs y, DataW.trod enc P w base spare held fuel e cs = some y → ∃ x, cs = encA x ∧ Q x) (h : DataW.trod enc P w base spare held fuel t [c] = some y) :
    ∃ (a : Option Addr) (l : List α) (cap : Nat), c = .slice a l.length cap ∧ l.length ≤ cap ∧ cap ≤ 9223372036854775807 ∧ (a = none → cap = 0) ∧ Els encA nc w a l ∧ ∀ x ∈ l, Q x := by
  rcases DataW.trod_slice ht h with ⟨hcs, _⟩ | ⟨a, len, cap, elems, rest, n, _, hcs, _, _, hl, hm, hlen', hel, _, _⟩
  · simp at hcs
    subst hcs
    exact ⟨none, [], 0, rfl, Nat.le_refl _, by decide, fun _ => rfl, els_nil _ _, fun x hx => (by cases hx)⟩
  · simp at hcs
    subst hcs
    by_cases hn0 : len = 0
    · subst hn0
      exact ⟨some a, [], cap, rfl, by simp, hm, fun hh => (by cases hh), els_nil _ _, fun x hx => (by cases hx)⟩
    have hspot : a.spot = none := by
      have h1 := hel 0 (by omega)
      rw [hc, Nat.zero_mul] at h1
      have hx : elems[0]? = some (elems[0]'(by omega)) := List.getElem?_eq_getElem (by omega)
      rw [hx, Option.bind_eq_some_iff] at h1
      obtain ⟨cs, h2, h3⟩ := h1
      obtain ⟨_, hcl, hg⟩ := World.cells?_some h2
      have := hg 0 h0
      rw [List.getElem?_eq_getElem (by omega)] at this
      have := World.cell?_spot this
      simpa [Addr.add] using this
    obtain ⟨b, off, spot⟩ := a
    simp only at hspot
    subst hspot
    have hcell : ∀ i, i < len → ∃ x : α, (∀ j u, (encA x)[j]? = some u → w.cell? ⟨b, off + i * nc + j, none⟩ = some u) ∧ Q x := fun i hi => by
      have h1 := hel i hi
      rw [hc] at h1
      have hx : elems[i]? = some (elems[i]'(by omega)) := List.getElem?_eq_getElem (by omega)
      rw [hx, Option.bind_eq_some_iff] at h1
      obtain ⟨cs, h2, h3⟩ := h1
      obtain ⟨_, hcl, hg⟩ := World.cells?_some h2
      obtain ⟨x, rfl, hq⟩ := hE _ _ _ h3
      refine ⟨x, fun j u hu => ?_, hq⟩
      have hj : j < nc := by have := (List.getElem?_eq_some_iff.1 hu).1; rw [hlen] at this; exact this
      have := hg j hj
      rw [hu, addr_add, addr_add] at this
      exact this
    obtain ⟨l, hll, hr⟩ := list_pick hcell
    subst hll
    refine ⟨some ⟨b, off, none⟩, l, cap, rfl, hl, hm, fun hh => (by cases hh), fun i x hx => ?_, fun x hx => ?_⟩
    · have hcs := (hr i x hx).1
      have hsome : ∃ u, (encA x)[0]? = some u := ⟨_, List.getElem?_eq_getElem (by rw [hlen]; exact h0)⟩
      obtain ⟨u, hu⟩ := hsome
      exact ⟨b, off, rfl, World.block_lt_of_cell? w _ (hcs 0 u hu), fun j v hj => hcs j v hj⟩
    · obtain ⟨i, hi⟩ := List.mem_iff_getElem?.1 hx
      exact (hr i x hi).2
/-- the fields of a struct, one by one -/
theorem trod_fields {w : World} {base fuel : Nat} {spare : Nat → Bool} {held : Bool} {t : TypeId} {fs : Array Field} {cs : List Value} {y : DataW H × List MemPlace} {L : List (Nat × TypeId)} (ht : P.underlying t = some (.struct fs)) (hL : (fs.toList.map fun f => (f.offset, f.type)) = L) (h : DataW.trod enc P w base spare held fuel t cs = some y) :
    cs.length = P.cellsOf t ∧ ∀ (i : Nat) (p : Nat × TypeId), L[i]? = some p → ∃ n z, DataW.trod enc P w base spare held n p.2 ((cs.drop p.1).take (P.cellsOf p.2)) = some z := by
  obtain ⟨xs, n, _, _, hlen, hxs, hel⟩ := DataW.trod_struct ht h
  refine ⟨hlen, fun i p hp => ?_⟩
  subst hL
  rw [List.getElem?_map] at hp
  cases hf : fs.toList[i]? with
  | none => rw [hf] at hp; cases hp
  | some f =>
    rw [hf] at hp
    have hp := Option.some.inj hp
    subst hp
    have hf' : fs[i]? = some f := by rw [← Array.getElem?_toList]; exact hf
    have hi : i < fs.size := (Array.getElem?_eq_some_iff.1 hf').1
    have := hel i f hf'
    rw [List.getElem?_eq_getElem (show i < xs.length by omega)] at this
    exact ⟨n, _, this⟩
end
end Go.Proofs.Ytbkfcdheckkjaaa
