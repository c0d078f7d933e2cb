/- The library's sort of structs in the words of this proof: what it takes of a slice of the call's own, what it leaves: generic, no program in sight. -/
import Derived.Test.YtnkmngkinjjbfaaDoorEls
import Derived.Shelf.SlSortCmp.NoneTotal
set_option linter.all false
namespace Go.Proofs.YtnkmngkinjjbfaaDoor
open Go.RowKit Go.Sort

theorem grownBy_sortK {α : Type} [Inhabited α] (enc : α → List Value) (k : Nat) (w : World) (g n : Nat) (d : Array α) (os : Array Obj) : w.grownBy (sortWorldK enc k w g 0 n d os) (some g) := by
  refine ⟨rfl, rfl, rfl, by simp [sortWorldK, putRowK, grow, putRow, mapBlock, Sort.ahead], fun j hj hne => ?_⟩
  have hne' : g ≠ j := fun e => hne (by rw [e])
  have hj' : j < (putRowK enc k (Sort.ahead w n) g 0 d).heap.size := by simpa [putRowK, putRow, mapBlock, Sort.ahead] using hj
  show ((putRowK enc k (Sort.ahead w n) g 0 d).heap ++ os)[j]? = _
  rw [Array.getElem?_append_left hj']
  simp [putRowK, putRow, mapBlock, Sort.ahead, Array.getElem?_modify, hne']
theorem flat_bang {α : Type} [Inhabited α] {enc : α → List Value} {k : Nat} (hk : ∀ x, (enc x).length = k) (h0 : 0 < k) (l : List α) (j : Nat) (hj : j < l.length * k) : (flat enc l)[j]? = some ((enc l.toArray[j / k]!)[j % k]!) := by
  have hi : j / k < l.length := Nat.div_lt_of_lt_mul (by rw [Nat.mul_comm]; exact hj)
  have hm : j % k < k := Nat.mod_lt _ h0
  have e1 : l[j / k]? = some (l.toArray[j / k]!) := by
    rw [List.getElem?_eq_getElem hi]
    simp [hi]
  have e2 : (enc l.toArray[j / k]!)[j % k]? = some ((enc l.toArray[j / k]!)[j % k]!) := by
    have hlen : j % k < (enc l.toArray[j / k]!).length := by rw [hk]; exact hm
    rw [List.getElem?_eq_getElem hlen]
    exact congrArg some (getElem!_pos (enc l.toArray[j / k]!) (j % k) hlen).symm
  have := flat_at hk l (j / k) _ (j % k) _ e1 e2
  rwa [Nat.mul_comm, Nat.div_add_mod] at this
theorem own_holdsK {α : Type} [Inhabited α] {enc : α → List Value} {k : Nat} (hk : ∀ x, (enc x).length = k) (h0 : 0 < k) {w : World} {base : Nat} {e : TypeId} {g n cap : Nat} {l : List α} (h : w.ownsRow base e k (.slice (some ⟨g, 0, none⟩) n cap) n (flat enc l)) : HoldsK enc k w g 0 l.toArray := by
  have hn := (own_els hk h0 h).1
  obtain ⟨hl, ⟨hbad, _⟩ | ⟨g', cap', cur, he, hg, hh, h1, h2, h3, h4⟩⟩ := h
  · cases hbad
  · obtain ⟨rfl, rfl⟩ : g = g' ∧ cap = cap' := by simpa using he
    intro j hj
    rw [size_flatK] at hj
    have hj' : j < l.length * k := by simpa using hj
    have hf := flat_bang hk h0 l j hj'
    rw [← h4, List.getElem?_take] at hf
    split at hf
    · refine ⟨?_, by simp [World.frozen?, hh]⟩
      rw [get_flatK enc k _ _ hj]
      simp only [World.cell?, hh, Nat.zero_add, Option.isSome_none, Bool.false_eq_true, if_false, id]
      rw [← Array.getElem?_toList]; exact hf
    · cases hf
theorem els_of_holdsK {α : Type} [Inhabited α] {enc : α → List Value} {k : Nat} (hk : ∀ x, (enc x).length = k) {w : World} {g : Nat} {d : Array α} (h : HoldsK enc k w g 0 d) (hg : g < w.heap.size) : Els enc k w (some ⟨g, 0, none⟩) d.toList := by
  intro i x hx
  have hi : i < d.size := by have := (List.getElem?_eq_some_iff.1 hx).1; simpa using this
  refine ⟨g, 0, rfl, hg, fun c v hv => ?_⟩
  have hxd : d[i]! = x := by
    rw [getElem!_pos d i hi]
    rw [List.getElem?_eq_getElem (by simpa using hi)] at hx
    simpa using hx
  have := HoldsK.cells h hk hi c v (by rw [hxd]; exact hv)
  rw [Addr.add_lit] at this
  exact this
end Go.Proofs.YtnkmngkinjjbfaaDoor
