/- The plain mathematics of replicas: what a list of events that was built by adding obeys; up to which number all events of a device are there; the horizon. -/
import Derived.Test.YtcpfogbjbinjcaaGsSpec
set_option linter.all false
namespace Go.Proofs.Ytcpfogbjbinjcaa

/-- the list was built by adding events for n devices -/
structure Inv (n : Int) (l : List Ev) : Prop where
  rng : ∀ x ∈ l, 0 ≤ x.d ∧ x.d < n ∧ rngB x = true
  keys : ∀ x ∈ l, ∀ y ∈ l, sk x y = true → x = y
  time : ∀ x ∈ l, ∀ y ∈ l, late x y = false
  nodup : l.Nodup
  len : l.length ≤ 512
theorem inv_nil (n : Int) : Inv n [] := ⟨by simp, by simp, by simp, List.nodup_nil, by simp⟩
theorem rngB_iff (e : Ev) : rngB e = true ↔ 1 ≤ e.q ∧ e.q ≤ 1048576 ∧ 0 ≤ e.a ∧ e.a ≤ e.t ∧ e.t ≤ 4294943999 := by simp [rngB, and_assoc]
theorem late_iff (x e : Ev) : late x e = true ↔ x.d = e.d ∧ ((x.q < e.q ∧ e.a < x.a) ∨ (e.q < x.q ∧ x.a < e.a)) := by simp [late]
theorem late_false {x e : Ev} : late x e = false ↔ (x.d = e.d → x.q < e.q → x.a ≤ e.a) ∧ (x.d = e.d → e.q < x.q → e.a ≤ x.a) := by
  cases h : late x e
  · simp only [true_iff]
    have : ¬ late x e = true := by rw [h]; simp
    rw [late_iff] at this
    exact ⟨fun h1 h2 => by omega, fun h1 h2 => by omega⟩
  · rw [late_iff] at h
    simp only [Bool.true_eq_false, false_iff]
    intro hh; obtain ⟨hd, h⟩ := h
    rcases h with h | h
    · have := hh.1 hd h.1; omega
    · have := hh.2 hd h.1; omega
theorem late_comm {x e : Ev} (h : late x e = false) : late e x = false := by
  rw [late_false] at h ⊢
  exact ⟨fun h1 h2 => h.2 h1.symm h2, fun h1 h2 => h.1 h1.symm h2⟩
theorem late_self (x : Ev) : late x x = false := by rw [late_false]; exact ⟨fun _ h => (by omega), fun _ h => (by omega)⟩
theorem sk_self (x : Ev) : sk x x = true := by simp [sk]
theorem sk_comm {x y : Ev} (h : sk x y = true) : sk y x = true := by rw [sk_iff] at h ⊢; exact ⟨h.1.symm, h.2.symm⟩
theorem fitsB_iff (l : List Ev) (e : Ev) : fitsB l e = true ↔ ∀ x ∈ l, late x e = false := by simp [fitsB]
theorem findE_none (l : List Ev) (e : Ev) : findE l e = none ↔ ∀ x ∈ l, sk x e = false := by simp [findE]
theorem findE_some {l : List Ev} {e x : Ev} (h : findE l e = some x) : x ∈ l ∧ sk x e = true := ⟨List.mem_of_find?_eq_some h, by have := List.find?_some (p := fun y => sk y e) h; exact this⟩
theorem findE_mem {n : Int} {l : List Ev} (hI : Inv n l) {e x : Ev} (hx : x ∈ l) (hs : sk x e = true) : findE l e = some x := by
  cases h : findE l e with
  | none => rw [findE_none] at h; have := h x hx; rw [hs] at this; cases this
  | some y =>
    obtain ⟨h1, h2⟩ := findE_some h
    rw [sk_iff] at hs h2
    rw [hI.keys y h1 x hx ((sk_iff _ _).2 ⟨by omega, by omega⟩)]

/-- the errors of adding, by cases -/
theorem addE_dev {n : Int} {l : List Ev} {e : Ev} (h : e.d < 0 ∨ n ≤ e.d) : addE n l e = 7 := by unfold addE; rw [if_pos h]
theorem addE_rng {n : Int} {l : List Ev} {e : Ev} (h : ¬ (e.d < 0 ∨ n ≤ e.d)) (h2 : rngB e = false) : addE n l e = 1 := by unfold addE; rw [if_neg h, if_pos h2]
theorem addE_found {n : Int} {l : List Ev} {e x : Ev} (h : ¬ (e.d < 0 ∨ n ≤ e.d)) (h2 : rngB e = true) (h3 : findE l e = some x) : addE n l e = if x = e then 0 else 21 := by
  unfold addE; rw [if_neg h, if_neg (by rw [h2]; simp), h3]
theorem addE_order {n : Int} {l : List Ev} {e : Ev} (h : ¬ (e.d < 0 ∨ n ≤ e.d)) (h2 : rngB e = true) (h3 : findE l e = none) (h4 : fitsB l e = false) : addE n l e = 9 := by
  unfold addE; rw [if_neg h, if_neg (by rw [h2]; simp), h3]; simp [h4]
theorem addE_full {n : Int} {l : List Ev} {e : Ev} (h : ¬ (e.d < 0 ∨ n ≤ e.d)) (h2 : rngB e = true) (h3 : findE l e = none) (h4 : fitsB l e = true) (h5 : 512 ≤ l.length) : addE n l e = 8 := by
  unfold addE; rw [if_neg h, if_neg (by rw [h2]; simp), h3]; simp [h4, h5]
theorem addE_new {n : Int} {l : List Ev} {e : Ev} (h : ¬ (e.d < 0 ∨ n ≤ e.d)) (h2 : rngB e = true) (h3 : findE l e = none) (h4 : fitsB l e = true) (h5 : ¬ 512 ≤ l.length) : addE n l e = 0 := by
  unfold addE; rw [if_neg h, if_neg (by rw [h2]; simp), h3]; simp [h4]; omega
theorem freshB_iff {n : Int} {l : List Ev} {e : Ev} : freshB n l e = true ↔ ¬ (e.d < 0 ∨ n ≤ e.d) ∧ rngB e = true ∧ findE l e = none ∧ fitsB l e = true ∧ ¬ 512 ≤ l.length := by
  unfold freshB
  by_cases h : e.d < 0 ∨ n ≤ e.d
  · simp [addE_dev h, h]
  · cases h2 : rngB e
    · simp [addE_rng h h2]
    · cases h3 : findE l e with
      | some x => simp
      | none =>
        cases h4 : fitsB l e
        · simp [addE_order h h2 h3 h4]
        · by_cases h5 : 512 ≤ l.length
          · simp [addE_full h h2 h3 h4 h5, h5]
          · simp [addE_new h h2 h3 h4 h5, h, h5]
theorem addL_fresh {n : Int} {l : List Ev} {e : Ev} (h : freshB n l e = true) : addL n l e = l ++ [e] := by unfold addL; rw [if_pos h]
theorem addL_same {n : Int} {l : List Ev} {e : Ev} (h : freshB n l e = false) : addL n l e = l := by unfold addL; rw [if_neg (by rw [h]; simp)]
theorem inv_add {n : Int} {l : List Ev} (hI : Inv n l) (e : Ev) : Inv n (addL n l e) := by
  cases h : freshB n l e
  · rw [addL_same h]; exact hI
  · rw [addL_fresh h]
    rw [freshB_iff, findE_none, fitsB_iff] at h
    obtain ⟨h1, h2, h3, h4, h5⟩ := h
    refine ⟨?_, ?_, ?_, ?_, by simp; omega⟩
    · intro x hx
      rcases List.mem_append.1 hx with hx | hx
      · exact hI.rng x hx
      · simp at hx; subst hx; exact ⟨by omega, by omega, h2⟩
    · intro x hx y hy hs
      rcases List.mem_append.1 hx with hx' | hx' <;> rcases List.mem_append.1 hy with hy' | hy'
      · exact hI.keys x hx' y hy' hs
      · simp at hy'; subst hy'; rw [h3 x hx'] at hs; cases hs
      · simp at hx'; subst hx'; have := h3 y hy'; rw [sk_comm hs] at this; cases this
      · simp at hx' hy'; rw [hx', hy']
    · intro x hx y hy
      rcases List.mem_append.1 hx with hx' | hx' <;> rcases List.mem_append.1 hy with hy' | hy'
      · exact hI.time x hx' y hy'
      · simp at hy'; subst hy'; exact h4 x hx'
      · simp at hx'; subst hx'; exact late_comm (h4 y hy')
      · simp at hx' hy'; rw [hx', hy']; exact late_self e
    · rw [List.nodup_append]
      refine ⟨hI.nodup, by simp, fun x hx y hy hxy => ?_⟩
      simp at hy; subst hy; subst hxy
      have := h3 _ hx; rw [sk_self] at this; cases this

/-- more different numbers than elements: not all are there -/
theorem nodup_le : ∀ (a b : List Int), a.Nodup → (∀ x ∈ a, x ∈ b) → a.length ≤ b.length
  | [], b, _, _ => by simp
  | x :: a, b, hn, hs => by
    have hx := hs x (by simp)
    have h1 := nodup_le a (b.erase x) (List.nodup_cons.1 hn).2 (fun y hy => by
      have hne : y ≠ x := fun e => (List.nodup_cons.1 hn).1 (e ▸ hy)
      exact (List.mem_erase_of_ne hne).2 (hs y (by simp [hy])))
    have h2 := List.length_erase_of_mem hx
    have h3 : 0 < b.length := List.length_pos_of_mem hx
    simp only [List.length_cons]; omega
/-- is there event number s of device d? -/
def hasB (l : List Ev) (d s : Int) : Bool := l.any fun x => decide (x.d = d) && decide (x.q = s)
theorem hasB_iff (l : List Ev) (d s : Int) : hasB l d s = true ↔ ∃ x ∈ l, x.d = d ∧ x.q = s := by simp [hasB]
theorem has_le {l : List Ev} {d : Int} {m : Nat} (h : ∀ i : Nat, i < m → hasB l d ((i : Int) + 1) = true) : m ≤ l.length := by
  have h1 := nodup_le ((List.range m).map fun (i : Nat) => (i : Int) + 1) (l.map (·.q)) (by
    rw [List.nodup_iff_pairwise_ne, List.pairwise_map]
    exact List.nodup_range.imp fun h => by omega) (fun x hx => by
    obtain ⟨i, hi, rfl⟩ := List.mem_map.1 hx
    obtain ⟨y, hy, _, hq⟩ := (hasB_iff _ _ _).1 (h i (List.mem_range.1 hi))
    exact List.mem_map.2 ⟨y, hy, hq⟩)
  simpa using h1
/-- up to which number all events of device d are there -/
def seenTo (l : List Ev) (d : Int) : Nat → Nat
  | 0 => 0
  | f + 1 => if seenTo l d f < f then seenTo l d f else if hasB l d ((f : Int) + 1) then f + 1 else f
def seenN (l : List Ev) (d : Int) : Nat := seenTo l d l.length
theorem seenTo_spec (l : List Ev) (d : Int) : ∀ f, seenTo l d f ≤ f ∧ (∀ i, i < seenTo l d f → hasB l d ((i : Int) + 1) = true) ∧ (seenTo l d f < f → hasB l d ((seenTo l d f : Int) + 1) = false)
  | 0 => ⟨Nat.le_refl _, fun i hi => by simp [seenTo] at hi, fun h => by simp [seenTo] at h⟩
  | f + 1 => by
    obtain ⟨h1, h2, h3⟩ := seenTo_spec l d f
    unfold seenTo
    by_cases hlt : seenTo l d f < f
    · rw [if_pos hlt]; exact ⟨by omega, h2, fun _ => h3 hlt⟩
    · have he : seenTo l d f = f := by omega
      rw [if_neg hlt]
      cases hh : hasB l d ((f : Int) + 1)
      · rw [if_neg (by simp)]
        exact ⟨by omega, fun i hi => h2 i (by omega), fun _ => hh⟩
      · rw [if_pos rfl]
        refine ⟨by omega, fun i hi => ?_, fun h => by omega⟩
        by_cases hif : i < f
        · exact h2 i (by omega)
        · obtain rfl : i = f := by omega
          exact hh
theorem seen_all (l : List Ev) (d : Int) (i : Nat) (h : i < seenN l d) : hasB l d ((i : Int) + 1) = true := (seenTo_spec l d _).2.1 i h
theorem seen_next (l : List Ev) (d : Int) : hasB l d ((seenN l d : Int) + 1) = false := by
  obtain ⟨h1, h2, h3⟩ := seenTo_spec l d l.length
  by_cases h : seenTo l d l.length < l.length
  · exact h3 h
  · cases hh : hasB l d ((seenN l d : Int) + 1)
    · rfl
    · exfalso
      have := has_le (l := l) (d := d) (m := l.length + 1) (fun i hi => by
        by_cases hil : i < l.length
        · exact h2 i (by omega)
        · have e : i = seenN l d := by unfold seenN; omega
          rw [e]; exact hh)
      omega
theorem seen_unique {l : List Ev} {d : Int} {n : Nat} (h1 : ∀ i : Nat, i < n → hasB l d ((i : Int) + 1) = true) (h2 : hasB l d ((n : Int) + 1) = false) : n = seenN l d := by
  rcases Nat.lt_trichotomy n (seenN l d) with h | h | h
  · have := seen_all l d n h; rw [h2] at this; cases this
  · exact h
  · have := h1 _ h; rw [seen_next] at this; cases this
theorem seen_le (l : List Ev) (d : Int) : seenN l d ≤ l.length := (seenTo_spec l d _).1
def seenL (n : Nat) (l : List Ev) : List Int := (List.range n).map fun (d : Nat) => (seenN l (d : Int) : Int)
theorem seenL_length (n : Nat) (l : List Ev) : (seenL n l).length = n := by simp [seenL]
theorem seenL_at {n d : Nat} (l : List Ev) (h : d < n) : at0 (seenL n l) d = seenN l (d : Int) := by
  unfold at0 seenL; simp [List.getD_eq_getElem?_getD, h]
theorem hasB_perm {l m : List Ev} (h : l.Perm m) (d s : Int) : hasB l d s = hasB m d s := by
  rw [Bool.eq_iff_iff, hasB_iff, hasB_iff]
  constructor
  · rintro ⟨x, hx, e⟩; exact ⟨x, h.mem_iff.1 hx, e⟩
  · rintro ⟨x, hx, e⟩; exact ⟨x, h.mem_iff.2 hx, e⟩
theorem seenN_perm {l m : List Ev} (h : l.Perm m) (d : Int) : seenN l d = seenN m d :=
  seen_unique (fun i hi => by rw [← hasB_perm h]; exact seen_all l d i hi) (by rw [← hasB_perm h]; exact seen_next l d)
end Go.Proofs.Ytcpfogbjbinjcaa
