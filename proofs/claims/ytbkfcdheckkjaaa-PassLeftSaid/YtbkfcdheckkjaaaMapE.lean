/- Maps whose entries are known: 'm[k]++', 'm[k] = v' for keys that are there or not: generic, no program in sight. -/
import Derived.Test.YtbkfcdheckkjaaaMapW
set_option linter.all false
namespace Go.Proofs.Ytbkfcdheckkjaaa
open Go.RowKit Go.ChangeMaps

section
variable {κ : Type} [DecidableEq κ] {ek : κ → Value} {P : Program} {kt : TypeId} {now : Bool}
theorem lkF_spec {x : κ} {v : Value} : ∀ (l : List (κ × Value)) (i j : Nat), lkF x l i = some (j, v) → i ≤ j ∧ l[j - i]? = some (x, v) ∧ ∀ k p, k < j - i → l[k]? = some p → p.1 ≠ x
  | [], _, _, h => by simp [lkF] at h
  | p :: l, i, j, h => by
    unfold lkF at h
    split at h
    · rename_i hx
      simp only [Option.some.injEq, Prod.mk.injEq] at h
      obtain ⟨rfl, rfl⟩ := h
      exact ⟨Nat.le_refl _, by simp [hx], fun k p hk => by omega⟩
    · rename_i hx
      obtain ⟨h1, h2, h3⟩ := lkF_spec l (i + 1) j h
      refine ⟨by omega, by rw [show j - i = (j - (i + 1)) + 1 by omega]; simpa using h2, fun k q hk hq => ?_⟩
      cases k with
      | zero => simp at hq; subst hq; exact fun e => hx e.symm
      | succ k => exact h3 k q (by omega) (by simpa using hq)
theorem setBlock_self {w : World} {b : Nat} {o : Obj} (h : w.heap[b]? = some o) : setBlock w b o = w := by
  unfold setBlock
  have : w.heap.setIfInBounds b o = w.heap := by
    apply Array.ext_getElem?
    intro i
    rw [Array.getElem?_setIfInBounds]
    split
    · rename_i hi; subst hi
      split
      · exact h.symm
      · rename_i hlt; rw [Array.getElem?_eq_none (by omega)]
    · rfl
  rw [this]
theorem run_entry_old {w : World} {b i : Nat} {l : List (κ × Value)} {t et : TypeId} {v : Value} (K : KeyOps P kt ek now) (h : MapAt ek w b l) (ht : P.underlying t = some (.map kt et)) (x : κ) (hx : lkF x l 0 = some (i, v)) :
    (Instr.mapEntry t (.map (some b)) (ek x)).run P w = .ok (.tuple #[v, .int .i64 i]) w := by
  obtain ⟨-, hl, -⟩ := lkF_spec l 0 i hx
  rw [Nat.sub_zero] at hl
  have h' := h
  unfold MapAt at h
  have he : (entF ek l 0).toArray[i]? = some ⟨ek x, v, i⟩ := by simp [entF_at, hl]
  have hm : ((entF ek l 0).toArray.modify i fun e => { e with key := ek x }) = (entF ek l 0).toArray := by
    apply Array.ext_getElem?
    intro j
    rw [Array.getElem?_modify]
    split
    · rename_i hj; subst hj; rw [he]; rfl
    · rfl
  have hs : (Instr.keyThatStays (ek x) (ek x)).run P w = .ok (ek x) w := by
    unfold Instr.keyThatStays
    rw [K.bits x]; rfl
  simp only [Instr.mapEntry, Sem.run_bind, run_underlying ht, Result.andThen_ok, MapKept.run_getObj_map h, K.chk, run_findKey K, hx, he, Option.map_some, Option.getD_some, hs, MapKept.run_setObj_map _ h, hm]
  have : { w with heap := w.heap.setIfInBounds b (.map (entF ek l 0).toArray l.length) } = w := setBlock_self h'
  rw [this]
  rfl
theorem run_entry_new {w : World} {b : Nat} {l : List (κ × Value)} {t et : TypeId} {z : Value} (K : KeyOps P kt ek now) (h : MapAt ek w b l) (ht : P.underlying t = some (.map kt et)) (hz : ∀ w, (zeroValue et).run P w = .ok z w) (x : κ) (hx : lkF x l 0 = none) :
    (Instr.mapEntry t (.map (some b)) (ek x)).run P w = .ok (.tuple #[z, .int .i64 l.length]) (setBlock w b (.map (entF ek (l ++ [(x, z)]) 0).toArray (l ++ [(x, z)]).length)) := by
  unfold MapAt at h
  simp only [Instr.mapEntry, Sem.run_bind, run_underlying ht, Result.andThen_ok, MapKept.run_getObj_map h, K.chk, run_findKey K, hx, hz, MapKept.run_setObj_map _ h]
  simp [setBlock, entF_append, entF, goInt]
theorem findIdx_born {κ' : Type} {ek' : κ' → Value} {l : List (κ' × Value)} {i : Nat} (hi : i < l.length) : (entF ek' l 0).toArray.findIdx? (fun e => (e.born : Int) == (i : Int)) = some i := by
  rw [Array.findIdx?_eq_some_iff_getElem]
  refine ⟨by simp [entF_length, hi], ?_, fun j hj => ?_⟩
  · have := entF_at ek' l 0 i
    rw [List.getElem?_eq_getElem hi] at this
    have h2 := (List.getElem?_eq_some_iff.1 this).2
    simp only [List.getElem_toArray]
    rw [h2]; simp
  · have := entF_at ek' l 0 j
    rw [List.getElem?_eq_getElem (show j < l.length by omega)] at this
    have h2 := (List.getElem?_eq_some_iff.1 this).2
    simp only [List.getElem_toArray]
    rw [h2]
    simp only [Nat.zero_add, beq_iff_eq]
    omega
theorem entF_set {κ' : Type} {ek' : κ' → Value} (l : List (κ' × Value)) (i : Nat) (x : κ') (v0 v : Value) (hi : l[i]? = some (x, v0)) : (entF ek' l 0).toArray.modify i (fun e => { e with val := v }) = (entF ek' (l.set i (x, v)) 0).toArray := by
  apply Array.ext_getElem?
  intro j
  rw [Array.getElem?_modify]
  simp only [List.getElem?_toArray, entF_at, List.getElem?_set]
  have hlt := (List.getElem?_eq_some_iff.1 hi).1
  by_cases hj : i = j
  · subst hj
    have h9 := (List.getElem?_eq_some_iff.1 hi).2
    simp [hlt, h9]
  · rw [if_neg hj, if_neg hj]
theorem run_entry_store {κ' : Type} {ek' : κ' → Value} {w : World} {b i : Nat} {l : List (κ' × Value)} {t : TypeId} {x : κ'} {v0 : Value} (h : MapAt ek' w b l) (hi : l[i]? = some (x, v0)) (v : Value) :
    (Instr.entryStore t (.map (some b)) (.int .i64 (i : Int)) v).run P w = .ok () (setBlock w b (.map (entF ek' (l.set i (x, v)) 0).toArray (l.set i (x, v)).length)) := by
  unfold MapAt at h
  have hlt := (List.getElem?_eq_some_iff.1 hi).1
  simp only [Instr.entryStore, Sem.run_bind, MapKept.run_getObj_map h, Result.andThen_ok, asInt, asIntOf]
  simp only [Sem.run_pure, Result.andThen_ok, findIdx_born (ek' := ek') hlt, MapKept.run_setObj_map _ h, entF_set l i x v0 v hi, List.length_set]
  rfl
/-- the map behind 'm[x] = v' -/
def mput (x : κ) (v : Value) (l : List (κ × Value)) : List (κ × Value) := match lkF x l 0 with | some (i, _) => l.set i (x, v) | none => l ++ [(x, v)]
theorem lkF_append {x : κ} : ∀ (l m : List (κ × Value)) (i : Nat), lkF x l i = none → lkF x (l ++ m) i = lkF x m (i + l.length)
  | [], m, i, _ => by simp
  | p :: l, m, i, h => by
    unfold lkF at h
    split at h
    · cases h
    · rename_i hx
      simp only [List.cons_append, lkF, if_neg hx, List.length_cons]
      rw [lkF_append l m (i + 1) h, show i + 1 + l.length = i + (l.length + 1) by omega]
theorem lkF_append_some {x : κ} {r : Nat × Value} : ∀ (l m : List (κ × Value)) (i : Nat), lkF x l i = some r → lkF x (l ++ m) i = some r
  | [], _, _, h => by simp [lkF] at h
  | p :: l, m, i, h => by
    simp only [List.cons_append]
    unfold lkF at h ⊢
    split at h
    · rename_i hx; rw [if_pos hx]; exact h
    · rename_i hx; rw [if_neg hx]; exact lkF_append_some l m (i + 1) h
theorem lkV_set {x y : κ} {v z v0 : Value} : ∀ (l : List (κ × Value)) (i j : Nat), l[i]? = some (x, v0) → (∀ k p, k < i → l[k]? = some p → p.1 ≠ x) → ((lkF y (l.set i (x, v)) j).map (·.2)).getD z = if y = x then v else ((lkF y l j).map (·.2)).getD z
  | [], _, _, h, _ => by simp at h
  | p :: l, 0, j, h, _ => by
    simp at h; subst h
    simp only [List.set_cons_zero]
    unfold lkF
    split <;> simp
  | p :: l, i + 1, j, h, hn => by
    simp only [List.set_cons_succ]
    unfold lkF
    by_cases hy : y = p.1
    · have hp : p.1 ≠ x := hn 0 p (by omega) rfl
      rw [if_pos hy, if_pos hy, if_neg (fun e => hp (hy ▸ e))]
    · rw [if_neg hy, if_neg hy]
      exact lkV_set l i (j + 1) (by simpa using h) (fun k q hk hq => hn (k + 1) q (by omega) (by simpa using hq))
theorem lkV_eq (x : κ) (l : List (κ × Value)) (z : Value) : lkV x l z = ((lkF x l 0).map (·.2)).getD z := by
  unfold lkV; cases lkF x l 0 with
  | none => rfl
  | some r => rfl
theorem lkV_mput (x y : κ) (v z : Value) (l : List (κ × Value)) : lkV y (mput x v l) z = if y = x then v else lkV y l z := by
  unfold mput
  cases hx : lkF x l 0 with
  | some r =>
    obtain ⟨i, v0⟩ := r
    obtain ⟨-, h1, h2⟩ := lkF_spec l 0 i hx
    rw [Nat.sub_zero] at h1 h2
    simp only [lkV_eq]
    exact lkV_set l i 0 h1 h2
  | none =>
    simp only [lkV_eq]
    by_cases hy : y = x
    · subst hy
      rw [lkF_append l _ 0 hx, if_pos rfl]
      simp [lkF]
    · rw [if_neg hy]
      cases hl : lkF y l 0 with
      | some r => rw [lkF_append_some l _ 0 hl]
      | none => rw [lkF_append l _ 0 hl]; simp [lkF, hy]
end
end Go.Proofs.Ytbkfcdheckkjaaa
