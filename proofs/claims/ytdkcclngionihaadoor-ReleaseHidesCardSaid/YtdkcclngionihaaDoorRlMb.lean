/- Maps whose entries are known: the laws at the operations of a walk: range, next, look-up, store: generic, no program in sight. -/
import Derived.Test.YtdkcclngionihaaDoorRlMa
import Derived.Maps.RangeWalk
import Derived.Laws.IdiomCopy
import Derived.Test.YtdkcclngionihaaDoorProg
import Derived.BigQuiet
set_option linter.all false
namespace Go.Proofs.YtdkcclngionihaaDoor
open Go.RowKit Go.ChangeMaps

/-- numbers below n that have come, none twice -/
structure SeenOk (n : Nat) (seen : Array Nat) : Prop where
  nodup : seen.toList.Nodup
  lt : ∀ i ∈ seen, i < n
theorem SeenOk.push {n i : Nat} {seen : Array Nat} (h : SeenOk n seen) (hi : i < n) (hn : i ∉ seen) : SeenOk n (seen.push i) := by
  refine ⟨?_, fun j hj => ?_⟩
  · rw [Array.toList_push, List.nodup_append]
    refine ⟨h.nodup, by simp, fun x hx y hy hxy => ?_⟩
    simp at hy; subst hy; subst hxy
    exact hn (by simpa using hx)
  · rcases Array.mem_push.1 hj with hj | rfl
    · exact h.lt j hj
    · exact hi
theorem nodup_lt_len : ∀ (n : Nat) (l : List Nat), l.Nodup → (∀ x ∈ l, x < n) → l.length ≤ n
  | 0, [], _, _ => Nat.le_refl _
  | 0, x :: l, _, h => by have := h x (by simp); omega
  | n + 1, l, hn, h => by
    by_cases hm : n ∈ l
    · have h1 := nodup_lt_len n (l.erase n) (hn.erase n) (fun x hx => by
        have := h x (List.mem_of_mem_erase hx)
        have hne : x ≠ n := by rintro rfl; exact hn.not_mem_erase hx
        omega)
      have := List.length_erase_of_mem hm
      omega
    · have h1 := nodup_lt_len n l hn (fun x hx => by
        have := h x hx
        have hne : x ≠ n := by rintro rfl; exact hm hx
        omega)
      omega
theorem SeenOk.size {n : Nat} {seen : Array Nat} (h : SeenOk n seen) : seen.size ≤ n := by
  have := nodup_lt_len n seen.toList h.nodup (fun x hx => h.lt x (by simpa using hx))
  simpa using this
/-- how many entries have not come yet -/
def iterN (w : World) (r : Nat) : Nat := match w.heap[r]? with | some (.mapIter _ n seen _) => n - seen.size | _ => 0
theorem IterAt.n {w : World} {b r n : Nat} {seen : Array Nat} (h : IterAt w b r n seen) : iterN w r = n - seen.size := by
  unfold IterAt at h; unfold iterN; rw [h]
theorem IterAt.since {w : World} {b r n : Nat} {seen : Array Nat} (h : IterAt w b r n seen) (y : Since w) : IterAt y.w b r n seen := Since.heap h y
theorem IterAt.to {w W : World} {b r n : Nat} {seen : Array Nat} (h : IterAt w b r n seen) (hW : ∃ z : Since w, W = z.w) : IterAt W b r n seen := by
  obtain ⟨z, rfl⟩ := hW; exact h.since z
theorem MapAt.to {κ : Type} {ek : κ → Value} {w W : World} {b : Nat} {l : List (κ × Value)} (h : MapAt ek w b l) (hW : ∃ z : Since w, W = z.w) : MapAt ek W b l := by
  obtain ⟨z, rfl⟩ := hW; exact Since.heap h z
theorem IterAt.keep {w w' : World} {b r n : Nat} {seen : Array Nat} {row : Option Nat} (h : IterAt w b r n seen) (hg : w.grownBy w' row) (hr : some r ≠ row) : IterAt w' b r n seen :=
  (hg.block r (Array.getElem?_eq_some_iff.1 h).1 hr).trans h
theorem MapAt.since {κ : Type} {ek : κ → Value} {w : World} {b : Nat} {l : List (κ × Value)} (h : MapAt ek w b l) (y : Since w) : MapAt ek y.w b l := Since.heap h y
theorem MapAt.keep {κ : Type} {ek : κ → Value} {w w' : World} {b : Nat} {l : List (κ × Value)} {row : Option Nat} (h : MapAt ek w b l) (hg : w.grownBy w' row) (hr : some b ≠ row) : MapAt ek w' b l :=
  (hg.block b (Array.getElem?_eq_some_iff.1 h).1 hr).trans h
section
variable {κ : Type} {ek : κ → Value} {P : Program} {ops : Array Oper} {rest : List Oper} {o : Oper} {a : Act} {Q : Exit → Act → World → Prop} {w0 w : World} {kt et : TypeId} {b : Nat} {l : List (κ × Value)}
end
end Go.Proofs.YtdkcclngionihaaDoor
/- Maps whose entries are known: 'm[k]++', 'm[k] = v' for keys that are there or not: generic, no program in sight. -/
namespace Go.Proofs.YtdkcclngionihaaDoor
open Go.RowKit Go.ChangeMaps

section
variable {κ : Type} [DecidableEq κ] {ek : κ → Value} {P : Program} {kt : TypeId} {now : Bool}
theorem lkF_spec {x : κ} {v : Value} : ∀ (l : List (κ × Value)) (i j : Nat), lkF x l i = some (j, v) → i ≤ j ∧ l[j - i]? = some (x, v) ∧ ∀ k p, k < j - i → l[k]? = some p → p.1 ≠ x
  | [], _, _, h => by simp [lkF] at h
  | p :: l, i, j, h => by
    unfold lkF at h
    split at h
    · rename_i hx
      simp only [Option.some.injEq, Prod.mk.injEq] at h
      obtain ⟨rfl, rfl⟩ := h
      exact ⟨Nat.le_refl _, by simp [hx], fun k p hk => by omega⟩
    · rename_i hx
      obtain ⟨h1, h2, h3⟩ := lkF_spec l (i + 1) j h
      refine ⟨by omega, by rw [show j - i = (j - (i + 1)) + 1 by omega]; simpa using h2, fun k q hk hq => ?_⟩
      cases k with
      | zero => simp at hq; subst hq; exact fun e => hx e.symm
      | succ k => exact h3 k q (by omega) (by simpa using hq)
theorem setBlock_self {w : World} {b : Nat} {o : Obj} (h : w.heap[b]? = some o) : setBlock w b o = w := by
  unfold setBlock
  have : w.heap.setIfInBounds b o = w.heap := by
    apply Array.ext_getElem?
    intro i
    rw [Array.getElem?_setIfInBounds]
    split
    · rename_i hi; subst hi
      split
      · exact h.symm
      · rename_i hlt; rw [Array.getElem?_eq_none (by omega)]
    · rfl
  rw [this]
theorem run_entry_old {w : World} {b i : Nat} {l : List (κ × Value)} {t et : TypeId} {v : Value} (K : KeyOps P kt ek now) (h : MapAt ek w b l) (ht : P.underlying t = some (.map kt et)) (x : κ) (hx : lkF x l 0 = some (i, v)) :
    (Instr.mapEntry t (.map (some b)) (ek x)).run P w = .ok (.tuple #[v, .int .i64 i]) w := by
  obtain ⟨-, hl, -⟩ := lkF_spec l 0 i hx
  rw [Nat.sub_zero] at hl
  have h' := h
  unfold MapAt at h
  have he : (entF ek l 0).toArray[i]? = some ⟨ek x, v, i⟩ := by simp [entF_at, hl]
  have hm : ((entF ek l 0).toArray.modify i fun e => { e with key := ek x }) = (entF ek l 0).toArray := by
    apply Array.ext_getElem?
    intro j
    rw [Array.getElem?_modify]
    split
    · rename_i hj; subst hj; rw [he]; rfl
    · rfl
  have hs : (Instr.keyThatStays (ek x) (ek x)).run P w = .ok (ek x) w := by
    unfold Instr.keyThatStays
    rw [K.bits x]; rfl
  simp only [Instr.mapEntry, Sem.run_bind, run_underlying ht, Result.andThen_ok, MapKept.run_getObj_map h, K.chk, run_findKey K, hx, he, Option.map_some, Option.getD_some, hs, MapKept.run_setObj_map _ h, hm]
  have : { w with heap := w.heap.setIfInBounds b (.map (entF ek l 0).toArray l.length) } = w := setBlock_self h'
  rw [this]
  rfl
theorem run_entry_new {w : World} {b : Nat} {l : List (κ × Value)} {t et : TypeId} {z : Value} (K : KeyOps P kt ek now) (h : MapAt ek w b l) (ht : P.underlying t = some (.map kt et)) (hz : ∀ w, (zeroValue et).run P w = .ok z w) (x : κ) (hx : lkF x l 0 = none) :
    (Instr.mapEntry t (.map (some b)) (ek x)).run P w = .ok (.tuple #[z, .int .i64 l.length]) (setBlock w b (.map (entF ek (l ++ [(x, z)]) 0).toArray (l ++ [(x, z)]).length)) := by
  unfold MapAt at h
  simp only [Instr.mapEntry, Sem.run_bind, run_underlying ht, Result.andThen_ok, MapKept.run_getObj_map h, K.chk, run_findKey K, hx, hz, MapKept.run_setObj_map _ h]
  simp [setBlock, entF_append, entF, goInt]
theorem findIdx_born {κ' : Type} {ek' : κ' → Value} {l : List (κ' × Value)} {i : Nat} (hi : i < l.length) : (entF ek' l 0).toArray.findIdx? (fun e => (e.born : Int) == (i : Int)) = some i := by
  rw [Array.findIdx?_eq_some_iff_getElem]
  refine ⟨by simp [entF_length, hi], ?_, fun j hj => ?_⟩
  · have := entF_at ek' l 0 i
    rw [List.getElem?_eq_getElem hi] at this
    have h2 := (List.getElem?_eq_some_iff.1 this).2
    simp only [List.getElem_toArray]
    rw [h2]; simp
  · have := entF_at ek' l 0 j
    rw [List.getElem?_eq_getElem (show j < l.length by omega)] at this
    have h2 := (List.getElem?_eq_some_iff.1 this).2
    simp only [List.getElem_toArray]
    rw [h2]
    simp only [Nat.zero_add, beq_iff_eq]
    omega
theorem entF_set {κ' : Type} {ek' : κ' → Value} (l : List (κ' × Value)) (i : Nat) (x : κ') (v0 v : Value) (hi : l[i]? = some (x, v0)) : (entF ek' l 0).toArray.modify i (fun e => { e with val := v }) = (entF ek' (l.set i (x, v)) 0).toArray := by
  apply Array.ext_getElem?
  intro j
  rw [Array.getElem?_modify]
  simp only [List.getElem?_toArray, entF_at, List.getElem?_set]
  have hlt := (List.getElem?_eq_some_iff.1 hi).1
  by_cases hj : i = j
  · subst hj
    have h9 := (List.getElem?_eq_some_iff.1 hi).2
    simp [hlt, h9]
  · rw [if_neg hj, if_neg hj]
theorem run_entry_store {κ' : Type} {ek' : κ' → Value} {w : World} {b i : Nat} {l : List (κ' × Value)} {t : TypeId} {x : κ'} {v0 : Value} (h : MapAt ek' w b l) (hi : l[i]? = some (x, v0)) (v : Value) :
    (Instr.entryStore t (.map (some b)) (.int .i64 (i : Int)) v).run P w = .ok () (setBlock w b (.map (entF ek' (l.set i (x, v)) 0).toArray (l.set i (x, v)).length)) := by
  unfold MapAt at h
  have hlt := (List.getElem?_eq_some_iff.1 hi).1
  simp only [Instr.entryStore, Sem.run_bind, MapKept.run_getObj_map h, Result.andThen_ok, asInt, asIntOf]
  simp only [Sem.run_pure, Result.andThen_ok, findIdx_born (ek' := ek') hlt, MapKept.run_setObj_map _ h, entF_set l i x v0 v hi, List.length_set]
  rfl
/-- the map behind 'm[x] = v' -/
def mput (x : κ) (v : Value) (l : List (κ × Value)) : List (κ × Value) := match lkF x l 0 with | some (i, _) => l.set i (x, v) | none => l ++ [(x, v)]
theorem lkF_append {x : κ} : ∀ (l m : List (κ × Value)) (i : Nat), lkF x l i = none → lkF x (l ++ m) i = lkF x m (i + l.length)
  | [], m, i, _ => by simp
  | p :: l, m, i, h => by
    unfold lkF at h
    split at h
    · cases h
    · rename_i hx
      simp only [List.cons_append, lkF, if_neg hx, List.length_cons]
      rw [lkF_append l m (i + 1) h, show i + 1 + l.length = i + (l.length + 1) by omega]
theorem lkF_append_some {x : κ} {r : Nat × Value} : ∀ (l m : List (κ × Value)) (i : Nat), lkF x l i = some r → lkF x (l ++ m) i = some r
  | [], _, _, h => by simp [lkF] at h
  | p :: l, m, i, h => by
    simp only [List.cons_append]
    unfold lkF at h ⊢
    split at h
    · rename_i hx; rw [if_pos hx]; exact h
    · rename_i hx; rw [if_neg hx]; exact lkF_append_some l m (i + 1) h
theorem lkV_set {x y : κ} {v z v0 : Value} : ∀ (l : List (κ × Value)) (i j : Nat), l[i]? = some (x, v0) → (∀ k p, k < i → l[k]? = some p → p.1 ≠ x) → ((lkF y (l.set i (x, v)) j).map (·.2)).getD z = if y = x then v else ((lkF y l j).map (·.2)).getD z
  | [], _, _, h, _ => by simp at h
  | p :: l, 0, j, h, _ => by
    simp at h; subst h
    simp only [List.set_cons_zero]
    unfold lkF
    split <;> simp
  | p :: l, i + 1, j, h, hn => by
    simp only [List.set_cons_succ]
    unfold lkF
    by_cases hy : y = p.1
    · have hp : p.1 ≠ x := hn 0 p (by omega) rfl
      rw [if_pos hy, if_pos hy, if_neg (fun e => hp (hy ▸ e))]
    · rw [if_neg hy, if_neg hy]
      exact lkV_set l i (j + 1) (by simpa using h) (fun k q hk hq => hn (k + 1) q (by omega) (by simpa using hq))
theorem lkV_eq (x : κ) (l : List (κ × Value)) (z : Value) : lkV x l z = ((lkF x l 0).map (·.2)).getD z := by
  unfold lkV; cases lkF x l 0 with
  | none => rfl
  | some r => rfl
theorem lkV_mput (x y : κ) (v z : Value) (l : List (κ × Value)) : lkV y (mput x v l) z = if y = x then v else lkV y l z := by
  unfold mput
  cases hx : lkF x l 0 with
  | some r =>
    obtain ⟨i, v0⟩ := r
    obtain ⟨-, h1, h2⟩ := lkF_spec l 0 i hx
    rw [Nat.sub_zero] at h1 h2
    simp only [lkV_eq]
    exact lkV_set l i 0 h1 h2
  | none =>
    simp only [lkV_eq]
    by_cases hy : y = x
    · subst hy
      rw [lkF_append l _ 0 hx, if_pos rfl]
      simp [lkF]
    · rw [if_neg hy]
      cases hl : lkF y l 0 with
      | some r => rw [lkF_append_some l _ 0 hl]
      | none => rw [lkF_append l _ 0 hl]; simp [lkF, hy]
end
end Go.Proofs.YtdkcclngionihaaDoor
/- One law more for a statement that draws its order: first moves that may float, then operations that read (or call what only makes memory), then a tail whose order is forced: one walk serves. Generic, no program in sight. -/
namespace Go.Proofs.YtdkcclngionihaaDoor
open Go.RowKit

section
variable {P : Program} {ops : Array Oper} {md : Region.Mode} {C : World → Prop}

def wpAnyC (P : Program) (md : Region.Mode) (ops : Array Oper) (C : World → Prop) (n : Nat) (L : Array Bool → Act → Prop) : Nat → Array Bool → Act → Prop
  | 0, listed, a => L listed a
  | f + 1, listed, a => Region.ready md ops listed ≠ [] ∧ ∀ i ∈ Region.ready md ops listed, i < n ∧ qOp P ops C i (wpAnyC P md ops C n L f (listed.setIfInBounds i true)) a

theorem wpAny_of_headC {n g : Nat} {L : Array Bool → Act → Prop} {Q' : Exit → Act → World → Prop} (hL : ∀ listed a w, C w → L listed a → wpAny P md ops Q' g listed a w) :
    ∀ (f : Nat) (listed : Array Bool) (a : Act) (w : World), C w → wpAnyC P md ops C n L f listed a → wpAny P md ops Q' (f + g) listed a w
  | 0, listed, a, w, hw, h => by rw [Nat.zero_add]; exact hL _ _ _ hw h
  | f + 1, listed, a, w, hw, h => by
    rw [show f + 1 + g = (f + g) + 1 by omega]
    exact ⟨fun h0 => absurd h0 h.1, fun i hi => wpOp_of_qOp hw (fun a' w' hw' h' => wpAny_of_headC hL f _ a' w' hw' h') (h.2 i hi).2⟩

/-- every head operation is waited for by a later head operation, or by the tail's first -/
def sinkOn (md : Region.Mode) (ops : Array Oper) (hd : List Nat) (n : Nat) : Bool :=
  hd.all fun i => decide (i < n) && (List.range (n + 1)).any fun j => decide (i < j) && Region.waitsFor md ops j i && (j == n || hd.contains j)

theorem tail_waitsC {n : Nat} {hd : List Nat} {listed : Array Bool} (hs : sinkOn md ops hd n = true) (hc : Region.chainB md ops n = true) (hn : n < ops.size) (inv : HeadInv md ops n listed) :
    ∀ (d i : Nat), n - i = d → i ∈ hd → i < n → listed.getD i true = false → ∀ t, n ≤ t → t ∉ Region.ready md ops listed := by
  intro d
  induction d using Nat.strongRecOn with
  | _ d ih =>
    intro i hd' him hi hun t ht hr
    obtain ⟨_, ot, hot, hall⟩ := mem_ready.1 hr
    have htlt : t < ops.size := (Array.getElem?_eq_some_iff.1 hot).1
    have h1 := List.all_eq_true.1 hs i him
    simp only [Bool.and_eq_true, decide_eq_true_eq] at h1
    obtain ⟨j, hj, hj2⟩ := List.any_eq_true.1 h1.2
    simp only [Bool.and_eq_true, decide_eq_true_eq, Bool.or_eq_true, beq_iff_eq] at hj2
    obtain ⟨⟨hij, hwait⟩, hcase⟩ := hj2
    obtain ⟨oj, hoj, e, he, hb, hon⟩ := Region.waitsFor_spec hwait
    have hjle : j ≤ n := by have := List.mem_range.1 hj; omega
    have hunl : listed.getD j false = true → False := fun hl => by
      have h2 := inv.closed j oj hoj hl e he hb
      rw [hon, getD_both hun] at h2
      cases h2
    by_cases htn : t = n
    · subst htn
      by_cases hjt : j = t
      · subst hjt
        have : oj = ot := Option.some.inj (hoj.symm.trans hot)
        subst this
        have h2 := hall e he hb
        rw [hon, getD_both hun] at h2
        cases h2
      · have hjh : j ∈ hd := by
          rcases hcase with h | h
          · exact (hjt h).elim
          · simpa using h
        have hjs : j < listed.size := by rw [inv.size]; omega
        have hju : listed.getD j false = false := by
          cases h : listed.getD j false with
          | true => exact (hunl h).elim
          | false => rfl
        exact ih (t - j) (by omega) j rfl hjh (by omega) (getD_in hjs hju) t (Nat.le_refl _) hr
    · have h1 := List.all_eq_true.1 hc t (List.mem_range.2 htlt)
      simp only [Bool.or_eq_true, decide_eq_true_eq] at h1
      rcases h1 with h1 | h1
      · omega
      · obtain ⟨o', ho', e', he', hb', hon'⟩ := Region.waitsFor_spec h1
        have : o' = ot := Option.some.inj (ho'.symm.trans hot)
        subst this
        have h2 := hall e' he' hb'
        rw [hon', getD_both (inv.tail (t - 1) (by omega) (by omega))] at h2
        cases h2

theorem wpAnyC_first {n i : Nat} {hd : List Nat} {oi : Oper} {v : Value} {L : Array Bool → Act → Prop} (hi : ops[i]? = some oi) (hsel : ∀ (j : Nat) (o : Oper) cs b, ops[j]? = some o → o.op ≠ .select cs b)
    (hs : sinkOn md ops hd n = true) (hc : Region.chainB md ops n = true) (hn : n < ops.size) (him : i ∈ hd) (hin : i < n)
    (hdone : ∀ listed a, L listed a → ∀ j ∈ Region.ready md ops listed, n ≤ j) :
    ∀ (f : Nat) (listed : Array Bool) (a : Act), HeadInv md ops n listed →
      (∀ j oj, ops[j]? = some oj → j ≠ i → listed.getD j true = false → (∀ e ∈ oj.after, Region.binds md e = true → e.on ≠ i) → oi.apart ops oj = true) →
      i ∈ Region.ready md ops listed → YieldsIn P ops C oi v a →
      wpAnyC P md ops C n L f (listed.setIfInBounds i true) (a.put oi.dst v) → wpAnyC P md ops C n L (f + 1) listed a := by
  intro f
  induction f with
  | zero =>
    intro listed a inv _ hr hy H
    have hun := (mem_ready.1 hr).1
    refine ⟨fun h => (by rw [h] at hr; cases hr), fun j hj => ?_⟩
    have hjn : j < n := by
      rcases Nat.lt_or_ge j n with h | h
      · exact h
      · exact absurd hj (tail_waitsC hs hc hn inv _ i rfl him hin hun j h)
    refine ⟨hjn, ?_⟩
    by_cases hji : j = i
    · subst hji; exact hy.qOp hi H
    · have := hdone _ _ H j (ready_mono hj hji)
      omega
  | succ f ih =>
    intro listed a inv hfree hr hy H
    have hun := (mem_ready.1 hr).1
    refine ⟨fun h => (by rw [h] at hr; cases hr), fun j hj => ?_⟩
    have hjn : j < n := by
      rcases Nat.lt_or_ge j n with h | h
      · exact h
      · exact absurd hj (tail_waitsC hs hc hn inv _ i rfl him hin hun j h)
    refine ⟨hjn, ?_⟩
    by_cases hji : j = i
    · subst hji; exact hy.qOp hi H
    · have h1 := (H.2 j (ready_mono hj hji)).2
      obtain ⟨hjun, oj, hoj, hall⟩ := mem_ready.1 hj
      have hnot : ∀ e ∈ oj.after, Region.binds md e = true → e.on ≠ i := fun e he hb heq => by
        have h1 := hall e he hb
        rw [heq, getD_both hun] at h1
        cases h1
      have h2 := qOp_put hoj (hfree j oj hoj hji hjun hnot) (fun cs b => hsel i oi cs b hi) (fun cs b => hsel j oj cs b hoj) hy h1
      have hfree' : ∀ k ok, ops[k]? = some ok → k ≠ i → (listed.setIfInBounds j true).getD k true = false →
          (∀ e ∈ ok.after, Region.binds md e = true → e.on ≠ i) → oi.apart ops ok = true := fun k ok hk hki hun hno => by
        refine hfree k ok hk hki ?_ hno
        by_cases hjk : j = k
        · subst hjk; exact hjun
        · rw [getD_set_ne true hjk] at hun; exact hun
      refine qOp_mono (fun a' h3 => ih (listed.setIfInBounds j true) a' (inv.set hj hjn) hfree' (ready_mono hr (Ne.symm hji)) h3.1 ?_) h2
      rw [Array.setIfInBounds_comm _ _ hji]
      exact h3.2

def headB (md : Region.Mode) (ops : Array Oper) (g n : Nat) : List Nat → Array Bool → Bool
  | [], listed => Region.seqB md ops g n listed
  | k :: ks, listed => (ops[k]?).isSome && decide (k < n) && (Region.ready md ops listed).contains k && Region.free md ops listed k && headB md ops g n ks (listed.setIfInBounds k true)

theorem wpAnyC_lex {n g : Nat} {hd : List Nat} {Lq : Act → Prop} (hsel : Region.noSelect ops = true) (hs : sinkOn md ops hd n = true) (hc : Region.chainB md ops n = true) (hn : n < ops.size) :
    ∀ (ks : List Nat) (listed : Array Bool) (a : Act), (∀ k ∈ ks, k ∈ hd) → HeadInv md ops n listed →
    headB md ops g n ks listed = true → wpQuiet P ops C Lq (ks.filterMap fun k => ops[k]?) a →
    wpAnyC P md ops C n (fun listed' a' => Region.seqB md ops g n listed' = true ∧ Lq a') ks.length listed a
  | [], listed, a, _, _, hB, h => ⟨by simpa [headB] using hB, h⟩
  | k :: ks, listed, a, hm, inv, hB, h => by
    simp only [headB, Bool.and_eq_true, decide_eq_true_eq] at hB
    obtain ⟨⟨⟨⟨ho, hkn⟩, hr⟩, hf⟩, hB'⟩ := hB
    obtain ⟨o, h0⟩ := Option.isSome_iff_exists.1 ho
    have hr' : k ∈ Region.ready md ops listed := by simpa using hr
    have hst : qOp P ops C k (wpQuiet P ops C Lq (ks.filterMap fun k => ops[k]?)) a := by
      unfold qOp; simp only [h0]
      simp only [List.filterMap_cons, h0] at h
      exact h
    obtain ⟨v, hy, hK⟩ := yieldsIn_of_qOp h0 hst
    exact wpAnyC_first h0 (Region.noSelect_spec hsel) hs hc hn (hm k (by simp)) hkn (fun listed' a' hL => seqB_ready hL.1) ks.length listed a inv (Region.free_spec h0 hf) hr' hy
      (wpAnyC_lex hsel hs hc hn ks _ _ (fun k hk => hm k (by simp [hk])) (inv.set hr' hkn) hB' hK)

/-- the operation is a move without a guard -/
def isFloat (o : Oper) : Bool := match o.op, o.guard, o.dst with | .move _, none, some _ => true | _, _, _ => false
theorem isFloat_yields {o : Oper} (h : isFloat o = true) (a : Act) : ∃ x d, o.op = .move x ∧ o.guard = none ∧ o.dst = some d ∧ Yields P ops o (a.eval x) a := by
  unfold isFloat at h
  split at h
  · rename_i x d hx hg hd
    exact ⟨x, d, hx, hg, hd, .inl ⟨by simp [Region.wanted, hg], fun w => by rw [BigFrame.run_move x hx]⟩⟩
  · cases h

def floatB (md : Region.Mode) (ops : Array Oper) (g n : Nat) (hd : List Nat) : List Nat → Array Bool → Bool
  | [], listed => headB md ops g n hd listed
  | k :: ks, listed => (match ops[k]? with | some o => isFloat o | none => false) && decide (k < n) && (Region.ready md ops listed).contains k && Region.free md ops listed k && floatB md ops g n hd ks (listed.setIfInBounds k true)

theorem wpAny_floats {n : Nat} {hd : List Nat} {Q : Exit → Act → World → Prop} {tl : List Oper} (hQ : ∀ c a d v w, Q (.panic c) (Act.put a (some d) v) w → Q (.panic c) a w)
    (hsel : Region.noSelect ops = true) (hs : sinkOn md ops hd n = true) (hc : Region.chainB md ops n = true) (hn : n < ops.size)
    (htl : ∀ j, tl[j]? = ops[n + j]?) (hlen : tl.length = ops.size - n) :
    ∀ (fl : List Nat) (listed : Array Bool) (a : Act) (w : World), C w → HeadInv md ops n listed → floatB md ops (ops.size - n) n hd fl listed = true →
    wpQuiet P ops C (fun a' => ∀ w', C w' → wpList P ops Q tl a' w') ((fl ++ hd).filterMap fun k => ops[k]?) a →
    wpAny P md ops Q (fl.length + hd.length + (ops.size - n)) listed a w
  | [], listed, a, w, hw, inv, hB, h => by
    have H := wpAnyC_lex (Lq := fun a' => ∀ w', C w' → wpList P ops Q tl a' w') hsel hs hc hn hd listed a (fun k hk => hk) inv hB h
    have := wpAny_of_headC (Q' := Q) (g := ops.size - n) (fun listed a' w' hw' hL => by
      have := wpAny_of_seq (md := md) (Q' := Q) tl n listed a' w' htl (by rw [hlen]; exact hL.1) (hL.2 w' hw')
      rwa [hlen] at this) _ _ _ w hw H
    simpa using this
  | k :: ks, listed, a, w, hw, inv, hB, h => by
    simp only [floatB, Bool.and_eq_true, decide_eq_true_eq] at hB
    obtain ⟨⟨⟨⟨ho, hkn⟩, hr⟩, hf⟩, hB'⟩ := hB
    cases h0 : ops[k]? with
    | none => rw [h0] at ho; cases ho
    | some o =>
      rw [h0] at ho
      obtain ⟨x, d, hx, hg, hdst, hy⟩ := isFloat_yields (P := P) (ops := ops) ho a
      have hst : qOp P ops C k (wpQuiet P ops C (fun a' => ∀ w', C w' → wpList P ops Q tl a' w') ((ks ++ hd).filterMap fun k => ops[k]?)) a := by
        unfold qOp; simp only [h0]
        simp only [List.cons_append, List.filterMap_cons, h0] at h
        exact h
      obtain ⟨v, hyv, hK⟩ := yieldsIn_of_qOp h0 hst
      have hv : v = a.eval x := by
        rcases hyv with ⟨_, hq⟩ | ⟨hnot, _⟩
        · have := hq w hw
          unfold Oper.quietAt at this
          rw [BigFrame.run_move x hx] at this
          exact this.2.symm
        · simp [Region.wanted, hg] at hnot
      subst hv
      have hr' : k ∈ Region.ready md ops listed := by simpa using hr
      have := wpAny_floats hQ hsel hs hc hn htl hlen ks (listed.setIfInBounds k true) (a.put o.dst (a.eval x)) w hw (inv.set hr' hkn) hB' hK
      rw [show (k :: ks).length + hd.length + (ops.size - n) = (ks.length + hd.length + (ops.size - n)) + 1 by simp; omega]
      exact wpAny_first h0 (Region.noSelect_spec hsel) (fun c a w => by rw [hdst]; exact hQ c a d _ w) _ listed a w (Region.free_spec h0 hf) hr' hy this

/-- the operations of these numbers -/
def picks (l : List Oper) : List Nat → List Oper
  | [] => []
  | k :: ks => l.getD k default :: picks l ks
theorem picks_nil (l : List Oper) : picks l [] = [] := rfl
theorem picks_cons (l : List Oper) (k : Nat) (ks : List Nat) : picks l (k :: ks) = l.getD k default :: picks l ks := rfl
theorem picks_eq (l : List Oper) : ∀ ks : List Nat, (∀ k ∈ ks, k < l.length) → picks l ks = ks.filterMap fun k => l[k]?
  | [], _ => rfl
  | k :: ks, h => by
    have hk : k < l.length := h k (by simp)
    rw [picks_cons, List.filterMap_cons, picks_eq l ks (fun j hj => h j (by simp [hj])), List.getElem?_eq_getElem hk, List.getD_eq_getElem?_getD, List.getElem?_eq_getElem hk]
    rfl

def tailB (md : Region.Mode) (ops : Array Oper) (fl hd : List Nat) (n : Nat) : Bool :=
  (fl ++ hd).all (fun k => decide (k < ops.size)) && Region.noSelect ops && decide (n < ops.size) && sinkOn md ops hd n && Region.chainB md ops n && decide (fl.length + hd.length = n) && floatB md ops (ops.size - n) n hd fl (Array.replicate ops.size false)

/-- **A statement that draws its order: the moves 'fl' float; the operations 'hd' read, or call what keeps the class C; from n on the order is forced.** -/
theorem wp_region_tail {id : Nat} {Q : Exit → Act → World → Prop} {a : Act} {w : World} {l : List Oper} (C : World → Prop) (fl hd : List Nat) (n : Nat) (hm : P.follows .mixedOrders = true) (hB : tailB .any l.toArray fl hd n = true)
    (hQ : ∀ c a d v w, Q (.panic c) (Act.put a (some d) v) w → Q (.panic c) a w) (hC : C { w with drawn := w.drawn + 1 })
    (h : wpQuiet P l.toArray C (fun a' => ∀ w', C w' → wpList P l.toArray Q (l.drop n) a' w') (picks l (fl ++ hd)) a) : (Code.region id l.toArray true).wp P Q a w := by
  simp only [tailB, Bool.and_eq_true, decide_eq_true_eq] at hB
  obtain ⟨⟨⟨⟨⟨⟨hall, hsel⟩, hn⟩, hs⟩, hc⟩, hlen⟩, hf⟩ := hB
  rw [picks_eq l (fl ++ hd) (fun k hk => by simpa using List.all_eq_true.1 hall k hk)] at h
  have inv0 : HeadInv .any l.toArray n (Array.replicate l.toArray.size false) :=
    ⟨by simp, fun j oj _ hl => (by rw [getD_replicate_false] at hl; cases hl), fun t _ ht => getD_in (by simpa using ht) (getD_replicate_false _ _)⟩
  refine wp_region_any hm ?_
  have := wpAny_floats (Q := Q) (tl := l.drop n) hQ hsel hs hc hn (fun j => by simp [List.getElem?_drop]) (by simp) fl _ a _ hC inv0 hf (by simpa using h)
  rwa [show fl.length + hd.length + (l.toArray.size - n) = l.toArray.size by omega] at this
end
end Go.Proofs.YtdkcclngionihaaDoor
/- A block of the call's own whose cells are known and are written: generic, no program in sight. -/
namespace Go.Proofs.YtdkcclngionihaaDoor
open Go.RowKit

/-- block g holds these cells and may be written -/
structure BoxIs (w : World) (g : Nat) (vs : List Value) : Prop where
  lt : g < w.heap.size
  c : ∀ j v, vs[j]? = some v → w.cell? ⟨g, j, none⟩ = some v
  f : ∀ o, w.frozen? ⟨g, o, none⟩ = false
theorem BoxIs.since {w : World} {g : Nat} {vs : List Value} (h : BoxIs w g vs) (y : Since w) : BoxIs y.w g vs :=
  ⟨Nat.lt_of_lt_of_le h.lt y.b.size, fun j v hv => Since.cell (h.c j v hv) h.lt y, fun o => Since.free (h.f o) h.lt y⟩
theorem BoxIs.to {w W : World} {g : Nat} {vs : List Value} (h : BoxIs w g vs) (hW : ∃ z : Since w, W = z.w) : BoxIs W g vs := by
  obtain ⟨z, rfl⟩ := hW; exact h.since z
theorem BoxIs.new (w : World) (vs : List Value) (T : TypeId) : BoxIs (w.alloc (.cells vs.toArray T)) w.heap.size vs := by
  have hh : (w.alloc (.cells vs.toArray T)).heap[w.heap.size]? = some (.cells vs.toArray T) := by show (w.heap.push _)[w.heap.size]? = _; simp
  exact ⟨by simp, fun j v hv => by simp only [World.cell?, hh]; simpa using hv, fun o => by simp only [World.frozen?, hh]; simp⟩
theorem BoxIs.set1 {w : World} {g : Nat} {a u : Value} (h : BoxIs w g [a]) : BoxIs (w.setCell ⟨g, 0, none⟩ u) g [u] := by
  refine ⟨by simpa [World.setCell] using h.lt, fun j v hv => ?_, fun o => by rw [World.frozen?_setCell]; exact h.f o⟩
  have hj : j = 0 := by have := (List.getElem?_eq_some_iff.1 hv).1; simpa using this
  subst hj
  simp at hv; subst hv
  exact World.cell?_setCell_same _ _ _ (h.c 0 a rfl)
theorem setCells_size (g : Nat) : ∀ (vs : List Value) (o : Nat) (w : World), (w.setCells g o vs).heap.size = w.heap.size
  | [], _, _ => rfl
  | v :: vs, o, w => by
    show ((w.setCell ⟨g, o, none⟩ v).setCells g (o + 1) vs).heap.size = _
    rw [setCells_size g vs (o + 1)]
    simp [World.setCell]
theorem BoxIs.sets {w : World} {g : Nat} {vs us : List Value} (h : BoxIs w g vs) (hl : us.length = vs.length) : BoxIs (w.setCells g 0 us) g us := by
  refine ⟨by rw [setCells_size]; exact h.lt, fun j v hv => ?_, fun o => by rw [World.frozen?_setCells]; exact h.f o⟩
  have hj : j < us.length := (List.getElem?_eq_some_iff.1 hv).1
  have := World.cell?_setCells_in g us 0 w (fun i hi => by
    obtain ⟨v, hv⟩ : ∃ v, vs[i]? = some v := ⟨vs[i]'(by omega), List.getElem?_eq_getElem (by omega)⟩
    rw [Nat.zero_add, h.c i v hv]; rfl) j hj
  rw [Nat.zero_add] at this
  rw [this, ← hv, List.getElem?_eq_getElem hj]
theorem Below.setCells' {B : Nat} {a w : World} (h : Below B a w) {g : Nat} (hg : B ≤ g) : ∀ (vs : List Value) (o : Nat), Below B a (w.setCells g o vs)
  | [], _ => h
  | v :: vs, o => by
    show Below B a ((w.setCell ⟨g, o, none⟩ v).setCells g (o + 1) vs)
    exact Below.setCells' (h.setCell (p := ⟨g, o, none⟩) hg v) hg vs (o + 1)
theorem Since.sets {w0 : World} (x : Since w0) (g : Nat) (h : w0.heap.size ≤ g) (vs : List Value) (o : Nat) : ∃ y : Since w0, x.w.setCells g o vs = y.w := ⟨⟨_, Below.setCells' x.b h vs o⟩, rfl⟩
end Go.Proofs.YtdkcclngionihaaDoor
/- A box of several cells whose cells are written one by one; rows of the call's own beside it: generic, no program in sight. -/
namespace Go.Proofs.YtdkcclngionihaaDoor
open Go.RowKit

theorem BoxIs.setj {w : World} {g j : Nat} {vs : List Value} (h : BoxIs w g vs) (hj : j < vs.length) (u : Value) : BoxIs (w.setCell ⟨g, j, none⟩ u) g (vs.set j u) := by
  refine ⟨by simpa [World.setCell] using h.lt, fun i v hv => ?_, fun o => by rw [World.frozen?_setCell]; exact h.f o⟩
  rw [List.getElem?_set] at hv
  by_cases hji : j = i
  · subst hji
    rw [if_pos rfl, if_pos hj] at hv
    cases hv
    exact World.cell?_setCell_same _ _ _ (h.c j _ (List.getElem?_eq_getElem hj))
  · rw [if_neg hji] at hv
    show ((w.setCells g j [u]).cell? _) = _
    rw [World.cell?_setCells_out g [u] j w ⟨g, i, none⟩ (fun _ _ => by simp; omega), h.c i v hv]
theorem own_ltB {w : World} {B e k n : Nat} {v : Value} {xs : List Value} (h : w.ownsRow B e k v n xs) : ∀ b, v.ownBlock = some b → b < w.heap.size := by
  obtain ⟨_, ⟨rfl, _⟩ | ⟨g, cap, cur, rfl, _, hh, _⟩⟩ := h
  · intro b hb; simp [Value.ownBlock] at hb
  · intro b hb
    obtain rfl : g = b := by simpa [Value.ownBlock] using hb
    exact (Array.getElem?_eq_some_iff.1 hh).1
theorem own_setB {w : World} {B e k n : Nat} {v : Value} {xs : List Value} (h : w.ownsRow B e k v n xs) (p : Addr) (u : Value) (hne : ∀ b, v.ownBlock = some b → b ≠ p.block) : (w.setCell p u).ownsRow B e k v n xs := by
  obtain ⟨hl, h | ⟨g, cap, cur, rfl, hB, hh, r⟩⟩ := h
  · exact ⟨hl, .inl h⟩
  · exact ⟨hl, .inr ⟨g, cap, cur, rfl, hB, (Below.heap_setCell w p u g (hne g rfl)).trans hh, r⟩⟩
theorem own_slice {w : World} {B e k n : Nat} {v : Value} {xs : List Value} (h : w.ownsRow B e k v n xs) : ∃ (a : Option Addr) (m c : Nat), v = .slice a m c := by
  obtain ⟨_, ⟨rfl, _⟩ | ⟨g, cap, cur, rfl, _⟩⟩ := h
  · exact ⟨_, _, _, rfl⟩
  · exact ⟨_, _, _, rfl⟩
theorem BoxIs.grown {w w' : World} {g : Nat} {vs : List Value} {row : Option Nat} (h : BoxIs w g vs) (hg : w.grownBy w' row) (hne : some g ≠ row) : BoxIs w' g vs := by
  have hb := hg.block g h.lt hne
  refine ⟨Nat.lt_of_lt_of_le h.lt hg.size, fun j v hv => ?_, fun o => ?_⟩
  · rw [World.cell?_of_block (w := w) (a := ⟨g, j, none⟩) hb]; exact h.c j v hv
  · have := h.f o
    simp only [World.frozen?] at this ⊢
    rw [hb]; exact this
theorem BoxIs.far {w : World} {g : Nat} {vs : List Value} (h : BoxIs w g vs) (p : Addr) (u : Value) (hne : g ≠ p.block) : BoxIs (w.setCell p u) g vs := by
  refine ⟨by simpa [World.setCell] using h.lt, fun j v hv => ?_, fun o => by rw [World.frozen?_setCell]; exact h.f o⟩
  rw [World.cell?_of_block (w := w) (a := ⟨g, j, none⟩) (Below.heap_setCell w p u g hne)]
  exact h.c j v hv
theorem BoxIs.up {w : World} {g : Nat} {vs : List Value} (h : BoxIs w g vs) (o : Obj) : BoxIs (w.alloc o) g vs := h.to (IsSince.alloc (IsSince.self _) _)
theorem BoxIs.drew {w : World} {g : Nat} {vs : List Value} (h : BoxIs w g vs) : BoxIs w.drew g vs := h.to (IsSince.drew' (IsSince.self _))
end Go.Proofs.YtdkcclngionihaaDoor
/- A statement that draws its order and whose last operation alone (number m: it waits for all others) may break the condition S: generic, no program in sight. -/
namespace Go.Proofs.YtdkcclngionihaaDoor
open Go.RowKit

section
variable {P : Program} {ops : Array Oper} {Q : Exit → Act → World → Prop} {md : Region.Mode} {S : World → Prop} {m : Nat}

/-- Whatever order is picked, and S holds behind every operation but number m. -/
def wpAnyM (P : Program) (md : Region.Mode) (ops : Array Oper) (Q : Exit → Act → World → Prop) (S : World → Prop) (m : Nat) : Nat → Array Bool → Act → World → Prop
  | 0, listed, a, w => Region.ready md ops listed = [] ∧ Q .normal a w
  | fuel + 1, listed, a, w =>
    (Region.ready md ops listed = [] → Q .normal a w) ∧
    ∀ i ∈ Region.ready md ops listed, wpOp P ops Q i (fun a' w' => (i = m ∨ S w') ∧ wpAnyM P md ops Q S m fuel (listed.setIfInBounds i true) a' w') a w
theorem wpAny_of_M : ∀ (fuel : Nat) (listed : Array Bool) (a : Act) (w : World), wpAnyM P md ops Q S m fuel listed a w → wpAny P md ops Q fuel listed a w
  | 0, _, _, _, h => h
  | fuel + 1, _, _, _, h => ⟨h.1, fun i hi => wpOp_mono (fun a' w' h' => wpAny_of_M fuel _ a' w' h'.2) (h.2 i hi)⟩
/-- number m waits for number i -/
theorem not_m {i : Nat} {listed : Array Bool} (hw : Region.waitsFor md ops m i = true) (hu : listed.getD i true = false) : m ∉ Region.ready md ops listed := by
  intro hr
  obtain ⟨_, ot, hot, hall⟩ := mem_ready.1 hr
  obtain ⟨oj, hoj, e, he, hb, hon⟩ := Region.waitsFor_spec hw
  have : oj = ot := Option.some.inj (hoj.symm.trans hot)
  subst this
  have h2 := hall e he hb
  rw [hon, getD_both hu] at h2
  cases h2
theorem wpAnyM_first {i : Nat} {oi : Oper} {v : Value} (hi : ops[i]? = some oi) (hsel : ∀ (j : Nat) (o : Oper) cs b, ops[j]? = some o → o.op ≠ .select cs b)
    (hQ : ∀ c a w, Q (.panic c) (a.put oi.dst v) w → Q (.panic c) a w) (hm : Region.waitsFor md ops m i = true) :
    ∀ (fuel : Nat) (listed : Array Bool) (a : Act) (w : World),
      (∀ j oj, ops[j]? = some oj → j ≠ i → listed.getD j true = false → (∀ e ∈ oj.after, Region.binds md e = true → e.on ≠ i) → oi.apart ops oj = true) →
      i ∈ Region.ready md ops listed → YieldsIf P ops S oi v a → S w →
      wpAnyM P md ops Q S m fuel (listed.setIfInBounds i true) (a.put oi.dst v) w → wpAnyM P md ops Q S m (fuel + 1) listed a w := by
  intro fuel
  induction fuel with
  | zero =>
    intro listed a w _ hr hy hS H
    refine ⟨fun h => (by rw [h] at hr; cases hr), fun j hj => ?_⟩
    by_cases hji : j = i
    · subst hji; exact hy.wpOp hi hS ⟨.inr hS, H⟩
    · have := ready_mono hj hji
      rw [H.1] at this
      cases this
  | succ fuel ih =>
    intro listed a w hfree hr hy hS H
    have hun := (mem_ready.1 hr).1
    refine ⟨fun h => (by rw [h] at hr; cases hr), fun j hj => ?_⟩
    by_cases hji : j = i
    · subst hji; exact hy.wpOp hi hS ⟨.inr hS, H⟩
    · have hjm : j ≠ m := fun h => not_m hm hun (h ▸ hj)
      have h1 := H.2 j (ready_mono hj hji)
      obtain ⟨hjun, oj, hoj, hall⟩ := mem_ready.1 hj
      have hnot : ∀ e ∈ oj.after, Region.binds md e = true → e.on ≠ i := fun e he hb heq => by
        have h1 := hall e he hb
        have h0 := (mem_ready.1 hr).1
        rw [heq] at h1
        rcases Nat.lt_or_ge i listed.size with h' | h'
        · simp [h'] at h0 h1; rw [h0] at h1; cases h1
        · simp [Array.getElem?_eq_none h'] at h1
      have h2 := wpOp_putIf hoj (hfree j oj hoj hji hjun hnot) (fun cs b => hsel i oi cs b hi) (fun cs b => hsel j oj cs b hoj) hQ hy h1
      have hfree' : ∀ k ok, ops[k]? = some ok → k ≠ i → (listed.setIfInBounds j true).getD k true = false →
          (∀ e ∈ ok.after, Region.binds md e = true → e.on ≠ i) → oi.apart ops ok = true := fun k ok hk hki hun hno => by
        refine hfree k ok hk hki ?_ hno
        by_cases hjk : j = k
        · subst hjk; exact hjun
        · rw [getD_set_ne true hjk] at hun; exact hun
      refine wpOp_mono (fun a' w' h3 => ?_) h2
      have hS' : S w' := by
        rcases h3.2.1 with h | h
        · exact (hjm h).elim
        · exact h
      refine ⟨.inr hS', ih (listed.setIfInBounds j true) a' w' hfree' (ready_mono hr (Ne.symm hji)) h3.1 hS' ?_⟩
      rw [Array.setIfInBounds_comm _ _ hji]
      exact h3.2.2
/-- take number i first -/
theorem wpAnyM_take {i : Nat} {oi : Oper} {v : Value} {fuel : Nat} {listed : Array Bool} {a : Act} {w : World} (hi : ops[i]? = some oi)
    (hs : Region.noSelect ops = true) (hm : Region.waitsFor md ops m i = true) (hf : Region.free md ops listed i = true) (hr : (Region.ready md ops listed).contains i = true)
    (hQ : ∀ c a w, Q (.panic c) (a.put oi.dst v) w → Q (.panic c) a w) (hS : S w) (hy : YieldsIf P ops S oi v a)
    (h : wpAnyM P md ops Q S m fuel (listed.setIfInBounds i true) (a.put oi.dst v) w) : wpAnyM P md ops Q S m (fuel + 1) listed a w :=
  wpAnyM_first hi (Region.noSelect_spec hs) hQ hm fuel listed a w (Region.free_spec hi hf) (by simpa using hr) hy hS h
/-- number i alone may come up -/
theorem wpAnyM_one {i : Nat} {o : Oper} {fuel : Nat} {listed : Array Bool} {a : Act} {w : World} (hr : Region.ready md ops listed = [i]) (ho : ops[i]? = some o)
    (h : ∀ K' : Act → World → Prop, Shut (∀ a w, (i = m ∨ S w) → ((i = m ∨ S w) → wpAnyM P md ops Q S m fuel (listed.setIfInBounds i true) a w) → K' a w) → if Region.wanted o (yielded ops a.tmps) = true then Oper.wp P o a w K' Q else K' (a.put o.dst undef) w) : wpAnyM P md ops Q S m (fuel + 1) listed a w := by
  refine ⟨fun h1 => (by rw [h1] at hr; cases hr), fun j hj => ?_⟩
  rw [hr] at hj
  obtain rfl : j = i := by simpa using hj
  exact wpOp_step ho (fun K' hK => h K' (fun a w hS hW => hK a w ⟨hS, hW hS⟩))
theorem wpAnyM_done {fuel : Nat} {listed : Array Bool} {a : Act} {w : World} (hr : Region.ready md ops listed = []) (h : Q .normal a w) : wpAnyM P md ops Q S m fuel listed a w := by
  cases fuel with
  | zero => exact ⟨hr, h⟩
  | succ f => exact ⟨fun _ => h, fun i hi => by rw [hr] at hi; cases hi⟩
/-- the beginning -/
theorem wp_region_M {id : Nat} {a : Act} {w : World} (S : World → Prop) (m : Nat) (hm : P.follows .mixedOrders = true) (hS : S w.drew)
    (h : S w.drew → wpAnyM P .any ops Q S m ops.size (Array.replicate ops.size false) a w.drew) : (Code.region id ops true).wp P Q a w :=
  wp_region_any hm (wpAny_of_M _ _ _ _ (h hS))
end
theorem blk_cells {w : World} {g : Nat} (cs : List Value) (T : TypeId) (hg : w.heap.size = g) : ∀ j u, cs[j]? = some u → (w.alloc (.cells cs.toArray T)).cell? ((⟨g, 0, none⟩ : Addr).add j) = some u := by
  subst hg
  exact (Blk.new w _).cells
end Go.Proofs.YtdkcclngionihaaDoor
/- Taking an operation first in a statement that draws its order, when the last one (number m) waits for it over others: generic, no program in sight. -/
namespace Go.Proofs.YtdkcclngionihaaDoor
open Go.RowKit

/-- number i and all that waits for it, over others too -/
def behind (md : Region.Mode) (ops : Array Oper) (i : Nat) : List Nat :=
  (List.range ops.size).foldl (fun acc j => if decide (i < j) && acc.any (fun u => Region.waitsFor md ops j u) then acc ++ [j] else acc) [i]
/-- m is behind i, and none of these is listed -/
def heldBy (md : Region.Mode) (ops : Array Oper) (m : Nat) (listed : Array Bool) (i : Nat) : Bool :=
  (behind md ops i).contains m && (behind md ops i).all (fun u => !(listed.getD u true)) && (behind md ops i).all (fun u => u == i || (behind md ops i).any (fun v => Region.waitsFor md ops u v))
section
variable {P : Program} {ops : Array Oper} {Q : Exit → Act → World → Prop} {md : Region.Mode} {S : World → Prop} {m : Nat}
theorem wpAnyM_firstU {i : Nat} {oi : Oper} {v : Value} (U : List Nat) (hmU : m ∈ U) (hw : ∀ u ∈ U, u ≠ i → ∃ t ∈ U, Region.waitsFor md ops u t = true) (hi : ops[i]? = some oi) (hsel : ∀ (j : Nat) (o : Oper) cs b, ops[j]? = some o → o.op ≠ .select cs b)
    (hQ : ∀ c a w, Q (.panic c) (a.put oi.dst v) w → Q (.panic c) a w) :
    ∀ (fuel : Nat) (listed : Array Bool) (a : Act) (w : World),
      (∀ u ∈ U, listed.getD u true = false) →
      (∀ j oj, ops[j]? = some oj → j ≠ i → listed.getD j true = false → (∀ e ∈ oj.after, Region.binds md e = true → e.on ≠ i) → oi.apart ops oj = true) →
      i ∈ Region.ready md ops listed → YieldsIf P ops S oi v a → S w →
      wpAnyM P md ops Q S m fuel (listed.setIfInBounds i true) (a.put oi.dst v) w → wpAnyM P md ops Q S m (fuel + 1) listed a w := by
  intro fuel
  induction fuel with
  | zero =>
    intro listed a w _ _ hr hy hS H
    refine ⟨fun h => (by rw [h] at hr; cases hr), fun j hj => ?_⟩
    by_cases hji : j = i
    · subst hji; exact hy.wpOp hi hS ⟨.inr hS, H⟩
    · have := ready_mono hj hji
      rw [H.1] at this
      cases this
  | succ fuel ih =>
    intro listed a w hU hfree hr hy hS H
    refine ⟨fun h => (by rw [h] at hr; cases hr), fun j hj => ?_⟩
    by_cases hji : j = i
    · subst hji; exact hy.wpOp hi hS ⟨.inr hS, H⟩
    · have hjU : j ∉ U := fun h => by
        obtain ⟨t, ht, hwt⟩ := hw j h hji
        exact not_m hwt (hU t ht) hj
      have hjm : j ≠ m := fun h => hjU (h ▸ hmU)
      have h1 := H.2 j (ready_mono hj hji)
      obtain ⟨hjun, oj, hoj, hall⟩ := mem_ready.1 hj
      have hnot : ∀ e ∈ oj.after, Region.binds md e = true → e.on ≠ i := fun e he hb heq => by
        have h1 := hall e he hb
        have h0 := (mem_ready.1 hr).1
        rw [heq] at h1
        rcases Nat.lt_or_ge i listed.size with h' | h'
        · simp [h'] at h0 h1; rw [h0] at h1; cases h1
        · simp [Array.getElem?_eq_none h'] at h1
      have h2 := wpOp_putIf hoj (hfree j oj hoj hji hjun hnot) (fun cs b => hsel i oi cs b hi) (fun cs b => hsel j oj cs b hoj) hQ hy h1
      have hfree' : ∀ k ok, ops[k]? = some ok → k ≠ i → (listed.setIfInBounds j true).getD k true = false →
          (∀ e ∈ ok.after, Region.binds md e = true → e.on ≠ i) → oi.apart ops ok = true := fun k ok hk hki hun hno => by
        refine hfree k ok hk hki ?_ hno
        by_cases hjk : j = k
        · subst hjk; exact hjun
        · rw [getD_set_ne true hjk] at hun; exact hun
      refine wpOp_mono (fun a' w' h3 => ?_) h2
      have hS' : S w' := by
        rcases h3.2.1 with h | h
        · exact (hjm h).elim
        · exact h
      refine ⟨.inr hS', ih (listed.setIfInBounds j true) a' w' (fun u hu => ?_) hfree' (ready_mono hr (Ne.symm hji)) h3.1 hS' ?_⟩
      · rw [getD_set_ne true (show j ≠ u from fun h => hjU (h ▸ hu))]; exact hU u hu
      · rw [Array.setIfInBounds_comm _ _ hji]
        exact h3.2.2
/-- take number i first -/
theorem wpAnyM_takeU {i : Nat} {oi : Oper} {v : Value} {fuel : Nat} {listed : Array Bool} {a : Act} {w : World} (hi : ops[i]? = some oi)
    (hs : Region.noSelect ops = true) (hm : heldBy md ops m listed i = true) (hf : Region.free md ops listed i = true) (hr : (Region.ready md ops listed).contains i = true)
    (hQ : ∀ c a w, Q (.panic c) (a.put oi.dst v) w → Q (.panic c) a w) (hS : S w) (hy : YieldsIf P ops S oi v a)
    (h : wpAnyM P md ops Q S m fuel (listed.setIfInBounds i true) (a.put oi.dst v) w) : wpAnyM P md ops Q S m (fuel + 1) listed a w := by
  unfold heldBy at hm
  rw [Bool.and_eq_true, Bool.and_eq_true, List.all_eq_true, List.all_eq_true] at hm
  obtain ⟨⟨h1, h2⟩, h3⟩ := hm
  refine wpAnyM_firstU (behind md ops i) (by simpa using h1) (fun u hu hne => ?_) hi (Region.noSelect_spec hs) hQ fuel listed a w (fun u hu => ?_) (Region.free_spec hi hf) (by simpa using hr) hy hS h
  · have := h3 u hu
    rw [Bool.or_eq_true] at this
    rcases this with h | h
    · exact absurd (by simpa using h) hne
    · obtain ⟨t, ht, hw⟩ := List.any_eq_true.1 h
      exact ⟨t, ht, hw⟩
  · have := h2 u hu
    simpa using this
end
end Go.Proofs.YtdkcclngionihaaDoor
/- A result of two cells that lies in memory: generic, no program in sight. -/
namespace Go.Proofs.YtdkcclngionihaaDoor
open Go.RowKit
/-- a struct is stored whole into a block of the call's own -/
theorem set_many {W w : World} (y : Since W) {g : Nat} (vs : List Value) (h : ∀ j, j < vs.length → (y.w.cell? ⟨g, j, none⟩).isSome = true) (hup : ∃ z : Since w, y.w = z.w) (hg : w.heap.size ≤ g) :
    ∃ z : Since w, y.w.setCells g 0 vs = z.w ∧ ∀ j v, vs[j]? = some v → z.w.cell? ⟨g, j, none⟩ = some v := by
  obtain ⟨z0, hz0⟩ := hup
  obtain ⟨z, hz⟩ := z0.sets g hg vs 0
  rw [← hz0] at hz
  refine ⟨z, hz, fun j v hv => ?_⟩
  obtain ⟨hj, he⟩ := List.getElem?_eq_some_iff.1 hv
  have := World.cell?_setCells_in g vs 0 y.w (fun j hj => by rw [Nat.zero_add]; exact h j hj) j hj
  rw [Nat.zero_add, hz, he] at this
  exact this
end Go.Proofs.YtdkcclngionihaaDoor
/- Rides as plain data, and when a ride is valid: no program in sight. -/
namespace Go.Proofs.YtdkcclngionihaaDoor
open Go.RowKit

/-- a leg: bicycle, first and last moment of its beginning, of its end -/
structure Leg where
  b : Int
  f0 : Int
  f1 : Int
  t0 : Int
  t1 : Int
def Leg.cs (x : Leg) : List Value := [.int .i64 x.b, .int .i64 x.f0, .int .i64 x.f1, .int .i64 x.t0, .int .i64 x.t1]
theorem Leg.len (x : Leg) : x.cs.length = 5 := rfl
/-- a pause: first and last moment of its beginning, of its end -/
structure Pse where
  f0 : Int
  f1 : Int
  t0 : Int
  t1 : Int
def Pse.cs (x : Pse) : List Value := [.int .i64 x.f0, .int .i64 x.f1, .int .i64 x.t0, .int .i64 x.t1]
theorem Pse.len (x : Pse) : x.cs.length = 4 := rfl
/-- a ride, with the places of its lists in memory -/
structure Ride where
  id : Int
  rd : Int
  s0 : Int
  s1 : Int
  e0 : Int
  e1 : Int
  op : Bool
  la : Option Addr
  legs : List Leg
  lc : Nat
  pa : Option Addr
  pauses : List Pse
  pc : Nat
  fw : Int
  fp : Int
  wh : Int
  pl : Int
def Ride.cs (x : Ride) : List Value := [.int .i64 x.id, .int .i64 x.rd, .int .i64 x.s0, .int .i64 x.s1, .int .i64 x.e0, .int .i64 x.e1, .bool x.op, .slice x.la x.legs.length x.lc, .slice x.pa x.pauses.length x.pc, .int .i64 x.fw, .int .i64 x.fp, .int .i64 x.wh, .int .i64 x.pl]
theorem Ride.len (x : Ride) : x.cs.length = 13 := rfl
instance : Inhabited Leg := ⟨⟨0, 0, 0, 0, 0⟩⟩
instance : Inhabited Pse := ⟨⟨0, 0, 0, 0⟩⟩
instance : Inhabited Ride := ⟨⟨0, 0, 0, 0, 0, 0, false, none, [], 0, none, [], 0, 0, 0, 0, 0⟩⟩
/-- its lists lie in memory -/
structure Ride.At (w : World) (x : Ride) : Prop where
  l : Els Leg.cs 5 w x.la x.legs
  p : Els Pse.cs 4 w x.pa x.pauses
  lm : x.legs.length ≤ 9223372036854775807
  pm : x.pauses.length ≤ 9223372036854775807
theorem Ride.At.since {w : World} {x : Ride} (h : x.At w) (y : Since w) : x.At y.w := ⟨Since.els h.l y, Since.els h.p y, h.lm, h.pm⟩
theorem Ride.At.to {w W : World} {x : Ride} (h : x.At w) (hW : ∃ z : Since w, W = z.w) : x.At W := by
  obtain ⟨z, rfl⟩ := hW; exact h.since z
/-- a list of rides lies in memory -/
structure RideRow (w : World) (a : Option Addr) (l : List Ride) : Prop where
  c : Els Ride.cs 13 w a l
  r : ∀ x ∈ l, x.At w
theorem RideRow.since {w : World} {a : Option Addr} {l : List Ride} (h : RideRow w a l) (y : Since w) : RideRow y.w a l := ⟨Since.els h.c y, fun x hx => (h.r x hx).since y⟩
theorem RideRow.to {w W : World} {a : Option Addr} {l : List Ride} (h : RideRow w a l) (hW : ∃ z : Since w, W = z.w) : RideRow W a l := by
  obtain ⟨z, rfl⟩ := hW; exact h.since z

/-- an interval of moments is valid -/
def vldS (lo hi : Int) : Bool := decide (0 ≤ lo) && decide (lo ≤ hi) && decide (hi ≤ 4294943999)
theorem vldS_iff (lo hi : Int) : vldS lo hi = true ↔ 0 ≤ lo ∧ lo ≤ hi ∧ hi ≤ 4294943999 := by simp [vldS, and_assoc]
def legV (x : Leg) : Bool := vldS x.f0 x.f1 && vldS x.t0 x.t1
def pseV (x : Pse) : Bool := vldS x.f0 x.f1 && vldS x.t0 x.t1
/-- the numbers of its head lie in their ranges -/
def headV (x : Ride) : Bool := decide (1 ≤ x.id) && decide (x.id ≤ 1000000) && decide (0 ≤ x.rd) && decide (x.rd ≤ 127) && vldS x.s0 x.s1 && vldS x.e0 x.e1
def rangedB (x : Ride) : Bool := headV x && x.legs.all legV && x.pauses.all pseV
/-- the legs follow one another from a to e -/
def chainL : Int → Int → List Leg → Int → Int → Bool
  | a0, a1, [], e0, e1 => decide (a0 = e0) && decide (a1 = e1)
  | a0, a1, x :: l, e0, e1 => decide (x.f0 = a0) && decide (x.f1 = a1) && chainL x.t0 x.t1 l e0 e1
def joinedB (x : Ride) : Bool := decide (1 ≤ x.legs.length) && decide (x.legs.length ≤ 512) && decide (x.pauses.length ≤ 512) && chainL x.s0 x.s1 x.legs x.e0 x.e1
/-- the ends of the legs are in order; the end of the last leg of an open ride does not count -/
def legsO (op : Bool) : List Leg → Bool
  | [] => true
  | x :: l => (decide (x.f0 ≤ x.t0) || (op && l.isEmpty)) && legsO op l
/-- the ends of the pauses are in order from 'last' on; what the end is must be at most e unless the ride is open -/
def psesO (op : Bool) (e : Int) : Int → List Pse → Bool
  | last, [] => op || decide (last ≤ e)
  | last, x :: l => decide (last ≤ x.f0) && ((op && l.isEmpty && decide (x.t0 = 0)) || (decide (x.f0 ≤ x.t0) && psesO op e x.t0 l))
def orderedB (x : Ride) : Bool := legsO x.op x.legs && (x.pauses.isEmpty || psesO x.op x.e0 x.s0 x.pauses)
def stateB (x : Ride) : Bool := (x.op && !(decide (x.e0 = 0) && decide (x.e1 = 0))) || (x.op != decide (x.wh = 3))
/-- the error of a ride -/
def rideE (x : Ride) : Int := if rangedB x = false then 1 else if joinedB x = false then 3 else if orderedB x = false then 9 else if stateB x = true then 12 else 0
end Go.Proofs.YtdkcclngionihaaDoor
/- The cells of legs, pauses and rides that lie in lists in memory: no program in sight. -/
namespace Go.Proofs.YtdkcclngionihaaDoor
open Go.RowKit

structure LegCells (w : World) (b o : Nat) (e : Leg) : Prop where
  c0 : ∀ y : Since w, y.w.cell? ⟨b, o, none⟩ = some (.int .i64 e.b)
  c1 : ∀ y : Since w, y.w.cell? ⟨b, o + 1, none⟩ = some (.int .i64 e.f0)
  c2 : ∀ y : Since w, y.w.cell? ⟨b, o + 2, none⟩ = some (.int .i64 e.f1)
  c3 : ∀ y : Since w, y.w.cell? ⟨b, o + 3, none⟩ = some (.int .i64 e.t0)
  c4 : ∀ y : Since w, y.w.cell? ⟨b, o + 4, none⟩ = some (.int .i64 e.t1)
theorem Els.leg {w : World} {a : Option Addr} {l : List Leg} (h : Els Leg.cs 5 w a l) {k : Nat} {x : Leg} (hk : l[k]? = some x) : ∃ b off, a = some ⟨b, off, none⟩ ∧ LegCells w b (off + k * 5) x := by
  obtain ⟨b, off, ha, hb, hc⟩ := h k x hk
  refine ⟨b, off, ha, ?_⟩
  have hh : ∀ j v, x.cs[j]? = some v → ∀ y : Since w, y.w.cell? ⟨b, off + k * 5 + j, none⟩ = some v := fun j v hv => Since.cell (hc j v hv) hb
  exact ⟨hh 0 _ rfl, hh 1 _ rfl, hh 2 _ rfl, hh 3 _ rfl, hh 4 _ rfl⟩

structure PseCells (w : World) (b o : Nat) (e : Pse) : Prop where
  c0 : ∀ y : Since w, y.w.cell? ⟨b, o, none⟩ = some (.int .i64 e.f0)
  c1 : ∀ y : Since w, y.w.cell? ⟨b, o + 1, none⟩ = some (.int .i64 e.f1)
  c2 : ∀ y : Since w, y.w.cell? ⟨b, o + 2, none⟩ = some (.int .i64 e.t0)
  c3 : ∀ y : Since w, y.w.cell? ⟨b, o + 3, none⟩ = some (.int .i64 e.t1)
theorem Els.pse {w : World} {a : Option Addr} {l : List Pse} (h : Els Pse.cs 4 w a l) {k : Nat} {x : Pse} (hk : l[k]? = some x) : ∃ b off, a = some ⟨b, off, none⟩ ∧ PseCells w b (off + k * 4) x := by
  obtain ⟨b, off, ha, hb, hc⟩ := h k x hk
  refine ⟨b, off, ha, ?_⟩
  have hh : ∀ j v, x.cs[j]? = some v → ∀ y : Since w, y.w.cell? ⟨b, off + k * 4 + j, none⟩ = some v := fun j v hv => Since.cell (hc j v hv) hb
  exact ⟨hh 0 _ rfl, hh 1 _ rfl, hh 2 _ rfl, hh 3 _ rfl⟩

structure RideCells (w : World) (b o : Nat) (e : Ride) : Prop where
  c0 : ∀ y : Since w, y.w.cell? ⟨b, o, none⟩ = some (.int .i64 e.id)
  c1 : ∀ y : Since w, y.w.cell? ⟨b, o + 1, none⟩ = some (.int .i64 e.rd)
  c2 : ∀ y : Since w, y.w.cell? ⟨b, o + 2, none⟩ = some (.int .i64 e.s0)
  c3 : ∀ y : Since w, y.w.cell? ⟨b, o + 3, none⟩ = some (.int .i64 e.s1)
  c4 : ∀ y : Since w, y.w.cell? ⟨b, o + 4, none⟩ = some (.int .i64 e.e0)
  c5 : ∀ y : Since w, y.w.cell? ⟨b, o + 5, none⟩ = some (.int .i64 e.e1)
  c6 : ∀ y : Since w, y.w.cell? ⟨b, o + 6, none⟩ = some (.bool e.op)
  c7 : ∀ y : Since w, y.w.cell? ⟨b, o + 7, none⟩ = some (.slice e.la e.legs.length e.lc)
  c8 : ∀ y : Since w, y.w.cell? ⟨b, o + 8, none⟩ = some (.slice e.pa e.pauses.length e.pc)
  c9 : ∀ y : Since w, y.w.cell? ⟨b, o + 9, none⟩ = some (.int .i64 e.fw)
  c10 : ∀ y : Since w, y.w.cell? ⟨b, o + 10, none⟩ = some (.int .i64 e.fp)
  c11 : ∀ y : Since w, y.w.cell? ⟨b, o + 11, none⟩ = some (.int .i64 e.wh)
  c12 : ∀ y : Since w, y.w.cell? ⟨b, o + 12, none⟩ = some (.int .i64 e.pl)
theorem Els.ride {w : World} {a : Option Addr} {l : List Ride} (h : Els Ride.cs 13 w a l) {k : Nat} {x : Ride} (hk : l[k]? = some x) : ∃ b off, a = some ⟨b, off, none⟩ ∧ RideCells w b (off + k * 13) x := by
  obtain ⟨b, off, ha, hb, hc⟩ := h k x hk
  refine ⟨b, off, ha, ?_⟩
  have hh : ∀ j v, x.cs[j]? = some v → ∀ y : Since w, y.w.cell? ⟨b, off + k * 13 + j, none⟩ = some v := fun j v hv => Since.cell (hc j v hv) hb
  exact ⟨hh 0 _ rfl, hh 1 _ rfl, hh 2 _ rfl, hh 3 _ rfl, hh 4 _ rfl, hh 5 _ rfl, hh 6 _ rfl, hh 7 _ rfl, hh 8 _ rfl, hh 9 _ rfl, hh 10 _ rfl, hh 11 _ rfl, hh 12 _ rfl⟩

theorem all_no {α : Type} {p : α → Bool} {l : List α} {k : Nat} {e : α} (h : l[k]? = some e) (hp : p e = false) : l.all p = false := by
  cases ha : l.all p
  · rfl
  · have := List.all_eq_true.1 ha e (List.mem_of_getElem? h); rw [hp] at this; cases this
theorem all_yes {α : Type} {p : α → Bool} {l : List α} (h : ∀ j, j < l.length → ∀ e, l[j]? = some e → p e = true) : l.all p = true := by
  refine List.all_eq_true.2 fun e he => ?_
  obtain ⟨j, hj⟩ := List.mem_iff_getElem?.1 he
  exact h j (List.getElem?_eq_some_iff.1 hj).1 e hj
theorem upto_next {α : Type} {P : α → Prop} {l : List α} {k : Nat} {e : α} (h : ∀ j, j < k → ∀ e, l[j]? = some e → P e) (he : l[k]? = some e) (hp : P e) : ∀ j, j < k + 1 → ∀ e, l[j]? = some e → P e := by
  intro j hj e' he'
  by_cases hjk : j < k
  · exact h j hjk e' he'
  · obtain rfl : j = k := by omega
    rw [he] at he'; cases he'; exact hp
end Go.Proofs.YtdkcclngionihaaDoor
/- Comparing intervals of moments. -/
namespace Go.Proofs.YtdkcclngionihaaDoor
open Go.RowKit
theorem span_equal (a b c d : Int) (w : World) : (Op.equalIn 10000 56 (.agg #[.int .i64 a, .int .i64 b]) (.agg #[.int .i64 c, .int .i64 d])).run Tryd.prog w = .ok (decide (a = c) && decide (b = d)) w := by
  have hS : Tryd.prog.underlying 56 = some (.struct (Tryd.prog.fieldsOf 56)) := by kernel_rfl
  have hp : Tryd.prog.stoodInHeld 56 = false := by kernel_rfl
  have u3 := Tryd.underlying3
  have a3 := Tryd.isAgg3
  have z3 := Tryd.sizeOf3
  rw [show (10000 : Nat) = 9999 + 1 from rfl, run_equalIn_struct w 9999 56 _ _ hS hp]
  simp only [Program.fieldsOf, Tryd.underlying56]
  go_simp
  by_cases h1 : a = c
  · by_cases h2 : b = d <;> simp [h1, h2]
  · simp [h1]
theorem span_guard (op : BinOp) (a b : Operand) (xs ys : Array Value) (w : World) : (eqGuard op 56 a b (.agg xs) (.agg ys)).run Tryd.prog w = .ok () w := run_eqGuard_agg w op 56 a b xs ys (by kernel_rfl)
end Go.Proofs.YtdkcclngionihaaDoor
/- The frame of the laws about rides: opening rides. -/
namespace Go.Proofs.YtdkcclngionihaaDoor
open Go.ChangeShapes Go.WideShapes Go.ChangeAt Go.RowKit

theorem own : ownKnob Tryd.prog.godebug = none := by kernel_rfl
theorem laidOut : laidOutB Tryd.prog = true := by kernel_rfl
theorem cInt : Tryd.prog.cellsOf 3 = 1 := by kernel_rfl
theorem cBool : Tryd.prog.cellsOf 4 = 1 := by kernel_rfl
theorem cSpan : Tryd.prog.cellsOf 56 = 2 := by kernel_rfl
theorem cLeg : Tryd.prog.cellsOf 98 = 5 := by kernel_rfl
theorem cPause : Tryd.prog.cellsOf 146 = 4 := by kernel_rfl
theorem cRide : Tryd.prog.cellsOf 73 = 13 := by kernel_rfl
theorem cLegs : Tryd.prog.cellsOf 70 = 1 := by kernel_rfl
theorem cPauses : Tryd.prog.cellsOf 71 = 1 := by kernel_rfl
section
variable {H : Type} {enc : TypeId × Value → H} {w : World} {base fuel : Nat} {spare : Nat → Bool} {held : Bool} {cs : List Value} {y : DataW H × List MemPlace}
noncomputable def spanF : Array Field := Tryd.prog.fieldsOf 56
theorem uSpan : Tryd.prog.underlying 56 = some (.struct spanF) := by kernel_rfl
theorem spanL : (spanF.toList.map fun f => (f.offset, f.type)) = [(0, 3), (1, 3)] := by kernel_rfl
noncomputable def legF : Array Field := Tryd.prog.fieldsOf 98
theorem uLeg : Tryd.prog.underlying 98 = some (.struct legF) := by kernel_rfl
theorem legL : (legF.toList.map fun f => (f.offset, f.type)) = [(0, 3), (1, 56), (3, 56)] := by kernel_rfl
noncomputable def pauseF : Array Field := Tryd.prog.fieldsOf 146
theorem uPause : Tryd.prog.underlying 146 = some (.struct pauseF) := by kernel_rfl
theorem pauseL : (pauseF.toList.map fun f => (f.offset, f.type)) = [(0, 56), (2, 56)] := by kernel_rfl
noncomputable def rideF : Array Field := Tryd.prog.fieldsOf 73
theorem uRide : Tryd.prog.underlying 73 = some (.struct rideF) := by kernel_rfl
theorem rideFL : (rideF.toList.map fun f => (f.offset, f.type)) = [(0, 3), (1, 3), (2, 56), (4, 56), (6, 4), (7, 70), (8, 71), (9, 3), (10, 3), (11, 3), (12, 3)] := by kernel_rfl
theorem int1 {c : Value} (h : DataW.trod enc Tryd.prog w base spare held fuel 3 [c] = some y) : ∃ n : Int, c = .int .i64 n ∧ I64 n := by
  obtain ⟨k, hcs, _, hwf⟩ := DataW.trod_int Tryd.underlying3 h
  simp at hcs
  exact ⟨k, hcs, wf_i64 hwf⟩
theorem span1 {c d : Value} (h : DataW.trod enc Tryd.prog w base spare held fuel 56 [c, d] = some y) : ∃ m n : Int, c = .int .i64 m ∧ d = .int .i64 n ∧ I64 m ∧ I64 n := by
  obtain ⟨_, hf⟩ := trod_fields uSpan spanL h
  obtain ⟨_, _, h0⟩ := hf 0 _ rfl
  obtain ⟨_, _, h1⟩ := hf 1 _ rfl
  simp only [cInt] at h0 h1
  obtain ⟨m, rfl, hm⟩ := int1 h0
  obtain ⟨n, rfl, hn⟩ := int1 h1
  exact ⟨m, n, rfl, rfl, hm, hn⟩
def Leg.I (x : Leg) : Prop := I64 x.b ∧ I64 x.f0 ∧ I64 x.f1 ∧ I64 x.t0 ∧ I64 x.t1
def Pse.I (x : Pse) : Prop := I64 x.f0 ∧ I64 x.f1 ∧ I64 x.t0 ∧ I64 x.t1
def Ride.I (x : Ride) : Prop := I64 x.id ∧ I64 x.rd ∧ I64 x.s0 ∧ I64 x.s1 ∧ I64 x.e0 ∧ I64 x.e1 ∧ I64 x.fw ∧ I64 x.fp ∧ I64 x.wh ∧ I64 x.pl ∧ (∀ l ∈ x.legs, l.I) ∧ (∀ p ∈ x.pauses, p.I)
set_option maxRecDepth 20000 in
theorem leg1 (h : DataW.trod enc Tryd.prog w base spare held fuel 98 cs = some y) : ∃ x : Leg, cs = x.cs ∧ x.I := by
  obtain ⟨hl, hf⟩ := trod_fields uLeg legL h
  rw [cLeg] at hl
  match cs, hl with
  | [c0, c1, c2, c3, c4], _ =>
    obtain ⟨_, _, h0⟩ := hf 0 _ rfl
    obtain ⟨_, _, h1⟩ := hf 1 _ rfl
    obtain ⟨_, _, h2⟩ := hf 2 _ rfl
    simp only [cInt, cSpan] at h0 h1 h2
    obtain ⟨b, rfl, i0⟩ := int1 h0
    obtain ⟨f0, f1, rfl, rfl, i1, i2⟩ := span1 h1
    obtain ⟨t0, t1, rfl, rfl, i3, i4⟩ := span1 h2
    exact ⟨⟨b, f0, f1, t0, t1⟩, rfl, i0, i1, i2, i3, i4⟩
set_option maxRecDepth 20000 in
theorem pause1 (h : DataW.trod enc Tryd.prog w base spare held fuel 146 cs = some y) : ∃ x : Pse, cs = x.cs ∧ x.I := by
  obtain ⟨hl, hf⟩ := trod_fields uPause pauseL h
  rw [cPause] at hl
  match cs, hl with
  | [c1, c2, c3, c4], _ =>
    obtain ⟨_, _, h1⟩ := hf 0 _ rfl
    obtain ⟨_, _, h2⟩ := hf 1 _ rfl
    simp only [cSpan] at h1 h2
    obtain ⟨f0, f1, rfl, rfl, i1, i2⟩ := span1 h1
    obtain ⟨t0, t1, rfl, rfl, i3, i4⟩ := span1 h2
    exact ⟨⟨f0, f1, t0, t1⟩, rfl, i1, i2, i3, i4⟩
/-- a ride that came in -/
def RideIn (w : World) (x : Ride) : Prop := x.At w ∧ x.I ∧ (x.la = none → x.lc = 0) ∧ (x.pa = none → x.pc = 0) ∧ x.legs.length ≤ x.lc ∧ x.lc ≤ 9223372036854775807 ∧ x.pauses.length ≤ x.pc ∧ x.pc ≤ 9223372036854775807
set_option maxRecDepth 20000 in
theorem ride1 (h : DataW.trod enc Tryd.prog w base spare held fuel 73 cs = some y) : ∃ x : Ride, cs = x.cs ∧ RideIn w x := by
  obtain ⟨hl, hf⟩ := trod_fields uRide rideFL h
  rw [cRide] at hl
  match cs, hl with
  | [c0, c1, c2, c3, c4, c5, c6, c7, c8, c9, c10, c11, c12], _ =>
    obtain ⟨_, _, h0⟩ := hf 0 _ rfl
    obtain ⟨_, _, h1⟩ := hf 1 _ rfl
    obtain ⟨_, _, h2⟩ := hf 2 _ rfl
    obtain ⟨_, _, h3⟩ := hf 3 _ rfl
    obtain ⟨_, _, h4⟩ := hf 4 _ rfl
    obtain ⟨_, _, h5⟩ := hf 5 _ rfl
    obtain ⟨_, _, h6⟩ := hf 6 _ rfl
    obtain ⟨_, _, h7⟩ := hf 7 _ rfl
    obtain ⟨_, _, h8⟩ := hf 8 _ rfl
    obtain ⟨_, _, h9⟩ := hf 9 _ rfl
    obtain ⟨_, _, h10⟩ := hf 10 _ rfl
    simp only [cInt, cSpan, cBool, cLegs, cPauses] at h0 h1 h2 h3 h4 h5 h6 h7 h8 h9 h10
    obtain ⟨id, rfl, i0⟩ := int1 h0
    obtain ⟨rd, rfl, i1⟩ := int1 h1
    obtain ⟨s0, s1, rfl, rfl, i2, i3⟩ := span1 h2
    obtain ⟨e0, e1, rfl, rfl, i4, i5⟩ := span1 h3
    obtain ⟨op, ho, _⟩ := DataW.trod_bool Tryd.underlying4 h4
    have ho : c6 = .bool op := by simpa using ho
    subst ho
    obtain ⟨la, legs, lc, hlc, l1, l2, l3, l4, l5⟩ := open_sliceG (encA := Leg.cs) (Q := Leg.I) Tryd.underlying70 cLeg (by decide) Leg.len (fun _ _ _ h => leg1 h) h5
    subst hlc
    obtain ⟨pa, pauses, pc, hpc, p1, p2, p3, p4, p5⟩ := open_sliceG (encA := Pse.cs) (Q := Pse.I) Tryd.underlying71 cPause (by decide) Pse.len (fun _ _ _ h => pause1 h) h6
    subst hpc
    obtain ⟨fw, rfl, i6⟩ := int1 h7
    obtain ⟨fp, rfl, i7⟩ := int1 h8
    obtain ⟨wh, rfl, i8⟩ := int1 h9
    obtain ⟨pl, rfl, i9⟩ := int1 h10
    exact ⟨⟨id, rd, s0, s1, e0, e1, op, la, legs, lc, pa, pauses, pc, fw, fp, wh, pl⟩, rfl, ⟨l4, p4, by show legs.length ≤ _; omega, by show pauses.length ≤ _; omega⟩, ⟨i0, i1, i2, i3, i4, i5, i6, i7, i8, i9, l5, p5⟩, l3, p3, l1, l2, p1, p2⟩
end
section
variable {H : Type} {enc : TypeId × Value → H} {w : World} {b0 : Nat} {r : Reach} {held : Bool} {v : Value} {d : DataW H} {p : List MemPlace}
end
end Go.Proofs.YtdkcclngionihaaDoor
/- The walks of the program's check of a ride, first part: intervals, ranges. -/
namespace Go.Proofs.YtdkcclngionihaaDoor
open Go.RowKit

set_option maxHeartbeats 1000000 in
theorem vld_calls (w : World) (x : Since w) (lo hi : Int) :
    Calls Tryd.prog 97 #[.agg #[.int .i64 lo, .int .i64 hi]] x.w fun o w' => o = .returned (.bool (vldS lo hi)) ∧ ∃ y : Since w, w' = y.w := by
  rcases (by omega : lo < 0 ∨ (0 ≤ lo ∧ hi < lo) ∨ (0 ≤ lo ∧ lo ≤ hi ∧ 4294943999 < hi) ∨ (0 ≤ lo ∧ lo ≤ hi ∧ hi ≤ 4294943999)) with h1 | ⟨h1, h2⟩ | ⟨h1, h2, h3⟩ | ⟨h1, h2, h3⟩
  case inr.inr.inr =>
    have hv : vldS lo hi = true := (vldS_iff lo hi).2 ⟨h1, h2, h3⟩
    have Hv := Lib.hid hv; clear hv
    go_enter Tryd.func97, Tryd.ntmps97
    go_wp2_with fail
    go_ret
    exact ⟨ret_bool Hv.out.symm, x.alloc _⟩
  all_goals
    have hv : vldS lo hi = false := by
      cases h : vldS lo hi
      · rfl
      · rw [vldS_iff] at h; omega
    have Hv := Lib.hid hv; clear hv
    go_enter Tryd.func97, Tryd.ntmps97
    go_wp2_with fail
    go_ret
    exact ⟨ret_bool (by first | exact Hv.out.symm | (rw [Hv.out]; exact decide_eq_false (by omega))), x.alloc _⟩
theorem ranged_no {r : Ride} (h : headV r = false ∨ r.legs.all legV = false ∨ r.pauses.all pseV = false) : rangedB r = false := by
  unfold rangedB; rcases h with h | h | h <;> simp [h]
theorem ranged_yes {r : Ride} (h1 : headV r = true) (h2 : r.legs.all legV = true) (h3 : r.pauses.all pseV = true) : rangedB r = true := by
  unfold rangedB; rw [h1, h2, h3]; rfl
set_option maxRecDepth 100000 in
set_option maxHeartbeats 8000000 in
theorem ranged_calls (w : World) (x : Since w) (r : Ride) (h : r.At w) :
    Calls Tryd.prog 80 #[.agg #[.int .i64 r.id, .int .i64 r.rd, .int .i64 r.s0, .int .i64 r.s1, .int .i64 r.e0, .int .i64 r.e1, .bool r.op, .slice r.la r.legs.length r.lc, .slice r.pa r.pauses.length r.pc, .int .i64 r.fw, .int .i64 r.fp, .int .i64 r.wh, .int .i64 r.pl]] x.w fun o w' => o = .returned (.bool (rangedB r)) ∧ ∃ y : Since w, w' = y.w := by
  have HL := Lib.hid h.l; have HP := Lib.hid h.p
  have hlm := h.lm
  have hpm := h.pm
  clear h
  generalize r.la = la at HL ⊢
  generalize r.pa = pa at HP ⊢
  rcases (by omega : r.id < 1 ∨ (1 ≤ r.id ∧ 1000000 < r.id) ∨ (1 ≤ r.id ∧ r.id ≤ 1000000 ∧ r.rd < 0) ∨ (1 ≤ r.id ∧ r.id ≤ 1000000 ∧ 0 ≤ r.rd ∧ 127 < r.rd) ∨ (1 ≤ r.id ∧ r.id ≤ 1000000 ∧ 0 ≤ r.rd ∧ r.rd ≤ 127)) with h1 | ⟨h1, h2⟩ | ⟨h1, h2, h3⟩ | ⟨h1, h2, h3, h4⟩ | ⟨h1, h2, h3, h4⟩
  case inr.inr.inr.inr =>
    have hhead : headV r = (vldS r.s0 r.s1 && vldS r.e0 r.e1) := by unfold headV; simp [h1, h2, h3, h4]
    have Hhead := Lib.hid hhead
    clear hhead
    go_enter Tryd.func80, Tryd.ntmps80
    go_upto_region 1 with fail
    have hb0_0 : ∀ y : Since (x.w.alloc (.cells #[.int .i64 r.id, .int .i64 r.rd, .int .i64 r.s0, .int .i64 r.s1, .int .i64 r.e0, .int .i64 r.e1, .bool r.op, .slice la r.legs.length r.lc, .slice pa r.pauses.length r.pc, .int .i64 r.fw, .int .i64 r.fp, .int .i64 r.wh, .int .i64 r.pl] 73)), y.w.cell? ⟨x.w.heap.size, 0, none⟩ = some (.int .i64 r.id) := fun y => Since.cell (by simp [go_sem]) (by first | (simp; done) | (simp; omega)) y
    have hb0_1 : ∀ y : Since (x.w.alloc (.cells #[.int .i64 r.id, .int .i64 r.rd, .int .i64 r.s0, .int .i64 r.s1, .int .i64 r.e0, .int .i64 r.e1, .bool r.op, .slice la r.legs.length r.lc, .slice pa r.pauses.length r.pc, .int .i64 r.fw, .int .i64 r.fp, .int .i64 r.wh, .int .i64 r.pl] 73)), y.w.cell? ⟨x.w.heap.size, 1, none⟩ = some (.int .i64 r.rd) := fun y => Since.cell (by simp [go_sem]) (by first | (simp; done) | (simp; omega)) y
    have hb0_2 : ∀ y : Since (x.w.alloc (.cells #[.int .i64 r.id, .int .i64 r.rd, .int .i64 r.s0, .int .i64 r.s1, .int .i64 r.e0, .int .i64 r.e1, .bool r.op, .slice la r.legs.length r.lc, .slice pa r.pauses.length r.pc, .int .i64 r.fw, .int .i64 r.fp, .int .i64 r.wh, .int .i64 r.pl] 73)), y.w.cell? ⟨x.w.heap.size, 2, none⟩ = some (.int .i64 r.s0) := fun y => Since.cell (by simp [go_sem]) (by first | (simp; done) | (simp; omega)) y
    have hb0_3 : ∀ y : Since (x.w.alloc (.cells #[.int .i64 r.id, .int .i64 r.rd, .int .i64 r.s0, .int .i64 r.s1, .int .i64 r.e0, .int .i64 r.e1, .bool r.op, .slice la r.legs.length r.lc, .slice pa r.pauses.length r.pc, .int .i64 r.fw, .int .i64 r.fp, .int .i64 r.wh, .int .i64 r.pl] 73)), y.w.cell? ⟨x.w.heap.size, 3, none⟩ = some (.int .i64 r.s1) := fun y => Since.cell (by simp [go_sem]) (by first | (simp; done) | (simp; omega)) y
    have hb0_4 : ∀ y : Since (x.w.alloc (.cells #[.int .i64 r.id, .int .i64 r.rd, .int .i64 r.s0, .int .i64 r.s1, .int .i64 r.e0, .int .i64 r.e1, .bool r.op, .slice la r.legs.length r.lc, .slice pa r.pauses.length r.pc, .int .i64 r.fw, .int .i64 r.fp, .int .i64 r.wh, .int .i64 r.pl] 73)), y.w.cell? ⟨x.w.heap.size, 4, none⟩ = some (.int .i64 r.e0) := fun y => Since.cell (by simp [go_sem]) (by first | (simp; done) | (simp; omega)) y
    have hb0_5 : ∀ y : Since (x.w.alloc (.cells #[.int .i64 r.id, .int .i64 r.rd, .int .i64 r.s0, .int .i64 r.s1, .int .i64 r.e0, .int .i64 r.e1, .bool r.op, .slice la r.legs.length r.lc, .slice pa r.pauses.length r.pc, .int .i64 r.fw, .int .i64 r.fp, .int .i64 r.wh, .int .i64 r.pl] 73)), y.w.cell? ⟨x.w.heap.size, 5, none⟩ = some (.int .i64 r.e1) := fun y => Since.cell (by simp [go_sem]) (by first | (simp; done) | (simp; omega)) y
    have hb0_6 : ∀ y : Since (x.w.alloc (.cells #[.int .i64 r.id, .int .i64 r.rd, .int .i64 r.s0, .int .i64 r.s1, .int .i64 r.e0, .int .i64 r.e1, .bool r.op, .slice la r.legs.length r.lc, .slice pa r.pauses.length r.pc, .int .i64 r.fw, .int .i64 r.fp, .int .i64 r.wh, .int .i64 r.pl] 73)), y.w.cell? ⟨x.w.heap.size, 6, none⟩ = some (.bool r.op) := fun y => Since.cell (by simp [go_sem]) (by first | (simp; done) | (simp; omega)) y
    have hb0_7 : ∀ y : Since (x.w.alloc (.cells #[.int .i64 r.id, .int .i64 r.rd, .int .i64 r.s0, .int .i64 r.s1, .int .i64 r.e0, .int .i64 r.e1, .bool r.op, .slice la r.legs.length r.lc, .slice pa r.pauses.length r.pc, .int .i64 r.fw, .int .i64 r.fp, .int .i64 r.wh, .int .i64 r.pl] 73)), y.w.cell? ⟨x.w.heap.size, 7, none⟩ = some (.slice la r.legs.length r.lc) := fun y => Since.cell (by simp [go_sem]) (by first | (simp; done) | (simp; omega)) y
    have hb0_8 : ∀ y : Since (x.w.alloc (.cells #[.int .i64 r.id, .int .i64 r.rd, .int .i64 r.s0, .int .i64 r.s1, .int .i64 r.e0, .int .i64 r.e1, .bool r.op, .slice la r.legs.length r.lc, .slice pa r.pauses.length r.pc, .int .i64 r.fw, .int .i64 r.fp, .int .i64 r.wh, .int .i64 r.pl] 73)), y.w.cell? ⟨x.w.heap.size, 8, none⟩ = some (.slice pa r.pauses.length r.pc) := fun y => Since.cell (by simp [go_sem]) (by first | (simp; done) | (simp; omega)) y
    have hb0_9 : ∀ y : Since (x.w.alloc (.cells #[.int .i64 r.id, .int .i64 r.rd, .int .i64 r.s0, .int .i64 r.s1, .int .i64 r.e0, .int .i64 r.e1, .bool r.op, .slice la r.legs.length r.lc, .slice pa r.pauses.length r.pc, .int .i64 r.fw, .int .i64 r.fp, .int .i64 r.wh, .int .i64 r.pl] 73)), y.w.cell? ⟨x.w.heap.size, 9, none⟩ = some (.int .i64 r.fw) := fun y => Since.cell (by simp [go_sem]) (by first | (simp; done) | (simp; omega)) y
    have hb0_10 : ∀ y : Since (x.w.alloc (.cells #[.int .i64 r.id, .int .i64 r.rd, .int .i64 r.s0, .int .i64 r.s1, .int .i64 r.e0, .int .i64 r.e1, .bool r.op, .slice la r.legs.length r.lc, .slice pa r.pauses.length r.pc, .int .i64 r.fw, .int .i64 r.fp, .int .i64 r.wh, .int .i64 r.pl] 73)), y.w.cell? ⟨x.w.heap.size, 10, none⟩ = some (.int .i64 r.fp) := fun y => Since.cell (by simp [go_sem]) (by first | (simp; done) | (simp; omega)) y
    have hb0_11 : ∀ y : Since (x.w.alloc (.cells #[.int .i64 r.id, .int .i64 r.rd, .int .i64 r.s0, .int .i64 r.s1, .int .i64 r.e0, .int .i64 r.e1, .bool r.op, .slice la r.legs.length r.lc, .slice pa r.pauses.length r.pc, .int .i64 r.fw, .int .i64 r.fp, .int .i64 r.wh, .int .i64 r.pl] 73)), y.w.cell? ⟨x.w.heap.size, 11, none⟩ = some (.int .i64 r.wh) := fun y => Since.cell (by simp [go_sem]) (by first | (simp; done) | (simp; omega)) y
    have hb0_12 : ∀ y : Since (x.w.alloc (.cells #[.int .i64 r.id, .int .i64 r.rd, .int .i64 r.s0, .int .i64 r.s1, .int .i64 r.e0, .int .i64 r.e1, .bool r.op, .slice la r.legs.length r.lc, .slice pa r.pauses.length r.pc, .int .i64 r.fw, .int .i64 r.fp, .int .i64 r.wh, .int .i64 r.pl] 73)), y.w.cell? ⟨x.w.heap.size, 12, none⟩ = some (.int .i64 r.pl) := fun y => Since.cell (by simp [go_sem]) (by first | (simp; done) | (simp; omega)) y
    have hf0 : ∀ (y : Since (x.w.alloc (.cells #[.int .i64 r.id, .int .i64 r.rd, .int .i64 r.s0, .int .i64 r.s1, .int .i64 r.e0, .int .i64 r.e1, .bool r.op, .slice la r.legs.length r.lc, .slice pa r.pauses.length r.pc, .int .i64 r.fw, .int .i64 r.fp, .int .i64 r.wh, .int .i64 r.pl] 73))) (o : Nat), y.w.frozen? ⟨x.w.heap.size, o, none⟩ = false := fun y o => Since.free (by simp [go_sem]) (by first | (simp; done) | (simp; omega)) y
    have hWup : ∃ z : Since w, (x.w.alloc (.cells #[.int .i64 r.id, .int .i64 r.rd, .int .i64 r.s0, .int .i64 r.s1, .int .i64 r.e0, .int .i64 r.e1, .bool r.op, .slice la r.legs.length r.lc, .slice pa r.pauses.length r.pc, .int .i64 r.fw, .int .i64 r.fp, .int .i64 r.wh, .int .i64 r.pl] 73)) = z.w := x.alloc _
    obtain ⟨y0, hy0⟩ := Since.refl (x.w.alloc (.cells #[.int .i64 r.id, .int .i64 r.rd, .int .i64 r.s0, .int .i64 r.s1, .int .i64 r.e0, .int .i64 r.e1, .bool r.op, .slice la r.legs.length r.lc, .slice pa r.pauses.length r.pc, .int .i64 r.fw, .int .i64 r.fp, .int .i64 r.wh, .int .i64 r.pl] 73))
    have Hbx := Lib.hid (And.intro x.b.size (show x.w.heap.size + 1 = (x.w.alloc (.cells #[.int .i64 r.id, .int .i64 r.rd, .int .i64 r.s0, .int .i64 r.s1, .int .i64 r.e0, .int .i64 r.e1, .bool r.op, .slice la r.legs.length r.lc, .slice pa r.pauses.length r.pc, .int .i64 r.fw, .int .i64 r.fp, .int .i64 r.wh, .int .i64 r.pl] 73)).heap.size from by simp))
    generalize hW : (x.w.alloc (.cells #[.int .i64 r.id, .int .i64 r.rd, .int .i64 r.s0, .int .i64 r.s1, .int .i64 r.e0, .int .i64 r.e1, .bool r.op, .slice la r.legs.length r.lc, .slice pa r.pauses.length r.pc, .int .i64 r.fw, .int .i64 r.fp, .int .i64 r.wh, .int .i64 r.pl] 73)) = W at *
    clear hW
    generalize x.w.heap.size = bx at *
    have Hup := Lib.hid (Since.up hWup)
    rw [hy0]
    clear hy0
    replace HL := Lib.hid (HL.out.to hWup); replace HP := Lib.hid (HP.out.to hWup)
    clear hWup
    cases hs : vldS r.s0 r.s1 with
    | false =>
      have Hr := Lib.hid (ranged_no (r := r) (.inl (by rw [Hhead.out, hs]; rfl)))
      have Hs := Lib.hid hs; clear hs
      go_wp2_with (go_at_call 97; refine (vld_calls W _ _ _).mono ?_; rintro _ _ ⟨rfl, y1, rfl⟩; rw [Hs.out])
      go_ret
      exact ⟨ret_bool Hr.out.symm, Hup.out _⟩
    | true =>
      cases he : vldS r.e0 r.e1 with
      | false =>
        have Hr := Lib.hid (ranged_no (r := r) (.inl (by rw [Hhead.out, hs, he]; rfl)))
        have Hs := Lib.hid hs; have He := Lib.hid he; clear hs he
        go_wp2_with (first | (go_at_call 97; ((with_reducible refine (vld_calls W _ r.s0 r.s1).mono ?_); rintro _ _ ⟨rfl, y1, rfl⟩; rw [Hs.out])) | (go_at_call 97; ((with_reducible refine (vld_calls W _ r.e0 r.e1).mono ?_); rintro _ _ ⟨rfl, y1, rfl⟩; rw [He.out])))
        go_ret
        exact ⟨ret_bool Hr.out.symm, Hup.out _⟩
      | true =>
        have Hh := Lib.hid (show headV r = true by rw [Hhead.out, hs, he]; rfl)
        have Hs := Lib.hid hs; have He := Lib.hid he; clear hs he
        go_upto_region 4 with (first | (go_at_call 97; ((with_reducible refine (vld_calls W _ r.s0 r.s1).mono ?_); rintro _ _ ⟨rfl, y1, rfl⟩; rw [Hs.out])) | (go_at_call 97; ((with_reducible refine (vld_calls W _ r.e0 r.e1).mono ?_); rintro _ _ ⟨rfl, y1, rfl⟩; rw [He.out])))
        go_loopw [40] (fun i wr => ∃ (k : Nat) (y : Since W), k ≤ r.legs.length ∧ i = .int .i64 k ∧ wr = y.w ∧ ∀ j, j < k → ∀ e, r.legs[j]? = some e → legV e = true) (fun i _ => r.legs.length - (intOf i).toNat)
        case atStart => exact ⟨0, _, by omega, rfl, rfl, fun j hj => by omega⟩
        case round =>
          obtain ⟨k, y, hk, rfl, rfl, hok⟩ := hrel
          have Hok := Lib.hid hok; clear hok
          by_cases hlt : k < r.legs.length
          · obtain ⟨e, he⟩ : ∃ e, r.legs[k]? = some e := ⟨_, List.getElem?_eq_getElem hlt⟩
            obtain ⟨b1, off1, rfl, h1'⟩ := Els.leg HL.out he
            have pa0 := h1'.c0
            have pa1 := h1'.c1
            have pa2 := h1'.c2
            have pa3 := h1'.c3
            have pa4 := h1'.c4
            have hk0 : (0 : Int) ≤ (k : Int) := by omega
            have hkl : (k : Int) < (r.legs.length : Int) := by omega
            have He' := Lib.hid he; clear h1' he
            go_upto_region 6 with fail
            have hx0 : (y.w.alloc (.cells #[.int .i64 e.b, .int .i64 e.f0, .int .i64 e.f1, .int .i64 e.t0, .int .i64 e.t1] 98)).cell? ⟨y.w.heap.size, 0, none⟩ = some (.int .i64 e.b) := by simp [go_sem]
            have hx1 : (y.w.alloc (.cells #[.int .i64 e.b, .int .i64 e.f0, .int .i64 e.f1, .int .i64 e.t0, .int .i64 e.t1] 98)).cell? ⟨y.w.heap.size, 1, none⟩ = some (.int .i64 e.f0) := by simp [go_sem]
            have hx2 : (y.w.alloc (.cells #[.int .i64 e.b, .int .i64 e.f0, .int .i64 e.f1, .int .i64 e.t0, .int .i64 e.t1] 98)).cell? ⟨y.w.heap.size, 2, none⟩ = some (.int .i64 e.f1) := by simp [go_sem]
            have hx3 : (y.w.alloc (.cells #[.int .i64 e.b, .int .i64 e.f0, .int .i64 e.f1, .int .i64 e.t0, .int .i64 e.t1] 98)).cell? ⟨y.w.heap.size, 3, none⟩ = some (.int .i64 e.t0) := by simp [go_sem]
            have hx4 : (y.w.alloc (.cells #[.int .i64 e.b, .int .i64 e.f0, .int .i64 e.f1, .int .i64 e.t0, .int .i64 e.t1] 98)).cell? ⟨y.w.heap.size, 4, none⟩ = some (.int .i64 e.t1) := by simp [go_sem]
            have hxf : ∀ o, (y.w.alloc (.cells #[.int .i64 e.b, .int .i64 e.f0, .int .i64 e.f1, .int .i64 e.t0, .int .i64 e.t1] 98)).frozen? ⟨y.w.heap.size, o, none⟩ = false := fun o => by simp [go_sem]
            have hlt0 : y.w.heap.size < (y.w.alloc (.cells #[.int .i64 e.b, .int .i64 e.f0, .int .i64 e.f1, .int .i64 e.t0, .int .i64 e.t1] 98)).heap.size := by simp
            have hst0 : ∃ zz : Since y.w, (y.w.alloc (.cells #[.int .i64 e.b, .int .i64 e.f0, .int .i64 e.f1, .int .i64 e.t0, .int .i64 e.t1] 98)) = zz.w := IsSince.alloc (IsSince.self _) _
            have hsz0 := y.b.size
            obtain ⟨y2, e2⟩ := IsSince.alloc (IsSince.of y) (.cells #[.int .i64 e.b, .int .i64 e.f0, .int .i64 e.f1, .int .i64 e.t0, .int .i64 e.t1] 98)
            rw [e2] at hx0 hx1 hx2 hx3 hx4 hxf hlt0 hst0 ⊢
            skip
            clear e2 hst0
            generalize y.w.heap.size = g at *
            have Hhx0 : ∀ q : Since y2.w, q.w.cell? ⟨g, 0, none⟩ = some (.int .i64 e.b) := fun q => Since.cell hx0 (by omega) q
            have Hhx1 : ∀ q : Since y2.w, q.w.cell? ⟨g, 1, none⟩ = some (.int .i64 e.f0) := fun q => Since.cell hx1 (by omega) q
            have Hhx2 : ∀ q : Since y2.w, q.w.cell? ⟨g, 2, none⟩ = some (.int .i64 e.f1) := fun q => Since.cell hx2 (by omega) q
            have Hhx3 : ∀ q : Since y2.w, q.w.cell? ⟨g, 3, none⟩ = some (.int .i64 e.t0) := fun q => Since.cell hx3 (by omega) q
            have Hhx4 : ∀ q : Since y2.w, q.w.cell? ⟨g, 4, none⟩ = some (.int .i64 e.t1) := fun q => Since.cell hx4 (by omega) q
            have Hhxf : ∀ (q : Since y2.w) (o : Nat), q.w.frozen? ⟨g, o, none⟩ = false := fun q o => Since.free (hxf o) (by omega) q
            have Hhxg := Lib.hid (And.intro hsz0 hlt0)
            clear hlt0 hsz0
            obtain ⟨q0, hq0⟩ := Since.refl y2.w
            rw [hq0]
            clear hq0
            cases hf : vldS e.f0 e.f1 with
            | false =>
              have Hr := Lib.hid (ranged_no (r := r) (.inr <| .inl (all_no He'.out (by unfold legV; rw [hf]; rfl))))
              have Hf := Lib.hid hf; clear hf
              go_wp2_with (go_at_call 97; ((with_reducible refine (vld_calls y2.w _ e.f0 e.f1).mono ?_); rintro _ _ ⟨rfl, z1, rfl⟩; rw [Hf.out]))
              go_ret
              exact ⟨ret_bool Hr.out.symm, by obtain ⟨q, e⟩ := y2.trans z1; rw [e]; exact Hup.out q⟩
            | true =>
              have Hf := Lib.hid hf; clear hf
              cases ht : vldS e.t0 e.t1 with
              | false =>
                have Hr := Lib.hid (ranged_no (r := r) (.inr <| .inl (all_no He'.out (by unfold legV; rw [Hf.out, ht]; rfl))))
                have Ht := Lib.hid ht; clear ht
                go_wp2_with (first | (go_at_call 97; ((with_reducible refine (vld_calls y2.w _ e.f0 e.f1).mono ?_); rintro _ _ ⟨rfl, z1, rfl⟩; rw [Hf.out])) | (go_at_call 97; ((with_reducible refine (vld_calls y2.w _ e.t0 e.t1).mono ?_); rintro _ _ ⟨rfl, z1, rfl⟩; rw [Ht.out])))
                go_ret
                exact ⟨ret_bool Hr.out.symm, by obtain ⟨q, e⟩ := y2.trans z1; rw [e]; exact Hup.out q⟩
              | true =>
                have Hv := Lib.hid (show legV e = true by unfold legV; rw [Hf.out, ht]; rfl)
                have Ht := Lib.hid ht; clear ht
                go_wp2_with (first | (go_at_call 97; ((with_reducible refine (vld_calls y2.w _ e.f0 e.f1).mono ?_); rintro _ _ ⟨rfl, z1, rfl⟩; rw [Hf.out])) | (go_at_call 97; ((with_reducible refine (vld_calls y2.w _ e.t0 e.t1).mono ?_); rintro _ _ ⟨rfl, z1, rfl⟩; rw [Ht.out])))
                obtain ⟨q, eq⟩ := y2.trans z1
                rw [eq]
                go_roundw
                case rel => exact ⟨k + 1, q, by omega, by go_num, rfl, upto_next Hok.out He'.out Hv.out⟩
                case measure => simp [intOf] <;> omega
          · obtain rfl : k = r.legs.length := by omega
            have HvL := Lib.hid (all_yes Hok.out)
            go_upto_region 10 with fail
            go_loopw [58] (fun i wr => ∃ (k : Nat) (y : Since W), k ≤ r.pauses.length ∧ i = .int .i64 k ∧ wr = y.w ∧ ∀ j, j < k → ∀ e, r.pauses[j]? = some e → pseV e = true) (fun i _ => r.pauses.length - (intOf i).toNat)
            case atStart => exact ⟨0, _, by omega, rfl, rfl, fun j hj => by omega⟩
            case round =>
              obtain ⟨k, y, hk, rfl, rfl, hok⟩ := hrel
              have Hok := Lib.hid hok; clear hok
              by_cases hlt : k < r.pauses.length
              · obtain ⟨e, he⟩ : ∃ e, r.pauses[k]? = some e := ⟨_, List.getElem?_eq_getElem hlt⟩
                obtain ⟨b1, off1, rfl, h1'⟩ := Els.pse HP.out he
                have pa0 := h1'.c0
                have pa1 := h1'.c1
                have pa2 := h1'.c2
                have pa3 := h1'.c3
                have hk0 : (0 : Int) ≤ (k : Int) := by omega
                have hkl : (k : Int) < (r.pauses.length : Int) := by omega
                have He' := Lib.hid he; clear h1' he
                go_upto_region 12 with fail
                have hx0 : (y.w.alloc (.cells #[.int .i64 e.f0, .int .i64 e.f1, .int .i64 e.t0, .int .i64 e.t1] 146)).cell? ⟨y.w.heap.size, 0, none⟩ = some (.int .i64 e.f0) := by simp [go_sem]
                have hx1 : (y.w.alloc (.cells #[.int .i64 e.f0, .int .i64 e.f1, .int .i64 e.t0, .int .i64 e.t1] 146)).cell? ⟨y.w.heap.size, 1, none⟩ = some (.int .i64 e.f1) := by simp [go_sem]
                have hx2 : (y.w.alloc (.cells #[.int .i64 e.f0, .int .i64 e.f1, .int .i64 e.t0, .int .i64 e.t1] 146)).cell? ⟨y.w.heap.size, 2, none⟩ = some (.int .i64 e.t0) := by simp [go_sem]
                have hx3 : (y.w.alloc (.cells #[.int .i64 e.f0, .int .i64 e.f1, .int .i64 e.t0, .int .i64 e.t1] 146)).cell? ⟨y.w.heap.size, 3, none⟩ = some (.int .i64 e.t1) := by simp [go_sem]
                have hxf : ∀ o, (y.w.alloc (.cells #[.int .i64 e.f0, .int .i64 e.f1, .int .i64 e.t0, .int .i64 e.t1] 146)).frozen? ⟨y.w.heap.size, o, none⟩ = false := fun o => by simp [go_sem]
                have hlt0 : y.w.heap.size < (y.w.alloc (.cells #[.int .i64 e.f0, .int .i64 e.f1, .int .i64 e.t0, .int .i64 e.t1] 146)).heap.size := by simp
                have hst0 : ∃ zz : Since y.w, (y.w.alloc (.cells #[.int .i64 e.f0, .int .i64 e.f1, .int .i64 e.t0, .int .i64 e.t1] 146)) = zz.w := IsSince.alloc (IsSince.self _) _
                have hsz0 := y.b.size
                obtain ⟨y2, e2⟩ := IsSince.alloc (IsSince.of y) (.cells #[.int .i64 e.f0, .int .i64 e.f1, .int .i64 e.t0, .int .i64 e.t1] 146)
                rw [e2] at hx0 hx1 hx2 hx3 hxf hlt0 hst0 ⊢
                skip
                clear e2 hst0
                generalize y.w.heap.size = g at *
                have Hhx0 : ∀ q : Since y2.w, q.w.cell? ⟨g, 0, none⟩ = some (.int .i64 e.f0) := fun q => Since.cell hx0 (by omega) q
                have Hhx1 : ∀ q : Since y2.w, q.w.cell? ⟨g, 1, none⟩ = some (.int .i64 e.f1) := fun q => Since.cell hx1 (by omega) q
                have Hhx2 : ∀ q : Since y2.w, q.w.cell? ⟨g, 2, none⟩ = some (.int .i64 e.t0) := fun q => Since.cell hx2 (by omega) q
                have Hhx3 : ∀ q : Since y2.w, q.w.cell? ⟨g, 3, none⟩ = some (.int .i64 e.t1) := fun q => Since.cell hx3 (by omega) q
                have Hhxf : ∀ (q : Since y2.w) (o : Nat), q.w.frozen? ⟨g, o, none⟩ = false := fun q o => Since.free (hxf o) (by omega) q
                have Hhxg := Lib.hid (And.intro hsz0 hlt0)
                clear hlt0 hsz0
                obtain ⟨q0, hq0⟩ := Since.refl y2.w
                rw [hq0]
                clear hq0
                cases hf : vldS e.f0 e.f1 with
                | false =>
                  have Hr := Lib.hid (ranged_no (r := r) (.inr <| .inr (all_no He'.out (by unfold pseV; rw [hf]; rfl))))
                  have Hf := Lib.hid hf; clear hf
                  go_wp2_with (go_at_call 97; ((with_reducible refine (vld_calls y2.w _ e.f0 e.f1).mono ?_); rintro _ _ ⟨rfl, z1, rfl⟩; rw [Hf.out]))
                  go_ret
                  exact ⟨ret_bool Hr.out.symm, by obtain ⟨q, e⟩ := y2.trans z1; rw [e]; exact Hup.out q⟩
                | true =>
                  have Hf := Lib.hid hf; clear hf
                  cases ht : vldS e.t0 e.t1 with
                  | false =>
                    have Hr := Lib.hid (ranged_no (r := r) (.inr <| .inr (all_no He'.out (by unfold pseV; rw [Hf.out, ht]; rfl))))
                    have Ht := Lib.hid ht; clear ht
                    go_wp2_with (first | (go_at_call 97; ((with_reducible refine (vld_calls y2.w _ e.f0 e.f1).mono ?_); rintro _ _ ⟨rfl, z1, rfl⟩; rw [Hf.out])) | (go_at_call 97; ((with_reducible refine (vld_calls y2.w _ e.t0 e.t1).mono ?_); rintro _ _ ⟨rfl, z1, rfl⟩; rw [Ht.out])))
                    go_ret
                    exact ⟨ret_bool Hr.out.symm, by obtain ⟨q, e⟩ := y2.trans z1; rw [e]; exact Hup.out q⟩
                  | true =>
                    have Hv := Lib.hid (show pseV e = true by unfold pseV; rw [Hf.out, ht]; rfl)
                    have Ht := Lib.hid ht; clear ht
                    go_wp2_with (first | (go_at_call 97; ((with_reducible refine (vld_calls y2.w _ e.f0 e.f1).mono ?_); rintro _ _ ⟨rfl, z1, rfl⟩; rw [Hf.out])) | (go_at_call 97; ((with_reducible refine (vld_calls y2.w _ e.t0 e.t1).mono ?_); rintro _ _ ⟨rfl, z1, rfl⟩; rw [Ht.out])))
                    obtain ⟨q, eq⟩ := y2.trans z1
                    rw [eq]
                    go_roundw
                    case rel => exact ⟨k + 1, q, by omega, by go_num, rfl, upto_next Hok.out He'.out Hv.out⟩
                    case measure => simp [intOf] <;> omega
              · obtain rfl : k = r.pauses.length := by omega
                have HvP := Lib.hid (all_yes Hok.out)
                go_wp2_with fail
                go_ret
                exact ⟨ret_bool (ranged_yes Hh.out HvL.out HvP.out).symm, Hup.out _⟩
  all_goals
    have Hr := Lib.hid (ranged_no (r := r) (.inl (by
      cases hh : headV r
      · rfl
      · unfold headV at hh
        simp only [Bool.and_eq_true, decide_eq_true_eq] at hh
        omega)))
    go_enter Tryd.func80, Tryd.ntmps80
    go_wp2_with fail
    go_ret
    exact ⟨ret_bool Hr.out.symm, x.alloc _⟩
end Go.Proofs.YtdkcclngionihaaDoor
