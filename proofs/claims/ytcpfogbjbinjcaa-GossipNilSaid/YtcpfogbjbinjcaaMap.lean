/- Maps whose entries are known one by one, in the order in which they came: look-up, store, len, range: generic, no program in sight. -/
import Derived.Test.YtcpfogbjbinjcaaLib
import Derived.Maps.RangeRun
import Derived.Maps.OwnSet
set_option linter.all false
namespace Go.Proofs.Ytcpfogbjbinjcaa
open Go.RowKit Go.ChangeMaps

/-- what the walk needs to know of a map's keys: 'ek x' is the key x -/
structure KeyOps (P : Program) (kt : TypeId) {κ : Type} [DecidableEq κ] (ek : κ → Value) (now : Bool) : Prop where
  chk : ∀ em w x, (Instr.checkKey em 10000 kt (ek x)).run P w = .ok () w
  eq : ∀ w x y, (Op.equal kt (ek x) (ek y)).run P w = .ok (decide (x = y)) w
  und : ∃ d, P.underlying kt = some d ∧ ∀ x y, Instr.sameNow d (ek x) (ek y) = if now then some (decide (x = y)) else none
  bits : ∀ x, Instr.sameBits 10000 (ek x) (ek x) = true

section
variable {κ : Type}
/-- the entries of a map, in the order in which they came -/
def entF (ek : κ → Value) : List (κ × Value) → Nat → List MapEntry
  | [], _ => []
  | p :: l, i => ⟨ek p.1, p.2, i⟩ :: entF ek l (i + 1)
variable (ek : κ → Value)
theorem entF_length : ∀ (l : List (κ × Value)) (i : Nat), (entF ek l i).length = l.length
  | [], _ => rfl
  | _ :: l, i => by simp [entF, entF_length l (i + 1)]
theorem entF_at : ∀ (l : List (κ × Value)) (i j : Nat), (entF ek l i)[j]? = (l[j]?).map fun p => ⟨ek p.1, p.2, i + j⟩
  | [], _, _ => by simp [entF]
  | p :: l, i, 0 => by simp [entF]
  | p :: l, i, j + 1 => by
    simp only [entF, List.getElem?_cons_succ]
    rw [entF_at l (i + 1) j, show i + 1 + j = i + (j + 1) by omega]
theorem entF_append : ∀ (l m : List (κ × Value)) (i : Nat), entF ek (l ++ m) i = entF ek l i ++ entF ek m (i + l.length)
  | [], m, i => by simp [entF]
  | p :: l, m, i => by
    simp only [List.cons_append, entF, List.length_cons]
    rw [entF_append l m (i + 1), show i + 1 + l.length = i + (l.length + 1) by omega]
theorem entF_born (l : List (κ × Value)) (x : MapEntry) (h : x ∈ (entF ek l 0).toArray.toList) : x.born < l.length := by
  simp only at h
  obtain ⟨j, hj⟩ := List.mem_iff_getElem?.1 h
  rw [entF_at] at hj
  cases hp : l[j]? with
  | none => rw [hp] at hj; cases hj
  | some p =>
    rw [hp] at hj
    simp only [Option.map_some, Option.some.injEq] at hj
    rw [← hj]
    simpa using (List.getElem?_eq_some_iff.1 hp).1
theorem entF_borns : ∀ (l : List (κ × Value)) (i : Nat), (entF ek l i).map (·.born) = (List.range' i l.length)
  | [], _ => rfl
  | p :: l, i => by simp [entF, entF_borns l (i + 1), List.range'_succ]
/-- block b is a map with these entries -/
def MapAt (w : World) (b : Nat) (l : List (κ × Value)) : Prop := w.heap[b]? = some (.map (entF ek l 0).toArray l.length)
end
section
variable {κ : Type} [DecidableEq κ]
/-- where a key is found, and what stands there -/
def lkF (x : κ) : List (κ × Value) → Nat → Option (Nat × Value)
  | [], _ => none
  | p :: l, i => if x = p.1 then some (i, p.2) else lkF x l (i + 1)
theorem lkF_none {x : κ} : ∀ (l : List (κ × Value)) (i : Nat), (∀ p ∈ l, p.1 ≠ x) → lkF x l i = none
  | [], _, _ => rfl
  | p :: l, i, h => by
    unfold lkF; rw [if_neg (fun e => h p (by simp) e.symm)]
    exact lkF_none l (i + 1) (fun q hq => h q (by simp [hq]))
theorem lkF_at {x : κ} {v : Value} : ∀ (l : List (κ × Value)) (i j : Nat), l[j]? = some (x, v) → (∀ k p, k < j → l[k]? = some p → p.1 ≠ x) → lkF x l i = some (i + j, v)
  | [], _, _, h, _ => by simp at h
  | p :: l, i, 0, h, _ => by
    simp at h; subst h
    unfold lkF; rw [if_pos rfl]; rfl
  | p :: l, i, j + 1, h, hn => by
    unfold lkF
    rw [if_neg (fun e => hn 0 p (by omega) rfl e.symm), lkF_at l (i + 1) j (by simpa using h) (fun k q hk hq => hn (k + 1) q (by omega) (by simpa using hq))]
    congr 2; omega
variable {ek : κ → Value} {P : Program} {kt : TypeId} {now : Bool}

theorem run_findAsking (K : KeyOps P kt ek now) (w : World) (x : κ) : ∀ (l : List (κ × Value)) (i : Nat), (Instr.findAsking kt (ek x) (entF ek l i) i).run P w = .ok (lkF x l i) w
  | [], _ => by simp [entF, Instr.findAsking, lkF]
  | p :: l, i => by
    simp only [entF, Instr.findAsking, Sem.run_bind, K.eq, Result.andThen_ok]
    by_cases h : x = p.1
    · simp [h, lkF]
    · simp only [h, decide_false, Bool.false_eq_true, if_false]
      rw [run_findAsking K w x l (i + 1)]
      simp [lkF, h]
theorem findNow_now (K : KeyOps P kt ek true) {d : TypeDesc} (hd : ∀ x y, Instr.sameNow d (ek x) (ek y) = some (decide (x = y))) (x : κ) : ∀ (l : List (κ × Value)) (i : Nat), Instr.findNow d (ek x) (entF ek l i) i = some (lkF x l i)
  | [], _ => rfl
  | p :: l, i => by
    simp only [entF, Instr.findNow, hd]
    by_cases h : x = p.1
    · simp [h, lkF]
    · simp only [h, decide_false]
      rw [findNow_now K hd x l (i + 1)]
      simp [lkF, h]
theorem run_findKey (K : KeyOps P kt ek now) (w : World) (x : κ) (l : List (κ × Value)) : (Instr.findKey kt (ek x) (entF ek l 0)).run P w = .ok (lkF x l 0) w := by
  obtain ⟨d, hu, hd⟩ := K.und
  unfold Instr.findKey
  simp only [Sem.run_bind, run_underlying hu, Result.andThen_ok]
  cases now with
  | true =>
    rw [findNow_now K (fun x y => by rw [hd]; rfl) x l 0]
    simp
  | false =>
    cases l with
    | nil => simp [entF, Instr.findNow, lkF]
    | cons p l =>
      have : Instr.findNow d (ek x) (entF ek (p :: l) 0) 0 = none := by simp [entF, Instr.findNow, hd]
      rw [this]
      exact run_findAsking K w x (p :: l) 0

/-- what a look-up finds -/
def lkV (x : κ) (l : List (κ × Value)) (z : Value) : Value := match lkF x l 0 with | some (_, v) => v | none => z
def lkB (x : κ) (l : List (κ × Value)) : Bool := (lkF x l 0).isSome
theorem run_look {w : World} {b : Nat} {l : List (κ × Value)} {t et : TypeId} {z : Value} (K : KeyOps P kt ek now) (h : MapAt ek w b l) (ht : P.underlying t = some (.map kt et)) (hz : (zeroValue et).run P w = .ok z w) (x : κ) (ok : Bool) :
    (Instr.lookup t (.map (some b)) (ek x) ok).run P w = .ok (if ok then .tuple #[lkV x l z, .bool (lkB x l)] else lkV x l z) w := by
  unfold MapAt at h
  unfold lkV lkB
  simp only [Instr.lookup, Sem.run_bind, run_underlying ht, Result.andThen_ok, MapKept.run_getObj_map h, Sem.run_pure, K.chk, run_findKey K]
  cases lkF x l 0 with
  | none => simp [Sem.run_bind, hz]
  | some r => obtain ⟨i, v⟩ := r; simp
theorem run_store_new {w : World} {b : Nat} {l : List (κ × Value)} {t et : TypeId} (K : KeyOps P kt ek now) (h : MapAt ek w b l) (ht : P.underlying t = some (.map kt et)) (x : κ) (v : Value) (hx : lkF x l 0 = none) :
    ∃ w', (Instr.mapUpdate t (.map (some b)) (ek x) v).run P w = .ok () w' ∧ w' = setBlock w b (.map (entF ek (l ++ [(x, v)]) 0).toArray (l ++ [(x, v)]).length) := by
  unfold MapAt at h
  refine ⟨_, ?_, rfl⟩
  simp only [Instr.mapUpdate, Sem.run_bind, run_underlying ht, Result.andThen_ok, MapKept.run_getObj_map h, K.chk, run_findKey K, hx, MapKept.run_setObj_map _ h]
  simp [setBlock, entF_append, entF]
end

theorem run_len_map' {κ : Type} {ek : κ → Value} {P : Program} {kt : TypeId} {w : World} {b : Nat} {l : List (κ × Value)} {t et : TypeId} (h : MapAt ek w b l) (ht : P.underlying t = some (.map kt et)) (ty : TypeId) :
    (Builtin.len_ #[t] ty #[.map (some b)]).run P w = .ok (.int .i64 l.length) w := by
  unfold MapAt at h
  simp [Builtin.len_, run_underlying ht, MapKept.run_getObj_map h, entF_length, goInt, Result.andThen]

/-- an iterator over the map in block b: the entries whose numbers are in 'seen' have come -/
def IterAt (w : World) (b r n : Nat) (seen : Array Nat) : Prop := w.heap[r]? = some (.mapIter (some b) n seen n)

theorem run_iter_next {κ : Type} [DecidableEq κ] {ek : κ → Value} {P : Program} {w : World} {b r : Nat} {l : List (κ × Value)} {seen : Array Nat} (ty : TypeId) (h : MapAt ek w b l) (hr : IterAt w b r l.length seen) :
    ((∀ i, i < l.length → i ∈ seen) ∧ (Instr.next (.pointer (some ⟨r, 0, none⟩)) false ty).run P w = .ok (.tuple #[.bool false]) w) ∨
    ∃ (i : Nat) (x : κ) (v : Value) (w1 : World), l[i]? = some (x, v) ∧ i ∉ seen ∧ (w1 = w ∨ w1 = w.drew) ∧
      (Instr.next (.pointer (some ⟨r, 0, none⟩)) false ty).run P w = .ok (.tuple #[.bool true, ek x, v]) (setBlock w1 r (.mapIter (some b) l.length (seen.push i) l.length)) := by
  rcases run_next_at (P := P) w ty r b l.length l.length seen _ l.length hr h (entF_born ek l) (Nat.le_refl _) with ⟨h0, hrun⟩ | ⟨e, he, w1, hw1, hrun⟩
  · refine .inl ⟨fun i hi => ?_, hrun⟩
    cases hc : seen.contains i with
    | true => exact Array.contains_iff_mem.1 hc
    | false =>
      exfalso
      have hmem : (⟨ek (l[i]).1, (l[i]).2, i⟩ : MapEntry) ∈ (entF ek l 0).toArray := by
        simp only [List.mem_toArray]
        refine List.mem_iff_getElem?.2 ⟨i, ?_⟩
        rw [entF_at, List.getElem?_eq_getElem hi, Nat.zero_add]
        rfl
      have : (⟨ek (l[i]).1, (l[i]).2, i⟩ : MapEntry) ∈ leftOf (entF ek l 0).toArray seen := by
        unfold leftOf
        rw [Array.mem_filter]
        exact ⟨hmem, by show (!seen.contains i) = true; rw [hc]; rfl⟩
      have hs : leftOf (entF ek l 0).toArray seen = #[] := Array.eq_empty_of_size_eq_zero h0
      rw [hs] at this
      simp at this
  · unfold leftOf at he
    have he' : e ∈ Array.filter (fun e => !seen.contains e.born) (entF ek l 0).toArray := by simpa using he
    rw [Array.mem_filter] at he'
    obtain ⟨hm, hs⟩ := he'
    simp only [List.mem_toArray] at hm
    obtain ⟨i, hi⟩ := List.mem_iff_getElem?.1 hm
    rw [entF_at] at hi
    cases hp : l[i]? with
    | none => rw [hp] at hi; cases hi
    | some p =>
      rw [hp] at hi
      simp only [Option.map_some, Option.some.injEq, Nat.zero_add] at hi
      subst hi
      refine .inr ⟨i, p.1, p.2, w1, hp, fun hin => ?_, hw1, hrun⟩
      have : seen.contains i = true := Array.contains_iff_mem.2 hin
      simp only [this] at hs
      cases hs
theorem run_iter_entry {κ : Type} [DecidableEq κ] {ek : κ → Value} {P : Program} {w : World} {b r i : Nat} {l : List (κ × Value)} {seen : Array Nat} {x : κ} {v : Value} (h : MapAt ek w b l) (hr : IterAt w b r l.length (seen.push i)) (hi : l[i]? = some (x, v)) :
    (Instr.entry (.pointer (some ⟨r, 0, none⟩))).run P w = .ok (.tuple #[ek x, v]) w := by
  have he : (⟨ek x, v, i⟩ : MapEntry) ∈ (entF ek l 0).toArray.toList := by
    simp only
    refine List.mem_iff_getElem?.2 ⟨i, ?_⟩
    rw [entF_at, hi]; simp
  exact run_entry_at (P := P) w r b l.length seen (entF ek l 0).toArray l.length ⟨ek x, v, i⟩ hr h he (by simp only [entF_borns]; exact List.nodup_range')

theorem setBlock_at {w : World} {r : Nat} {o : Obj} (h : r < w.heap.size) : (setBlock w r o).heap[r]? = some o := by simp [setBlock, h]
theorem setBlock_ne {w : World} {r j : Nat} {o : Obj} (h : j ≠ r) : (setBlock w r o).heap[j]? = w.heap[j]? := by simp [setBlock, Array.getElem?_setIfInBounds, Ne.symm h]
theorem setBlock_size (w : World) (r : Nat) (o : Obj) : (setBlock w r o).heap.size = w.heap.size := by simp [setBlock]
theorem Since.block {w0 : World} (x : Since w0) {r : Nat} (h : w0.heap.size ≤ r) (o : Obj) : ∃ y : Since w0, setBlock x.w r o = y.w :=
  ⟨⟨setBlock x.w r o, ⟨x.b.os, x.b.tape, x.b.output, by rw [setBlock_size]; exact x.b.size, fun b hb => by rw [setBlock_ne (by omega)]; exact x.b.block b hb⟩⟩, rfl⟩
theorem Since.heap {w0 : World} {b : Nat} {o : Obj} (h : w0.heap[b]? = some o) (y : Since w0) : y.w.heap[b]? = some o := by
  rw [y.b.block b (Array.getElem?_eq_some_iff.1 h).1]; exact h
end Go.Proofs.Ytcpfogbjbinjcaa
