/- Maps whose entries are known: the laws at the operations of a walk: range, next, look-up, store: generic, no program in sight. -/
import Derived.Test.YtcpfogbjbinjcaaMap
import Derived.Maps.RangeWalk
set_option linter.all false
namespace Go.Proofs.Ytcpfogbjbinjcaa
open Go.RowKit Go.ChangeMaps

/-- numbers below n that have come, none twice -/
structure SeenOk (n : Nat) (seen : Array Nat) : Prop where
  nodup : seen.toList.Nodup
  lt : ∀ i ∈ seen, i < n
theorem seenOk_nil (n : Nat) : SeenOk n #[] := ⟨by simp, by simp⟩
theorem SeenOk.push {n i : Nat} {seen : Array Nat} (h : SeenOk n seen) (hi : i < n) (hn : i ∉ seen) : SeenOk n (seen.push i) := by
  refine ⟨?_, fun j hj => ?_⟩
  · rw [Array.toList_push, List.nodup_append]
    refine ⟨h.nodup, by simp, fun x hx y hy hxy => ?_⟩
    simp at hy; subst hy; subst hxy
    exact hn (by simpa using hx)
  · rcases Array.mem_push.1 hj with hj | rfl
    · exact h.lt j hj
    · exact hi
theorem nodup_lt_len : ∀ (n : Nat) (l : List Nat), l.Nodup → (∀ x ∈ l, x < n) → l.length ≤ n
  | 0, [], _, _ => Nat.le_refl _
  | 0, x :: l, _, h => by have := h x (by simp); omega
  | n + 1, l, hn, h => by
    by_cases hm : n ∈ l
    · have h1 := nodup_lt_len n (l.erase n) (hn.erase n) (fun x hx => by
        have := h x (List.mem_of_mem_erase hx)
        have hne : x ≠ n := by rintro rfl; exact hn.not_mem_erase hx
        omega)
      have := List.length_erase_of_mem hm
      omega
    · have h1 := nodup_lt_len n l hn (fun x hx => by
        have := h x hx
        have hne : x ≠ n := by rintro rfl; exact hm hx
        omega)
      omega
theorem SeenOk.size {n : Nat} {seen : Array Nat} (h : SeenOk n seen) : seen.size ≤ n := by
  have := nodup_lt_len n seen.toList h.nodup (fun x hx => h.lt x (by simpa using hx))
  simpa using this
/-- what has come of a list -/
def colS {α : Type} (l : List α) (seen : Array Nat) : List α := seen.toList.filterMap fun i => l[i]?
theorem colS_nil {α : Type} (l : List α) : colS l #[] = [] := rfl
theorem colS_push {α : Type} {l : List α} {seen : Array Nat} {i : Nat} {x : α} (h : l[i]? = some x) : colS l (seen.push i) = colS l seen ++ [x] := by simp [colS, h]
theorem range_filterMap {α : Type} : ∀ l : List α, (List.range l.length).filterMap (fun i => l[i]?) = l
  | [] => rfl
  | x :: l => by
    rw [List.length_cons, List.range_succ_eq_map, List.filterMap_cons]
    simp only [List.getElem?_cons_zero, List.filterMap_map]
    exact congrArg (x :: ·) (range_filterMap l)
theorem colS_perm {α : Type} {l : List α} {seen : Array Nat} (h : SeenOk l.length seen) (hall : ∀ i, i < l.length → i ∈ seen) : (colS l seen).Perm l := by
  have hp : seen.toList.Perm (List.range l.length) := by
    rw [List.perm_ext_iff_of_nodup h.nodup List.nodup_range]
    intro i
    rw [List.mem_range]
    exact ⟨fun hi => h.lt i (by simpa using hi), fun hi => by simpa using hall i hi⟩
  have := hp.filterMap (fun i => l[i]?)
  rw [range_filterMap] at this
  exact this
theorem colS_len {α : Type} (l : List α) (seen : Array Nat) : (colS l seen).length ≤ seen.size := by
  have := List.length_filterMap_le (fun i => l[i]?) seen.toList
  simpa [colS] using this
/-- how many entries have not come yet -/
def iterN (w : World) (r : Nat) : Nat := match w.heap[r]? with | some (.mapIter _ n seen _) => n - seen.size | _ => 0
theorem IterAt.n {w : World} {b r n : Nat} {seen : Array Nat} (h : IterAt w b r n seen) : iterN w r = n - seen.size := by
  unfold IterAt at h; unfold iterN; rw [h]
theorem iterN_lt {w w' : World} {b r n i : Nat} {seen : Array Nat} (h : IterAt w b r n seen) (h' : IterAt w' b r n (seen.push i)) (hs : SeenOk n (seen.push i)) : iterN w' r < iterN w r := by
  have := hs.size
  rw [h.n, h'.n]; simp only [Array.size_push] at *; omega
theorem IterAt.since {w : World} {b r n : Nat} {seen : Array Nat} (h : IterAt w b r n seen) (y : Since w) : IterAt y.w b r n seen := Since.heap h y
theorem IterAt.to {w W : World} {b r n : Nat} {seen : Array Nat} (h : IterAt w b r n seen) (hW : ∃ z : Since w, W = z.w) : IterAt W b r n seen := by
  obtain ⟨z, rfl⟩ := hW; exact h.since z
theorem MapAt.to {κ : Type} {ek : κ → Value} {w W : World} {b : Nat} {l : List (κ × Value)} (h : MapAt ek w b l) (hW : ∃ z : Since w, W = z.w) : MapAt ek W b l := by
  obtain ⟨z, rfl⟩ := hW; exact Since.heap h z
theorem IterAt.keep {w w' : World} {b r n : Nat} {seen : Array Nat} {row : Option Nat} (h : IterAt w b r n seen) (hg : w.grownBy w' row) (hr : some r ≠ row) : IterAt w' b r n seen :=
  (hg.block r (Array.getElem?_eq_some_iff.1 h).1 hr).trans h
theorem MapAt.since {κ : Type} {ek : κ → Value} {w : World} {b : Nat} {l : List (κ × Value)} (h : MapAt ek w b l) (y : Since w) : MapAt ek y.w b l := Since.heap h y
theorem MapAt.keep {κ : Type} {ek : κ → Value} {w w' : World} {b : Nat} {l : List (κ × Value)} {row : Option Nat} (h : MapAt ek w b l) (hg : w.grownBy w' row) (hr : some b ≠ row) : MapAt ek w' b l :=
  (hg.block b (Array.getElem?_eq_some_iff.1 h).1 hr).trans h
theorem grownBy_setBlock (w : World) (r : Nat) (o : Obj) : w.grownBy (setBlock w r o) (some r) :=
  ⟨rfl, rfl, rfl, by rw [setBlock_size]; exact Nat.le_refl _, fun i _ hi => setBlock_ne (by intro e; subst e; exact hi rfl)⟩

section
variable {κ : Type} {ek : κ → Value} {P : Program} {ops : Array Oper} {rest : List Oper} {o : Oper} {a : Act} {Q : Exit → Act → World → Prop} {w0 w : World} {kt et : TypeId} {b : Nat} {l : List (κ × Value)}
/-- 'range m' -/
theorem wpList_rangeM (hw : ∃ y : Since w0, w = y.w) (hg : o.guard = none) (m : Operand) (t : TypeId) (hop : o.op = Op.range t m) (ht : P.underlying t = some (.map kt et)) (hm : a.eval m = .map (some b)) (h : MapAt ek w b l)
    (hK : ∀ (q : Since w0) (r : Nat), MapAt ek q.w b l → IterAt q.w b r l.length #[] → w0.heap.size ≤ r → w.heap.size = r → w.grownBy q.w none → wpList P ops Q rest (a.put o.dst (.pointer (some ⟨r, 0, none⟩))) q.w) :
    wpList P ops Q (o :: rest) a w := by
  obtain ⟨y, rfl⟩ := hw
  refine wpList_plain hg fun K' hK' => ?_
  have hrun : (Instr.range t (.map (some b))).run P y.w = .ok (.pointer (some ⟨y.w.heap.size, 0, none⟩)) (y.w.alloc (.mapIter (some b) l.length #[] l.length)) := by
    simp [Instr.range, Sem.run_bind, run_underlying ht, MapKept.run_getObj_map h, Result.andThen, go_sem]
  unfold Oper.wp
  simp only [execOp, hop, hm, Sem.run_bind, hrun, Result.andThen]
  obtain ⟨q, hq⟩ := y.alloc (.mapIter (some b) l.length #[] l.length)
  have hgr : y.w.grownBy (y.w.alloc (.mapIter (some b) l.length #[] l.length)) none := World.grownBy_alloc y.w _ none
  have hit : IterAt (y.w.alloc (.mapIter (some b) l.length #[] l.length)) b y.w.heap.size l.length #[] := by unfold IterAt; exact heap_alloc_new _ _
  rw [hq] at hgr hit ⊢
  exact hK' _ _ (hK q _ (h.keep hgr (by simp)) hit y.b.size rfl hgr)
/-- a step of 'range m' -/
theorem wpList_nextM [DecidableEq κ] (hw : ∃ y : Since w0, w = y.w) (hg : o.guard = none) (it : Operand) (hop : o.op = Op.next it false) {r : Nat} (hr0 : w0.heap.size ≤ r) (hit : a.eval it = .pointer (some ⟨r, 0, none⟩)) {seen : Array Nat} (h : MapAt ek w b l) (hr : IterAt w b r l.length seen) (hs : SeenOk l.length seen)
    (hDone : (∀ i, i < l.length → i ∈ seen) → wpList P ops Q rest (a.put o.dst (.tuple #[.bool false])) w)
    (hMore : ∀ (i : Nat) (x : κ) (v : Value) (q : Since w0), l[i]? = some (x, v) → i ∉ seen → MapAt ek q.w b l → IterAt q.w b r l.length (seen.push i) → SeenOk l.length (seen.push i) → w.grownBy q.w (some r) → (Instr.entry (.pointer (some ⟨r, 0, none⟩))).run P q.w = .ok (.tuple #[ek x, v]) q.w → wpList P ops Q rest (a.put o.dst (.tuple #[.bool true, ek x, v])) q.w) :
    wpList P ops Q (o :: rest) a w := by
  obtain ⟨y, rfl⟩ := hw
  refine wpList_plain hg fun K' hK' => ?_
  unfold Oper.wp
  rcases run_iter_next (P := P) o.type h hr with ⟨hall, hrun⟩ | ⟨i, x, v, w1, hi, hn, hw1, hrun⟩
  · simp only [execOp, hop, hit, Sem.run_bind, hrun, Result.andThen]
    exact hK' _ _ (hDone hall)
  · simp only [execOp, hop, hit, Sem.run_bind, hrun, Result.andThen]
    have hne : b ≠ r := by
      rintro rfl
      unfold MapAt at h; unfold IterAt at hr
      rw [h] at hr; cases hr
    have hrl : r < y.w.heap.size := (Array.getElem?_eq_some_iff.1 hr).1
    have hg1 : y.w.grownBy w1 (some r) := by
      rcases hw1 with rfl | rfl
      · exact World.grownBy.refl _ _
      · exact ⟨rfl, rfl, rfl, Nat.le_refl _, fun _ _ _ => rfl⟩
    have hrl1 : r < w1.heap.size := Nat.lt_of_lt_of_le hrl hg1.size
    have hgr : y.w.grownBy (setBlock w1 r (.mapIter (some b) l.length (seen.push i) l.length)) (some r) := by
      have h2 := grownBy_setBlock w1 r (.mapIter (some b) l.length (seen.push i) l.length)
      exact ⟨h2.os.trans hg1.os, h2.tape.trans hg1.tape, h2.output.trans hg1.output, Nat.le_trans hg1.size h2.size, fun j hj hjr => (h2.block j (Nat.lt_of_lt_of_le hj hg1.size) hjr).trans (hg1.block j hj hjr)⟩
    have hit2 : IterAt (setBlock w1 r (.mapIter (some b) l.length (seen.push i) l.length)) b r l.length (seen.push i) := by unfold IterAt; exact setBlock_at hrl1
    have hm2 : MapAt ek (setBlock w1 r (.mapIter (some b) l.length (seen.push i) l.length)) b l := h.keep hgr (by simpa using hne)
    obtain ⟨q, hq⟩ := y.grown hgr (fun k hk => by cases hk; exact hr0)
    rw [hq] at hgr hit2 hm2 ⊢
    exact hK' _ _ (hMore i x v q hi hn hm2 hit2 (hs.push (List.getElem?_eq_some_iff.1 hi).1 hn) hgr (run_iter_entry hm2 hit2 hi))
/-- 'm[k]', 'v, ok := m[k]' -/
theorem wpList_lookM [DecidableEq κ] {now : Bool} (K : KeyOps P kt ek now) (hg : o.guard = none) (m x : Operand) (t : TypeId) (ok : Bool) (hop : o.op = Op.lookup t m x ok) (ht : P.underlying t = some (.map kt et)) {z : Value} (hz : ∀ w, (zeroValue et).run P w = .ok z w) (hm : a.eval m = .map (some b)) (key : κ) (hx : a.eval x = ek key) (h : MapAt ek w b l)
    (hK : wpList P ops Q rest (a.put o.dst (if ok then .tuple #[lkV key l z, .bool (lkB key l)] else lkV key l z)) w) : wpList P ops Q (o :: rest) a w := by
  refine wpList_plain hg fun K' hK' => ?_
  unfold Oper.wp
  simp only [execOp, hop, hm, hx, Sem.run_bind, run_look K h ht (hz w) key ok, Result.andThen]
  exact hK' _ _ hK
/-- 'm[k] = v', k new -/
theorem wpList_storeM [DecidableEq κ] {now : Bool} (K : KeyOps P kt ek now) (hg : o.guard = none) (m x v : Operand) (t : TypeId) (hop : o.op = Op.mapUpdate t m x v) (ht : P.underlying t = some (.map kt et)) (hm : a.eval m = .map (some b)) (key : κ) (hx : a.eval x = ek key) (val : Value) (hv : a.eval v = val) (h : MapAt ek w b l) (hnew : lkF key l 0 = none)
    (hK : ∀ w', MapAt ek w' b (l ++ [(key, val)]) → w.grownBy w' (some b) → wpList P ops Q rest (a.put o.dst undef) w') : wpList P ops Q (o :: rest) a w := by
  refine wpList_plain hg fun K' hK' => ?_
  obtain ⟨w', hrun, e⟩ := run_store_new K h ht key val hnew
  unfold Oper.wp
  simp only [execOp, hop, hm, hx, hv, Sem.run_bind, hrun, Result.andThen]
  have hb : b < w.heap.size := (Array.getElem?_eq_some_iff.1 h).1
  have h1 : MapAt ek w' b (l ++ [(key, val)]) := by rw [e]; exact setBlock_at hb
  have h2 : w.grownBy w' (some b) := by rw [e]; exact grownBy_setBlock _ _ _
  exact hK' _ _ (hK w' h1 h2)
end
end Go.Proofs.Ytcpfogbjbinjcaa
