/- Slices whose elements have several cells: how they read, how they grow: generic, no program in sight. -/
import Derived.Test.YtnkmngkinjjbfaaDoorLib
set_option linter.all false
namespace Go.Proofs.YtnkmngkinjjbfaaDoor
open Go.RowKit

section
variable {α : Type} (enc : α → List Value) (k : Nat)
/-- the slice at a reads as the list l: element i lies in k cells -/
def Els (w : World) (a : Option Addr) (l : List α) : Prop :=
  ∀ i x, l[i]? = some x → ∃ b off, a = some ⟨b, off, none⟩ ∧ b < w.heap.size ∧ ∀ j v, (enc x)[j]? = some v → w.cell? ⟨b, off + i * k + j, none⟩ = some v
/-- all cells of a list of elements -/
def flat (l : List α) : List Value := l.flatMap enc
theorem flat_nil : flat enc [] = [] := rfl
theorem flat_append (l m : List α) : flat enc (l ++ m) = flat enc l ++ flat enc m := by simp [flat]
theorem flat_one (x : α) : flat enc [x] = enc x := by simp [flat]
variable {enc k}
theorem flat_length (hk : ∀ x, (enc x).length = k) (l : List α) : (flat enc l).length = l.length * k := by
  induction l with
  | nil => simp [flat]
  | cons x l ih =>
    have : flat enc (x :: l) = enc x ++ flat enc l := by simp [flat]
    rw [this, List.length_append, ih, hk, List.length_cons, Nat.succ_mul]; omega
theorem flat_at (hk : ∀ x, (enc x).length = k) : ∀ (l : List α) (i : Nat) (x : α) (j : Nat) (v : Value), l[i]? = some x → (enc x)[j]? = some v → (flat enc l)[i * k + j]? = some v
  | [], i, x, j, v, h, _ => by simp at h
  | y :: l, 0, x, j, v, h, hv => by
    simp at h; subst h
    have : flat enc (y :: l) = enc y ++ flat enc l := by simp [flat]
    rw [this, Nat.zero_mul, Nat.zero_add, List.getElem?_append_left (List.getElem?_eq_some_iff.1 hv).1]
    exact hv
  | y :: l, i + 1, x, j, v, h, hv => by
    have : flat enc (y :: l) = enc y ++ flat enc l := by simp [flat]
    rw [this, List.getElem?_append_right (by rw [hk, Nat.succ_mul]; omega), hk, show (i + 1) * k + j - k = i * k + j by rw [Nat.succ_mul]; omega]
    exact flat_at hk l i x j v (by simpa using h) hv
theorem flat_take (hk : ∀ x, (enc x).length = k) : ∀ (l : List α) (m : Nat), (flat enc l).take (m * k) = flat enc (l.take m)
  | [], m => by simp [flat]
  | x :: l, 0 => by simp [flat]
  | x :: l, m + 1 => by
    have e1 : flat enc (x :: l) = enc x ++ flat enc l := by simp [flat]
    have e2 : flat enc ((x :: l).take (m + 1)) = enc x ++ flat enc (l.take m) := by simp [flat]
    rw [e1, e2, List.take_append, hk, List.take_of_length_le (by rw [hk, Nat.succ_mul]; omega), show (m + 1) * k - k = m * k by rw [Nat.succ_mul]; omega, flat_take hk l m]

theorem Els.below {B : Nat} {w w' : World} {a l} (h : Els enc k w a l) (hb : Below B w w') (hB : w.heap.size ≤ B) : Els enc k w' a l := by
  intro i x hx
  obtain ⟨b, off, ha, hlt, hc⟩ := h i x hx
  exact ⟨b, off, ha, Nat.lt_of_lt_of_le hlt hb.size, fun j v hv => by rw [hb.cell (p := ⟨b, off + i * k + j, none⟩) (Nat.lt_of_lt_of_le hlt hB)]; exact hc j v hv⟩
theorem Since.els {w0 : World} {a l} (h : Els enc k w0 a l) (y : Since w0) : Els enc k y.w a l := h.below y.b (Nat.le_refl _)
theorem Els.to {w W : World} {a l} (h : Els enc k w a l) (hW : ∃ z : Since w, W = z.w) : Els enc k W a l := by
  obtain ⟨z, rfl⟩ := hW; exact Since.els h z
theorem els_nil (w : World) (a : Option Addr) : Els enc k w a [] := fun i x h => by simp at h
/-- what it takes is that the blocks that it lies in stay -/
theorem Els.keep {w w' : World} {a l} (h : Els enc k w a l) (hs : w.heap.size ≤ w'.heap.size) (hb : ∀ b off, a = some ⟨b, off, none⟩ → b < w.heap.size → w'.heap[b]? = w.heap[b]?) : Els enc k w' a l := by
  intro i x hx
  obtain ⟨b, off, ha, hlt, hc⟩ := h i x hx
  exact ⟨b, off, ha, by omega, fun j v hv => by rw [World.cell?_of_block (w := w) (a := ⟨b, off + i * k + j, none⟩) (hb b off ha hlt)]; exact hc j v hv⟩
theorem Els.cut {w : World} {a : Option Addr} {l : List α} (h : Els enc k w a l) (u m : Nat) (hm : l.length ≤ m) : Els enc k w (cutA a u m k) (l.drop u) := by
  intro i x hx
  rw [List.getElem?_drop] at hx
  obtain ⟨b, off, rfl, hb, hc⟩ := h (u + i) x hx
  have hlt : u + i < l.length := (List.getElem?_eq_some_iff.1 hx).1
  refine ⟨b, off + u * k, ?_, hb, fun j v hv => ?_⟩
  · unfold cutA
    rw [if_neg (by omega)]
    simp only [Option.map_some, Addr.add]
    split
    · rename_i h0; rw [h0]; rfl
    · rfl
  · have := hc j v hv
    rw [show off + u * k + i * k + j = off + (u + i) * k + j by rw [Nat.add_mul]; omega]
    exact this
theorem Els.take {w : World} {a : Option Addr} {l : List α} (h : Els enc k w a l) (m : Nat) : Els enc k w a (l.take m) := by
  intro i x hx
  rw [List.getElem?_take] at hx
  split at hx
  · exact h i x hx
  · cases hx

theorem own_els (hk : ∀ x, (enc x).length = k) (h0 : 0 < k) {w : World} {base : Nat} {e : TypeId} {v : Value} {n : Nat} {l : List α} (h : w.ownsRow base e k v n (flat enc l)) :
    n = l.length ∧ ∃ a cap, v = .slice a l.length cap ∧ l.length ≤ cap ∧ Els enc k w a l ∧ (∀ b, a = some b → base ≤ b.block) ∧ (∀ b, a = some b → v.ownBlock = some b.block) := by
  have hn : n = l.length := by
    have := h.1
    rw [flat_length hk] at this
    exact (Nat.eq_of_mul_eq_mul_right h0 this).symm
  subst hn
  refine ⟨rfl, ?_⟩
  obtain ⟨hl, h | ⟨g, cap, cur, rfl, hg, hh, hn, hm, hs, ht⟩⟩ := h
  · obtain ⟨rfl, hz⟩ := h
    have : l = [] := List.eq_nil_of_length_eq_zero hz
    subst this
    exact ⟨none, 0, rfl, Nat.le_refl _, els_nil _ _, fun b hb => (by cases hb), fun b hb => (by cases hb)⟩
  · refine ⟨some ⟨g, 0, none⟩, cap, rfl, hn, fun i x hx => ?_, fun b hb => by cases hb; exact hg, fun b hb => by cases hb; rfl⟩
    refine ⟨g, 0, rfl, (Array.getElem?_eq_some_iff.1 hh).1, fun j v hv => ?_⟩
    have hf := flat_at hk l i x j v hx hv
    rw [← ht, List.getElem?_take] at hf
    split at hf
    · simp only [World.cell?, hh]
      simpa using hf
    · cases hf
theorem cell_new_at (w : World) (cs : List Value) (T : TypeId) (j : Nat) (u : Value) (h : cs[j]? = some u) : (w.alloc (.cells cs.toArray T)).cell? ((⟨w.heap.size, 0, none⟩ : Addr).add j) = some u := by
  have hh : (w.alloc (.cells cs.toArray T)).heap[w.heap.size]? = some (.cells cs.toArray T) := by show (w.heap.push _)[w.heap.size]? = _; simp
  rw [Addr.add_lit]
  simp only [World.cell?, hh, Nat.zero_add]
  simpa using h
theorem own_to {w W : World} {base : Nat} {e : TypeId} {s : Nat} {v : Value} {n : Nat} {xs : List Value} (h : w.ownsRow base e s v n xs) (hW : ∃ z : Since w, W = z.w) : W.ownsRow base e s v n xs := by
  obtain ⟨z, rfl⟩ := hW; exact own_since h z.b
theorem own_keep {w w' : World} {base : Nat} {e : TypeId} {s : Nat} {v : Value} {n : Nat} {xs : List Value} {row : Option Nat} (h : w.ownsRow base e s v n xs) (hg : w.grownBy w' row) (hr : ∀ b, v.ownBlock = some b → some b ≠ row) : w'.ownsRow base e s v n xs := by
  obtain ⟨hl, h | ⟨g, cap, cur, rfl, hb, hh, r⟩⟩ := h
  · exact ⟨hl, .inl h⟩
  · exact ⟨hl, .inr ⟨g, cap, cur, rfl, hb, by rw [hg.block g (Array.getElem?_eq_some_iff.1 hh).1 (hr g rfl)]; exact hh, r⟩⟩
/-- the block of a slice of the call's own is a block of cells -/
theorem own_ne {w : World} {base : Nat} {e : TypeId} {s : Nat} {v : Value} {n : Nat} {xs : List Value} {r : Nat} {o : Obj} (h : w.ownsRow base e s v n xs) (hr : w.heap[r]? = some o) (ho : ∀ c t f, o ≠ .cells c t f) : ∀ b, v.ownBlock = some b → b ≠ r := by
  obtain ⟨hl, ⟨rfl, _⟩ | ⟨g, cap, cur, rfl, hb, hh, _⟩⟩ := h
  · intro b hb; cases hb
  · intro b hb' e
    cases hb'
    change g = r at e
    subst e
    rw [hr] at hh
    exact ho _ _ _ (Option.some.inj hh)
/-- 'append(v, us...)': v is nil or the call's own -/
theorem wpList_appendK {P : Program} {ops : Array Oper} {rest : List Oper} {o : Oper} {a : Act} {Q : Exit → Act → World → Prop} {w0 w : World} (hw : ∃ y : Since w0, w = y.w) (hgd : o.guard = none) (s x : Operand) (t : TypeId)
    (ho : o.op = .call { callee := .builtin .append, args := #[s, x], argTypes := #[t, t] })
    (base : Nat) (hbase : w0.heap.size ≤ base) (hbase' : base ≤ w.heap.size) (e : TypeId) (z : Value) (bytes : Nat) (ht : SliceOf P t e z k bytes) (v : Value) (n : Nat) (xs : List Value) (hs : a.eval s = v) (hown : w.ownsRow base e k v n xs)
    (ad : Addr) (m c : Nat) (news : List Value) (hx : a.eval x = .slice (some ad) m c) (hn : news.length = m * k) (hc : ∀ j u, news[j]? = some u → w.cell? (ad.add j) = some u) (h1 : ∀ u ∈ news, u.oneCell' = true)
    (h63 : n + m ≤ maxLen) (hbytes : (n + m) * bytes ≤ 140737488355328)
    (h : ∀ v' (q : Since w0), q.w.ownsRow base e k v' (n + m) (xs ++ news) → base ≤ q.w.heap.size → w.grownBy q.w v.ownBlock → wpList P ops Q rest (a.put o.dst v') q.w) : wpList P ops Q (o :: rest) a w := by
  obtain ⟨y, rfl⟩ := hw
  obtain ⟨i, hi, hz, hsize, hby⟩ := ht.e
  refine wpList_append_own y.w hgd s x t ho base e i z k bytes ht.t hi hz hsize hby ht.z ht.s v n xs hs hown ad m c news hx hn hc h1 h63 hbytes hbase' ?_
  intro v' w' hown' hg _
  obtain ⟨q, rfl⟩ := y.grown hg (fun k hk => Nat.le_trans hbase (own_block hown k hk))
  exact h v' q hown' (Nat.le_trans hbase' hg.size) hg
theorem flat_inv (hk : ∀ x, (enc x).length = k) (h0 : 0 < k) : ∀ (l : List α) (j : Nat) (u : Value), (flat enc l)[j]? = some u → ∃ x, l[j / k]? = some x ∧ (enc x)[j % k]? = some u
  | [], j, u, h => by simp [flat] at h
  | y :: l, j, u, h => by
    have e : flat enc (y :: l) = enc y ++ flat enc l := by simp [flat]
    rw [e] at h
    by_cases hj : j < k
    · rw [List.getElem?_append_left (by rw [hk]; exact hj)] at h
      exact ⟨y, by rw [Nat.div_eq_of_lt hj]; rfl, by rw [Nat.mod_eq_of_lt hj]; exact h⟩
    · rw [List.getElem?_append_right (by rw [hk]; omega), hk] at h
      obtain ⟨x, h1, h2⟩ := flat_inv hk h0 l (j - k) u h
      have e1 : j / k = (j - k) / k + 1 := by
        have := Nat.add_div_right (j - k) h0
        rw [show j - k + k = j by omega] at this; exact this
      have e2 : j % k = (j - k) % k := by
        have := Nat.add_mod_right (j - k) k
        rw [show j - k + k = j by omega] at this; exact this
      exact ⟨x, by rw [e1]; simpa using h1, by rw [e2]; exact h2⟩
/-- 'append(v, us...)': v is nil or the call's own, us a slice that reads so -/
theorem wpList_appendEls {P : Program} {ops : Array Oper} {rest : List Oper} {o : Oper} {a : Act} {Q : Exit → Act → World → Prop} {w0 w : World} (hk : ∀ x, (enc x).length = k) (h0 : 0 < k) (h1 : ∀ x, ∀ u ∈ enc x, u.oneCell' = true) (hw : ∃ y : Since w0, w = y.w) (hgd : o.guard = none) (s x : Operand) (t : TypeId)
    (ho : o.op = .call { callee := .builtin .append, args := #[s, x], argTypes := #[t, t] })
    (base : Nat) (hbase : w0.heap.size ≤ base) (hbase' : base ≤ w.heap.size) (e : TypeId) (z : Value) (bytes : Nat) (ht : SliceOf P t e z k bytes) (v : Value) (n : Nat) (xs : List Value) (hs : a.eval s = v) (hown : w.ownsRow base e k v n xs)
    (ao : Option Addr) (us : List α) (c : Nat) (hx : a.eval x = .slice ao us.length c) (hels : Els enc k w ao us) (hnil : ao = none → c = 0)
    (h63 : n + us.length ≤ maxLen) (hbytes : (n + us.length) * bytes ≤ 140737488355328)
    (h : ∀ v' (q : Since w0), q.w.ownsRow base e k v' (n + us.length) (xs ++ flat enc us) → base ≤ q.w.heap.size → w.grownBy q.w v.ownBlock → wpList P ops Q rest (a.put o.dst v') q.w) : wpList P ops Q (o :: rest) a w := by
  cases ao with
  | none =>
    have hus : us = [] := by
      cases us with
      | nil => rfl
      | cons y us =>
        obtain ⟨b, off, hb, _⟩ := hels 0 y rfl
        cases hb
    subst hus
    obtain rfl := hnil rfl
    obtain ⟨y, rfl⟩ := hw
    obtain ⟨i, hi, hz, hsize, hby⟩ := ht.e
    refine wpList_plain hgd fun K hK' => ?_
    have hrun := run_append_owned_none (P := P) y.w base t o.type e i k ht.t hi v n xs hown
    unfold Oper.wp
    simp [execOp, ho, resolve, invoke, builtin, hs, hx, hrun, Result.andThen]
    exact hK' _ _ (h v y (by simpa [flat] using hown) hbase' (World.grownBy.refl _ _))
  | some ad =>
    refine wpList_appendK hw hgd s x t ho base hbase hbase' e z bytes ht v n xs hs hown ad us.length c (flat enc us) hx (flat_length hk us) ?_ ?_ h63 hbytes h
    · intro j u hu
      obtain ⟨y, hy, hr⟩ := flat_inv hk h0 us j u hu
      obtain ⟨b, off, hb, _, hc⟩ := hels _ y hy
      have hb' : ad = ⟨b, off, none⟩ := Option.some.inj hb
      subst hb'
      have := hc _ u hr
      rw [Addr.add_lit, show off + j = off + j / k * k + j % k by rw [Nat.add_assoc, Nat.mul_comm, Nat.div_add_mod]]
      exact this
    · intro u hu
      obtain ⟨y, _, hy⟩ := List.mem_flatMap.1 hu
      exact h1 y u hy
end
end Go.Proofs.YtnkmngkinjjbfaaDoor
