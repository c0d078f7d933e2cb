/- 'copy' between slices of structs: generic, no program in sight. -/
import Derived.Test.YtnkmngkinjjbfaaDoorEls
import Derived.Laws.IdiomCopy
set_option linter.all false
namespace Go.Proofs.YtnkmngkinjjbfaaDoor
open Go.RowKit

section
variable {P : Program}
theorem run_copyK (w : World) (dT sT ty elem : TypeId) (k b o dLen dCap : Nat) (a : Addr) (sLen sCap : Nat) (cs : List Value)
    (hu : P.underlying dT = some (.slice elem)) (hs : (P.info? elem).map (·.size) = some k) (hn : cs.length = Nat.min sLen dLen * k)
    (hsrc : ∀ j v, cs[j]? = some v → w.cell? (a.add j) = some v) (hc : ∀ j, j < cs.length → (w.cell? ⟨b, o + j, none⟩).isSome = true) (hf : ∀ j, j < cs.length → w.frozen? ⟨b, o + j, none⟩ = false) (h1 : ∀ v ∈ cs, v.oneCell' = true) :
    (Builtin.copy_ #[dT, sT] ty #[.slice (some ⟨b, o, none⟩) dLen dCap, .slice (some a) sLen sCap]).run P w = .ok (goInt (Nat.min sLen dLen : Nat)) (w.setCells b o cs) := by
  have hl := run_loadCells_list (P := P) w a cs hsrc
  have hst := run_storeCells_cells (P := P) b o cs 0 w (by simpa using hc) (by simpa using hf) h1
  cases hq : P.info? elem with
  | none => simp [hq] at hs
  | some i =>
    have hi : i.size = k := by simpa [hq] using hs
    simp [Builtin.copy_, run_underlying hu, Builtin.lenOf, Builtin.firstCells, sizeOf, typeInfo, hq, hi, ← hn, hl, hst]
theorem run_copyK_none (w : World) (dT sT ty elem : TypeId) (k : Nat) (d a : Option Addr) (dLen dCap sLen sCap : Nat) (hu : P.underlying dT = some (.slice elem)) (hs : (P.info? elem).map (·.size) = some k) (hn : Nat.min sLen dLen = 0) :
    (Builtin.copy_ #[dT, sT] ty #[.slice d dLen dCap, .slice a sLen sCap]).run P w = .ok (goInt 0) w := by
  cases hq : P.info? elem with
  | none => simp [hq] at hs
  | some i =>
    have hl : ∀ (x : Addr), (loadCells x 0).run P w = .ok #[] w := fun x => by simpa using run_loadCells_list (P := P) w x [] (by simp)
    cases d <;> cases a <;> simp [Builtin.copy_, run_underlying hu, Builtin.lenOf, Builtin.firstCells, sizeOf, typeInfo, hq, hn, storeCells, hl]
end
theorem setCells_block (g : Nat) (e : TypeId) (fr : Nat × Nat) : ∀ (vs : List Value) (o : Nat) (w : World) (cur : Array Value), w.heap[g]? = some (.cells cur e fr) → ∃ cur', (w.setCells g o vs).heap[g]? = some (.cells cur' e fr) ∧ cur'.size = cur.size
  | [], _, _, cur, h => ⟨cur, h, rfl⟩
  | v :: vs, o, w, cur, h => by
    have h1 : (w.setCell ⟨g, o, none⟩ v).heap[g]? = some (.cells (cur.setIfInBounds o v) e fr) := by
      simp [World.setCell, Array.getElem?_modify, h]
    obtain ⟨cur', h2, h3⟩ := setCells_block g e fr vs (o + 1) _ _ h1
    exact ⟨cur', h2, by rw [h3]; simp⟩
theorem setCells_grown (g : Nat) (vs : List Value) (o : Nat) (w : World) : w.grownBy (w.setCells g o vs) (some g) := by
  have hs : ∀ (vs : List Value) (o : Nat) (w : World), (w.setCells g o vs).os = w.os ∧ (w.setCells g o vs).tape = w.tape ∧ (w.setCells g o vs).output = w.output ∧ (w.setCells g o vs).heap.size = w.heap.size ∧ ∀ j, j ≠ g → (w.setCells g o vs).heap[j]? = w.heap[j]? := by
    intro vs
    induction vs with
    | nil => intro o w; exact ⟨rfl, rfl, rfl, rfl, fun _ _ => rfl⟩
    | cons v vs ih =>
      intro o w
      obtain ⟨h1, h2, h3, h4, h5⟩ := ih (o + 1) (w.setCell ⟨g, o, none⟩ v)
      exact ⟨h1, h2, h3, h4.trans (by simp [World.setCell]), fun j hj => (h5 j hj).trans (Below.heap_setCell w ⟨g, o, none⟩ v j hj)⟩
  obtain ⟨h1, h2, h3, h4, h5⟩ := hs vs o w
  exact ⟨h1, h2, h3, Nat.le_of_eq h4.symm, fun j _ hj => h5 j (fun e => hj (by rw [e]))⟩
section
variable {α : Type} {enc : α → List Value} {k : Nat}
/-- cells laid over a slice of the call's own -/
theorem own_over {w : World} {base : Nat} {e : TypeId} {g n cap : Nat} {xs : List Value} (h : w.ownsRow base e k (.slice (some ⟨g, 0, none⟩) n cap) n xs) (cs : List Value) (hl : cs.length = n * k) : (w.setCells g 0 cs).ownsRow base e k (.slice (some ⟨g, 0, none⟩) n cap) n cs := by
  obtain ⟨_, ⟨hbad, _⟩ | ⟨g', cap', cur, he, hb, hh, h1, h2, h3, h4⟩⟩ := h
  · cases hbad
  · obtain ⟨rfl, rfl⟩ : g = g' ∧ cap = cap' := by simpa using he
    obtain ⟨cur', hh', hsz⟩ := setCells_block g e (0, 0) cs 0 w cur hh
    have hle : n * k ≤ cap * k := Nat.mul_le_mul_right k h1
    refine ⟨hl, .inr ⟨g, cap, cur', rfl, hb, hh', h1, h2, by rw [hsz, h3], ?_⟩⟩
    apply List.ext_getElem?
    intro j
    by_cases hj : j < n * k
    · rw [List.getElem?_take, if_pos hj]
      have hc := World.cell?_setCells_in g cs 0 w (fun i hi => by
        simp only [World.cell?, hh, Nat.zero_add]
        have : i < cur.size := by omega
        simp [this]) j (by omega)
      simp only [World.cell?, hh', Nat.zero_add] at hc
      rw [List.getElem?_eq_getElem (show j < cs.length by omega), ← hc]
      simp
    · rw [List.getElem?_eq_none (by simp; omega), List.getElem?_eq_none (by omega)]
/-- one cell of a slice of the call's own is written -/
theorem own_setcell {w : World} {base : Nat} {e : TypeId} {g n cap : Nat} {xs : List Value} (h : w.ownsRow base e k (.slice (some ⟨g, 0, none⟩) n cap) n xs) {j : Nat} (_hj : j < xs.length) (u : Value) : (w.setCell ⟨g, j, none⟩ u).ownsRow base e k (.slice (some ⟨g, 0, none⟩) n cap) n (xs.set j u) := by
  obtain ⟨hl, ⟨hbad, _⟩ | ⟨g', cap', cur, he, hb, hh, h1, h2, h3, h4⟩⟩ := h
  · cases hbad
  · obtain ⟨rfl, rfl⟩ : g = g' ∧ cap = cap' := by simpa using he
    have h5 : (w.setCell ⟨g, j, none⟩ u).heap[g]? = some (.cells (cur.setIfInBounds j u) e (0, 0)) := by
      simp [World.setCell, Array.getElem?_modify, hh]
    refine ⟨by simpa using hl, .inr ⟨g, cap, cur.setIfInBounds j u, rfl, hb, h5, h1, h2, by simpa using h3, ?_⟩⟩
    rw [Array.toList_setIfInBounds, List.take_set, h4]
/-- its cells may be read and written -/
theorem own_cell {w : World} {base : Nat} {e : TypeId} {g n cap : Nat} {xs : List Value} (h : w.ownsRow base e k (.slice (some ⟨g, 0, none⟩) n cap) n xs) {j : Nat} {u : Value} (hj : xs[j]? = some u) : (∀ y : Since w, y.w.cell? ⟨g, j, none⟩ = some u) ∧ (∀ y : Since w, y.w.frozen? ⟨g, j, none⟩ = false) ∧ base ≤ g := by
  obtain ⟨hl, ⟨hbad, _⟩ | ⟨g', cap', cur, he, hb, hh, h1, h2, h3, h4⟩⟩ := h
  · cases hbad
  · obtain ⟨rfl, rfl⟩ : g = g' ∧ cap = cap' := by simpa using he
    have hlt : g < w.heap.size := (Array.getElem?_eq_some_iff.1 hh).1
    rw [← h4, List.getElem?_take] at hj
    split at hj
    · refine ⟨fun y => Since.cell ?_ hlt y, fun y => Since.free ?_ hlt y, hb⟩
      · simp only [World.cell?, hh]
        simpa using hj
      · simp [World.frozen?, hh]
    · cases hj
theorem own_some {w : World} {base : Nat} {e : TypeId} {v : Value} {n : Nat} {xs : List Value} (h : w.ownsRow base e k v n xs) (hn : 0 < n) : ∃ g cap, v = .slice (some ⟨g, 0, none⟩) n cap ∧ base ≤ g ∧ n ≤ cap := by
  obtain ⟨_, ⟨rfl, hz⟩ | ⟨g, cap, cur, rfl, hg, _, h1, _⟩⟩ := h
  · omega
  · exact ⟨g, cap, rfl, hg, h1⟩
/-- 'copy(d, s)', both of one length, d the call's own -/
theorem copyEls_run {P : Program} {w0 : World} (y : Since w0) (hk : ∀ x, (enc x).length = k) (h0 : 0 < k) (h1 : ∀ x, ∀ u ∈ enc x, u.oneCell' = true) (t ty : TypeId)
    (base : Nat) (hbase : w0.heap.size ≤ base) (e : TypeId) (z : Value) (bytes : Nat) (ht : SliceOf P t e z k bytes) (v : Value) (n : Nat) (xs : List Value) (hown : y.w.ownsRow base e k v n xs)
    (ao : Option Addr) (us : List α) (c : Nat) (hels : Els enc k y.w ao us) (hlen : us.length = n) :
    ∃ q : Since w0, (Builtin.copy_ #[t, t] ty #[v, .slice ao us.length c]).run P y.w = .ok (goInt (n : Nat)) q.w ∧ q.w.ownsRow base e k v n (flat enc us) ∧ y.w.grownBy q.w v.ownBlock := by
  obtain ⟨i, hi, hz, hsize, hby⟩ := ht.e
  have hsz : (P.info? e).map (·.size) = some k := by rw [hi]; simp [hsize]
  by_cases hn : n = 0
  · subst hn
    have hus : us = [] := List.eq_nil_of_length_eq_zero hlen
    subst hus
    have hv : ∃ p cap, v = .slice p 0 cap := by
      obtain ⟨_, ⟨rfl, _⟩ | ⟨g, cap, cur, rfl, _⟩⟩ := hown
      · exact ⟨none, 0, rfl⟩
      · exact ⟨_, cap, rfl⟩
    obtain ⟨p, cap, rfl⟩ := hv
    have hrun := run_copyK_none (P := P) y.w t t ty e k p ao 0 cap 0 c ht.t hsz rfl
    have hxs : xs = [] := by have := hown.1; simpa using this
    exact ⟨y, hrun, by rw [flat_nil, ← hxs]; exact hown, World.grownBy.refl _ _⟩
  · obtain ⟨b, off, rfl, hb, _⟩ := hels 0 (us[0]'(by omega)) (List.getElem?_eq_getElem (by omega))
    have hown' := hown
    obtain ⟨_, ⟨rfl, hz0⟩ | ⟨g, cap, cur, rfl, hg, hh, h2, h3, h4, h5⟩⟩ := hown'
    · exact (hn hz0).elim
    have hfl : (flat enc us).length = n * k := by rw [flat_length hk, hlen]
    have hle : n * k ≤ cap * k := Nat.mul_le_mul_right k h2
    have hrun := run_copyK (P := P) y.w t t ty e k g 0 n cap ⟨b, off, none⟩ us.length c (flat enc us) ht.t hsz (by rw [hfl, hlen]; simp) (fun j u hu => by
      obtain ⟨x, hx', hr⟩ := flat_inv hk h0 us j u hu
      obtain ⟨b', off', hb', _, hc⟩ := hels _ x hx'
      simp only [Option.some.injEq, Addr.mk.injEq, and_true] at hb'
      obtain ⟨rfl, rfl⟩ := hb'
      have := hc _ u hr
      rw [Addr.add_lit, show off + j = off + j / k * k + j % k by rw [Nat.add_assoc, Nat.mul_comm, Nat.div_add_mod]]
      exact this) (fun j hj => by
      have : j < cur.size := by omega
      simp [World.cell?, hh, this]) (fun j hj => by simp [World.frozen?, hh]) (fun u hu => by
      obtain ⟨x, _, hx'⟩ := List.mem_flatMap.1 hu
      exact h1 x u hx')
    rw [show Nat.min us.length n = n by rw [hlen]; exact Nat.min_self n] at hrun
    have hgr := setCells_grown g (flat enc us) 0 y.w
    have hown2 := own_over hown (flat enc us) hfl
    obtain ⟨q, hq⟩ := y.grown hgr (fun k hk => by cases hk; omega)
    rw [hq] at hgr hown2 hrun
    exact ⟨q, hrun, hown2, hgr⟩
end
end Go.Proofs.YtnkmngkinjjbfaaDoor
