/- A box of several cells whose cells are written one by one; rows of the call's own beside it: generic, no program in sight. -/
import Derived.Test.YtefodfpnedcodaaIvMa
import Derived.Shelf.SlSortCmp.NoneTotal
import Derived.Test.YtefodfpnedcodaaProg
import Derived.BigQuiet
import Derived.IntWalk
set_option linter.all false
namespace Go.Proofs.Ytefodfpnedcodaa
open Go.RowKit

theorem BoxIs.setj {w : World} {g j : Nat} {vs : List Value} (h : BoxIs w g vs) (hj : j < vs.length) (u : Value) : BoxIs (w.setCell ⟨g, j, none⟩ u) g (vs.set j u) := by
  refine ⟨by simpa [World.setCell] using h.lt, fun i v hv => ?_, fun o => by rw [World.frozen?_setCell]; exact h.f o⟩
  rw [List.getElem?_set] at hv
  by_cases hji : j = i
  · subst hji
    rw [if_pos rfl, if_pos hj] at hv
    cases hv
    exact World.cell?_setCell_same _ _ _ (h.c j _ (List.getElem?_eq_getElem hj))
  · rw [if_neg hji] at hv
    show ((w.setCells g j [u]).cell? _) = _
    rw [World.cell?_setCells_out g [u] j w ⟨g, i, none⟩ (fun _ _ => by simp; omega), h.c i v hv]
theorem own_ltB {w : World} {B e k n : Nat} {v : Value} {xs : List Value} (h : w.ownsRow B e k v n xs) : ∀ b, v.ownBlock = some b → b < w.heap.size := by
  obtain ⟨_, ⟨rfl, _⟩ | ⟨g, cap, cur, rfl, _, hh, _⟩⟩ := h
  · intro b hb; simp [Value.ownBlock] at hb
  · intro b hb
    obtain rfl : g = b := by simpa [Value.ownBlock] using hb
    exact (Array.getElem?_eq_some_iff.1 hh).1
theorem own_setB {w : World} {B e k n : Nat} {v : Value} {xs : List Value} (h : w.ownsRow B e k v n xs) (p : Addr) (u : Value) (hne : ∀ b, v.ownBlock = some b → b ≠ p.block) : (w.setCell p u).ownsRow B e k v n xs := by
  obtain ⟨hl, h | ⟨g, cap, cur, rfl, hB, hh, r⟩⟩ := h
  · exact ⟨hl, .inl h⟩
  · exact ⟨hl, .inr ⟨g, cap, cur, rfl, hB, (Below.heap_setCell w p u g (hne g rfl)).trans hh, r⟩⟩
theorem own_setsB {B e k n : Nat} {v : Value} {xs : List Value} (g : Nat) : ∀ (vs : List Value) (i : Nat) (w : World), w.ownsRow B e k v n xs → (∀ b, v.ownBlock = some b → b ≠ g) → (w.setCells g i vs).ownsRow B e k v n xs
  | [], _, _, h, _ => h
  | u :: vs, i, w, h, hne => own_setsB g vs (i + 1) (w.setCell ⟨g, i, none⟩ u) (own_setB h _ u hne) hne
/-- a row of the call's own stays where a row of another kind grows -/
theorem own_otherB {w w' : World} {B base e e' k k' n m : Nat} {u v : Value} {xs ys : List Value} (h : w.ownsRow B e k u n xs) (hg : w.grownBy w' v.ownBlock) (hown : w.ownsRow base e' k' v m ys) (hne : e ≠ e') : w'.ownsRow B e k u n xs := by
  obtain ⟨hl, h | ⟨g, cap, cur, rfl, hB, hh, r⟩⟩ := h
  · exact ⟨hl, .inl h⟩
  · refine ⟨hl, .inr ⟨g, cap, cur, rfl, hB, ?_, r⟩⟩
    rw [hg.block g (Array.getElem?_eq_some_iff.1 hh).1 ?_]; exact hh
    obtain ⟨_, ⟨rfl, _⟩ | ⟨g', cap', cur', rfl, _, hh', _⟩⟩ := hown
    · simp [Value.ownBlock]
    · intro he
      have he' : g = g' := by simpa [Value.ownBlock] using he
      subst he'
      rw [hh] at hh'
      simp only [Option.some.injEq, Obj.cells.injEq] at hh'
      exact hne hh'.2.1
theorem own_slice {w : World} {B e k n : Nat} {v : Value} {xs : List Value} (h : w.ownsRow B e k v n xs) : ∃ (a : Option Addr) (m c : Nat), v = .slice a m c := by
  obtain ⟨_, ⟨rfl, _⟩ | ⟨g, cap, cur, rfl, _⟩⟩ := h
  · exact ⟨_, _, _, rfl⟩
  · exact ⟨_, _, _, rfl⟩
theorem BoxIs.grown {w w' : World} {g : Nat} {vs : List Value} {row : Option Nat} (h : BoxIs w g vs) (hg : w.grownBy w' row) (hne : some g ≠ row) : BoxIs w' g vs := by
  have hb := hg.block g h.lt hne
  refine ⟨Nat.lt_of_lt_of_le h.lt hg.size, fun j v hv => ?_, fun o => ?_⟩
  · rw [World.cell?_of_block (w := w) (a := ⟨g, j, none⟩) hb]; exact h.c j v hv
  · have := h.f o
    simp only [World.frozen?] at this ⊢
    rw [hb]; exact this
theorem BoxIs.up {w : World} {g : Nat} {vs : List Value} (h : BoxIs w g vs) (o : Obj) : BoxIs (w.alloc o) g vs := h.to (IsSince.alloc (IsSince.self _) _)
theorem BoxIs.drew {w : World} {g : Nat} {vs : List Value} (h : BoxIs w g vs) : BoxIs w.drew g vs := h.to (IsSince.drew' (IsSince.self _))
end Go.Proofs.Ytefodfpnedcodaa
/- A statement that draws its order and whose last operation alone (number m: it waits for all others) may break the condition S: generic, no program in sight. -/
namespace Go.Proofs.Ytefodfpnedcodaa
open Go.RowKit

section
variable {P : Program} {ops : Array Oper} {Q : Exit → Act → World → Prop} {md : Region.Mode} {S : World → Prop} {m : Nat}

/-- Whatever order is picked, and S holds behind every operation but number m. -/
def wpAnyM (P : Program) (md : Region.Mode) (ops : Array Oper) (Q : Exit → Act → World → Prop) (S : World → Prop) (m : Nat) : Nat → Array Bool → Act → World → Prop
  | 0, listed, a, w => Region.ready md ops listed = [] ∧ Q .normal a w
  | fuel + 1, listed, a, w =>
    (Region.ready md ops listed = [] → Q .normal a w) ∧
    ∀ i ∈ Region.ready md ops listed, wpOp P ops Q i (fun a' w' => (i = m ∨ S w') ∧ wpAnyM P md ops Q S m fuel (listed.setIfInBounds i true) a' w') a w
theorem wpAny_of_M : ∀ (fuel : Nat) (listed : Array Bool) (a : Act) (w : World), wpAnyM P md ops Q S m fuel listed a w → wpAny P md ops Q fuel listed a w
  | 0, _, _, _, h => h
  | fuel + 1, _, _, _, h => ⟨h.1, fun i hi => wpOp_mono (fun a' w' h' => wpAny_of_M fuel _ a' w' h'.2) (h.2 i hi)⟩
/-- number m waits for number i -/
theorem not_m {i : Nat} {listed : Array Bool} (hw : Region.waitsFor md ops m i = true) (hu : listed.getD i true = false) : m ∉ Region.ready md ops listed := by
  intro hr
  obtain ⟨_, ot, hot, hall⟩ := mem_ready.1 hr
  obtain ⟨oj, hoj, e, he, hb, hon⟩ := Region.waitsFor_spec hw
  have : oj = ot := Option.some.inj (hoj.symm.trans hot)
  subst this
  have h2 := hall e he hb
  rw [hon, getD_both hu] at h2
  cases h2
theorem wpAnyM_first {i : Nat} {oi : Oper} {v : Value} (hi : ops[i]? = some oi) (hsel : ∀ (j : Nat) (o : Oper) cs b, ops[j]? = some o → o.op ≠ .select cs b)
    (hQ : ∀ c a w, Q (.panic c) (a.put oi.dst v) w → Q (.panic c) a w) (hm : Region.waitsFor md ops m i = true) :
    ∀ (fuel : Nat) (listed : Array Bool) (a : Act) (w : World),
      (∀ j oj, ops[j]? = some oj → j ≠ i → listed.getD j true = false → (∀ e ∈ oj.after, Region.binds md e = true → e.on ≠ i) → oi.apart ops oj = true) →
      i ∈ Region.ready md ops listed → YieldsIf P ops S oi v a → S w →
      wpAnyM P md ops Q S m fuel (listed.setIfInBounds i true) (a.put oi.dst v) w → wpAnyM P md ops Q S m (fuel + 1) listed a w := by
  intro fuel
  induction fuel with
  | zero =>
    intro listed a w _ hr hy hS H
    refine ⟨fun h => (by rw [h] at hr; cases hr), fun j hj => ?_⟩
    by_cases hji : j = i
    · subst hji; exact hy.wpOp hi hS ⟨.inr hS, H⟩
    · have := ready_mono hj hji
      rw [H.1] at this
      cases this
  | succ fuel ih =>
    intro listed a w hfree hr hy hS H
    have hun := (mem_ready.1 hr).1
    refine ⟨fun h => (by rw [h] at hr; cases hr), fun j hj => ?_⟩
    by_cases hji : j = i
    · subst hji; exact hy.wpOp hi hS ⟨.inr hS, H⟩
    · have hjm : j ≠ m := fun h => not_m hm hun (h ▸ hj)
      have h1 := H.2 j (ready_mono hj hji)
      obtain ⟨hjun, oj, hoj, hall⟩ := mem_ready.1 hj
      have hnot : ∀ e ∈ oj.after, Region.binds md e = true → e.on ≠ i := fun e he hb heq => by
        have h1 := hall e he hb
        have h0 := (mem_ready.1 hr).1
        rw [heq] at h1
        rcases Nat.lt_or_ge i listed.size with h' | h'
        · simp [h'] at h0 h1; rw [h0] at h1; cases h1
        · simp [Array.getElem?_eq_none h'] at h1
      have h2 := wpOp_putIf hoj (hfree j oj hoj hji hjun hnot) (fun cs b => hsel i oi cs b hi) (fun cs b => hsel j oj cs b hoj) hQ hy h1
      have hfree' : ∀ k ok, ops[k]? = some ok → k ≠ i → (listed.setIfInBounds j true).getD k true = false →
          (∀ e ∈ ok.after, Region.binds md e = true → e.on ≠ i) → oi.apart ops ok = true := fun k ok hk hki hun hno => by
        refine hfree k ok hk hki ?_ hno
        by_cases hjk : j = k
        · subst hjk; exact hjun
        · rw [getD_set_ne true hjk] at hun; exact hun
      refine wpOp_mono (fun a' w' h3 => ?_) h2
      have hS' : S w' := by
        rcases h3.2.1 with h | h
        · exact (hjm h).elim
        · exact h
      refine ⟨.inr hS', ih (listed.setIfInBounds j true) a' w' hfree' (ready_mono hr (Ne.symm hji)) h3.1 hS' ?_⟩
      rw [Array.setIfInBounds_comm _ _ hji]
      exact h3.2.2
/-- take number i first -/
theorem wpAnyM_take {i : Nat} {oi : Oper} {v : Value} {fuel : Nat} {listed : Array Bool} {a : Act} {w : World} (hi : ops[i]? = some oi)
    (hs : Region.noSelect ops = true) (hm : Region.waitsFor md ops m i = true) (hf : Region.free md ops listed i = true) (hr : (Region.ready md ops listed).contains i = true)
    (hQ : ∀ c a w, Q (.panic c) (a.put oi.dst v) w → Q (.panic c) a w) (hS : S w) (hy : YieldsIf P ops S oi v a)
    (h : wpAnyM P md ops Q S m fuel (listed.setIfInBounds i true) (a.put oi.dst v) w) : wpAnyM P md ops Q S m (fuel + 1) listed a w :=
  wpAnyM_first hi (Region.noSelect_spec hs) hQ hm fuel listed a w (Region.free_spec hi hf) (by simpa using hr) hy hS h
/-- number i alone may come up -/
theorem wpAnyM_one {i : Nat} {o : Oper} {fuel : Nat} {listed : Array Bool} {a : Act} {w : World} (hr : Region.ready md ops listed = [i]) (ho : ops[i]? = some o)
    (h : ∀ K' : Act → World → Prop, Shut (∀ a w, (i = m ∨ S w) → ((i = m ∨ S w) → wpAnyM P md ops Q S m fuel (listed.setIfInBounds i true) a w) → K' a w) → if Region.wanted o (yielded ops a.tmps) = true then Oper.wp P o a w K' Q else K' (a.put o.dst undef) w) : wpAnyM P md ops Q S m (fuel + 1) listed a w := by
  refine ⟨fun h1 => (by rw [h1] at hr; cases hr), fun j hj => ?_⟩
  rw [hr] at hj
  obtain rfl : j = i := by simpa using hj
  exact wpOp_step ho (fun K' hK => h K' (fun a w hS hW => hK a w ⟨hS, hW hS⟩))
theorem wpAnyM_done {fuel : Nat} {listed : Array Bool} {a : Act} {w : World} (hr : Region.ready md ops listed = []) (h : Q .normal a w) : wpAnyM P md ops Q S m fuel listed a w := by
  cases fuel with
  | zero => exact ⟨hr, h⟩
  | succ f => exact ⟨fun _ => h, fun i hi => by rw [hr] at hi; cases hi⟩
/-- the beginning -/
theorem wp_region_M {id : Nat} {a : Act} {w : World} (S : World → Prop) (m : Nat) (hm : P.follows .mixedOrders = true) (hS : S w.drew)
    (h : S w.drew → wpAnyM P .any ops Q S m ops.size (Array.replicate ops.size false) a w.drew) : (Code.region id ops true).wp P Q a w :=
  wp_region_any hm (wpAny_of_M _ _ _ _ (h hS))
end
/-- 'append(v, us...)' at a step: the row stays in its block or comes into a new one -/
theorem step_appL {k : Nat} {P : Program} {ops : Array Oper} {o : Oper} {a : Act} {K : Act → World → Prop} {Q : Exit → Act → World → Prop} {E : Prop} {w0 w : World} (hw : IsSince w0 w) (hgd : o.guard = none) (s x : Operand) (t : TypeId)
    (ho : o.op = .call { callee := .builtin .append, args := #[s, x], argTypes := #[t, t] })
    (base : Nat) (hbase : w0.heap.size ≤ base) (hbase' : base ≤ w.heap.size) (e : TypeId) (z : Value) (bytes : Nat) (ht : SliceOf P t e z k bytes) (v : Value) (n : Nat) (xs : List Value) (hs : a.eval s = v) (hown : w.ownsRow base e k v n xs)
    (ad : Addr) (m c : Nat) (news : List Value) (hx : a.eval x = .slice (some ad) m c) (hn : news.length = m * k) (hc : ∀ j u, news[j]? = some u → w.cell? (ad.add j) = some u) (h1 : ∀ u ∈ news, u.oneCell' = true) (hm : 0 < m)
    (h63 : n + m ≤ maxLen) (hbytes : (n + m) * bytes ≤ 140737488355328)
    (h : ∀ v' (q : Since w0), q.w.ownsRow base e k v' (n + m) (xs ++ news) → w.grownBy q.w v.ownBlock → (∀ b, v'.ownBlock = some b → v.ownBlock = some b ∨ b = w.heap.size) → K (a.put o.dst v') q.w) :
    if Region.wanted o (yielded ops a.tmps) = true then Oper.wp P o a w K Q else E := by
  have hwn : Region.wanted o (yielded ops a.tmps) = true := by simp [Region.wanted, hgd]
  rw [if_pos hwn]
  obtain ⟨y, rfl⟩ := hw
  obtain ⟨i, hi, hz, hsize, hby⟩ := ht.e
  refine wp_append_lies y.w s x t ho base e i z k bytes ht.t hi hz hsize hby ht.z ht.s v n xs hs hown ad m c news hx hn hc h1 hm h63 hbytes hbase' y.w.heap.size rfl ?_
  intro g cap w' hown' hg hl _
  obtain ⟨q, rfl⟩ := y.grown hg (fun k hk => Nat.le_trans hbase (own_block hown k hk))
  exact h _ q hown' hg fun b hb => by
    have hb' : g = b := by simpa [Value.ownBlock] using hb
    subst hb'
    exact hl
theorem blk_cells {w : World} {g : Nat} (cs : List Value) (T : TypeId) (hg : w.heap.size = g) : ∀ j u, cs[j]? = some u → (w.alloc (.cells cs.toArray T)).cell? ((⟨g, 0, none⟩ : Addr).add j) = some u := by
  subst hg
  exact (Blk.new w _).cells
end Go.Proofs.Ytefodfpnedcodaa
/- A result of two cells that lies in memory: generic, no program in sight. -/
namespace Go.Proofs.Ytefodfpnedcodaa
open Go.RowKit
theorem cell_off {w : World} {g i j : Nat} (h : i ≠ j) (v : Value) : (w.setCell ⟨g, i, none⟩ v).cell? ⟨g, j, none⟩ = w.cell? ⟨g, j, none⟩ := by
  show ((w.setCells g i [v]).cell? _) = _
  rw [World.cell?_setCells_out g [v] i w ⟨g, j, none⟩ (fun _ _ => by simp; omega)]
theorem set_two {W w : World} (y : Since W) {g : Nat} {a b : Value} (h0 : y.w.cell? ⟨g, 0, none⟩ = some a) (h1 : y.w.cell? ⟨g, 1, none⟩ = some b) (hup : ∃ z : Since w, y.w = z.w) (hg : w.heap.size ≤ g) (u v : Value) :
    ∃ z : Since w, (y.w.setCell ⟨g, 0, none⟩ u).setCell ⟨g, 1, none⟩ v = z.w ∧ z.w.cell? ⟨g, 0, none⟩ = some u ∧ z.w.cell? ⟨g, 1, none⟩ = some v := by
  obtain ⟨z0, hz0⟩ := hup
  obtain ⟨z1, hz1⟩ := z0.set ⟨g, 0, none⟩ hg u
  obtain ⟨z2, hz2⟩ := z1.set ⟨g, 1, none⟩ hg v
  rw [← hz1, ← hz0] at hz2
  refine ⟨z2, hz2, ?_, ?_⟩
  · rw [← hz2, cell_off (by decide), World.cell?_setCell_same _ _ _ h0]
  · rw [← hz2, World.cell?_setCell_same _ _ _ (show (y.w.setCell ⟨g, 0, none⟩ u).cell? ⟨g, 1, none⟩ = some b by rw [cell_off (by decide), h1])]
/-- a struct is stored whole into a block of the call's own -/
theorem set_many {W w : World} (y : Since W) {g : Nat} (vs : List Value) (h : ∀ j, j < vs.length → (y.w.cell? ⟨g, j, none⟩).isSome = true) (hup : ∃ z : Since w, y.w = z.w) (hg : w.heap.size ≤ g) :
    ∃ z : Since w, y.w.setCells g 0 vs = z.w ∧ ∀ j v, vs[j]? = some v → z.w.cell? ⟨g, j, none⟩ = some v := by
  obtain ⟨z0, hz0⟩ := hup
  obtain ⟨z, hz⟩ := z0.sets g hg vs 0
  rw [← hz0] at hz
  refine ⟨z, hz, fun j v hv => ?_⟩
  obtain ⟨hj, he⟩ := List.getElem?_eq_some_iff.1 hv
  have := World.cell?_setCells_in g vs 0 y.w (fun j hj => by rw [Nat.zero_add]; exact h j hj) j hj
  rw [Nat.zero_add, hz, he] at this
  exact this
end Go.Proofs.Ytefodfpnedcodaa
/- The library's sort of structs in the words of this proof: what it takes of a slice of the call's own, what it leaves: generic, no program in sight. -/
namespace Go.Proofs.Ytefodfpnedcodaa
open Go.RowKit Go.Sort

theorem grownBy_sortK {α : Type} [Inhabited α] (enc : α → List Value) (k : Nat) (w : World) (g n : Nat) (d : Array α) (os : Array Obj) : w.grownBy (sortWorldK enc k w g 0 n d os) (some g) := by
  refine ⟨rfl, rfl, rfl, by simp [sortWorldK, putRowK, grow, putRow, mapBlock, Sort.ahead], fun j hj hne => ?_⟩
  have hne' : g ≠ j := fun e => hne (by rw [e])
  have hj' : j < (putRowK enc k (Sort.ahead w n) g 0 d).heap.size := by simpa [putRowK, putRow, mapBlock, Sort.ahead] using hj
  show ((putRowK enc k (Sort.ahead w n) g 0 d).heap ++ os)[j]? = _
  rw [Array.getElem?_append_left hj']
  simp [putRowK, putRow, mapBlock, Sort.ahead, Array.getElem?_modify, hne']
theorem flat_bang {α : Type} [Inhabited α] {enc : α → List Value} {k : Nat} (hk : ∀ x, (enc x).length = k) (h0 : 0 < k) (l : List α) (j : Nat) (hj : j < l.length * k) : (flat enc l)[j]? = some ((enc l.toArray[j / k]!)[j % k]!) := by
  have hi : j / k < l.length := Nat.div_lt_of_lt_mul (by rw [Nat.mul_comm]; exact hj)
  have hm : j % k < k := Nat.mod_lt _ h0
  have e1 : l[j / k]? = some (l.toArray[j / k]!) := by
    rw [List.getElem?_eq_getElem hi]
    simp [hi]
  have e2 : (enc l.toArray[j / k]!)[j % k]? = some ((enc l.toArray[j / k]!)[j % k]!) := by
    have hlen : j % k < (enc l.toArray[j / k]!).length := by rw [hk]; exact hm
    rw [List.getElem?_eq_getElem hlen]
    exact congrArg some (getElem!_pos (enc l.toArray[j / k]!) (j % k) hlen).symm
  have := flat_at hk l (j / k) _ (j % k) _ e1 e2
  rwa [Nat.mul_comm, Nat.div_add_mod] at this
theorem own_holdsK {α : Type} [Inhabited α] {enc : α → List Value} {k : Nat} (hk : ∀ x, (enc x).length = k) (h0 : 0 < k) {w : World} {base : Nat} {e : TypeId} {g n cap : Nat} {l : List α} (h : w.ownsRow base e k (.slice (some ⟨g, 0, none⟩) n cap) n (flat enc l)) : HoldsK enc k w g 0 l.toArray := by
  have hn := (own_els hk h0 h).1
  obtain ⟨hl, ⟨hbad, _⟩ | ⟨g', cap', cur, he, hg, hh, h1, h2, h3, h4⟩⟩ := h
  · cases hbad
  · obtain ⟨rfl, rfl⟩ : g = g' ∧ cap = cap' := by simpa using he
    intro j hj
    rw [size_flatK] at hj
    have hj' : j < l.length * k := by simpa using hj
    have hf := flat_bang hk h0 l j hj'
    rw [← h4, List.getElem?_take] at hf
    split at hf
    · refine ⟨?_, by simp [World.frozen?, hh]⟩
      rw [get_flatK enc k _ _ hj]
      simp only [World.cell?, hh, Nat.zero_add, Option.isSome_none, Bool.false_eq_true, if_false, id]
      rw [← Array.getElem?_toList]; exact hf
    · cases hf
theorem els_of_holdsK {α : Type} [Inhabited α] {enc : α → List Value} {k : Nat} (hk : ∀ x, (enc x).length = k) {w : World} {g : Nat} {d : Array α} (h : HoldsK enc k w g 0 d) (hg : g < w.heap.size) : Els enc k w (some ⟨g, 0, none⟩) d.toList := by
  intro i x hx
  have hi : i < d.size := by have := (List.getElem?_eq_some_iff.1 hx).1; simpa using this
  refine ⟨g, 0, rfl, hg, fun c v hv => ?_⟩
  have hxd : d[i]! = x := by
    rw [getElem!_pos d i hi]
    rw [List.getElem?_eq_getElem (by simpa using hi)] at hx
    simpa using hx
  have := HoldsK.cells h hk hi c v (by rw [hxd]; exact hv)
  rw [Addr.add_lit] at this
  exact this
end Go.Proofs.Ytefodfpnedcodaa
/- Rides as plain data, and when a ride is valid: no program in sight. -/
namespace Go.Proofs.Ytefodfpnedcodaa
open Go.RowKit

/-- a leg: bicycle, first and last moment of its beginning, of its end -/
structure Leg where
  b : Int
  f0 : Int
  f1 : Int
  t0 : Int
  t1 : Int
def Leg.cs (x : Leg) : List Value := [.int .i64 x.b, .int .i64 x.f0, .int .i64 x.f1, .int .i64 x.t0, .int .i64 x.t1]
theorem Leg.len (x : Leg) : x.cs.length = 5 := rfl
/-- a pause: first and last moment of its beginning, of its end -/
structure Pse where
  f0 : Int
  f1 : Int
  t0 : Int
  t1 : Int
def Pse.cs (x : Pse) : List Value := [.int .i64 x.f0, .int .i64 x.f1, .int .i64 x.t0, .int .i64 x.t1]
theorem Pse.len (x : Pse) : x.cs.length = 4 := rfl
/-- a ride, with the places of its lists in memory -/
structure Ride where
  id : Int
  rd : Int
  s0 : Int
  s1 : Int
  e0 : Int
  e1 : Int
  op : Bool
  la : Option Addr
  legs : List Leg
  lc : Nat
  pa : Option Addr
  pauses : List Pse
  pc : Nat
  fw : Int
  fp : Int
  wh : Int
  pl : Int
def Ride.cs (x : Ride) : List Value := [.int .i64 x.id, .int .i64 x.rd, .int .i64 x.s0, .int .i64 x.s1, .int .i64 x.e0, .int .i64 x.e1, .bool x.op, .slice x.la x.legs.length x.lc, .slice x.pa x.pauses.length x.pc, .int .i64 x.fw, .int .i64 x.fp, .int .i64 x.wh, .int .i64 x.pl]
def Ride.ag (x : Ride) : Value := .agg #[.int .i64 x.id, .int .i64 x.rd, .int .i64 x.s0, .int .i64 x.s1, .int .i64 x.e0, .int .i64 x.e1, .bool x.op, .slice x.la x.legs.length x.lc, .slice x.pa x.pauses.length x.pc, .int .i64 x.fw, .int .i64 x.fp, .int .i64 x.wh, .int .i64 x.pl]
theorem Ride.len (x : Ride) : x.cs.length = 13 := rfl
theorem Ride.ag_cs (x : Ride) : x.ag = .agg x.cs.toArray := rfl
instance : Inhabited Leg := ⟨⟨0, 0, 0, 0, 0⟩⟩
instance : Inhabited Pse := ⟨⟨0, 0, 0, 0⟩⟩
instance : Inhabited Ride := ⟨⟨0, 0, 0, 0, 0, 0, false, none, [], 0, none, [], 0, 0, 0, 0, 0⟩⟩
/-- its lists lie in memory -/
structure Ride.At (w : World) (x : Ride) : Prop where
  l : Els Leg.cs 5 w x.la x.legs
  p : Els Pse.cs 4 w x.pa x.pauses
  lm : x.legs.length ≤ 9223372036854775807
  pm : x.pauses.length ≤ 9223372036854775807
theorem Ride.At.since {w : World} {x : Ride} (h : x.At w) (y : Since w) : x.At y.w := ⟨Since.els h.l y, Since.els h.p y, h.lm, h.pm⟩
theorem Ride.At.to {w W : World} {x : Ride} (h : x.At w) (hW : ∃ z : Since w, W = z.w) : x.At W := by
  obtain ⟨z, rfl⟩ := hW; exact h.since z
/-- a list of rides lies in memory -/
structure RideRow (w : World) (a : Option Addr) (l : List Ride) : Prop where
  c : Els Ride.cs 13 w a l
  r : ∀ x ∈ l, x.At w
theorem RideRow.since {w : World} {a : Option Addr} {l : List Ride} (h : RideRow w a l) (y : Since w) : RideRow y.w a l := ⟨Since.els h.c y, fun x hx => (h.r x hx).since y⟩
theorem RideRow.to {w W : World} {a : Option Addr} {l : List Ride} (h : RideRow w a l) (hW : ∃ z : Since w, W = z.w) : RideRow W a l := by
  obtain ⟨z, rfl⟩ := hW; exact h.since z

/-- an interval of moments is valid -/
def vldS (lo hi : Int) : Bool := decide (0 ≤ lo) && decide (lo ≤ hi) && decide (hi ≤ 4294943999)
theorem vldS_iff (lo hi : Int) : vldS lo hi = true ↔ 0 ≤ lo ∧ lo ≤ hi ∧ hi ≤ 4294943999 := by simp [vldS, and_assoc]
def legV (x : Leg) : Bool := vldS x.f0 x.f1 && vldS x.t0 x.t1
def pseV (x : Pse) : Bool := vldS x.f0 x.f1 && vldS x.t0 x.t1
/-- the numbers of its head lie in their ranges -/
def headV (x : Ride) : Bool := decide (1 ≤ x.id) && decide (x.id ≤ 1000000) && decide (0 ≤ x.rd) && decide (x.rd ≤ 127) && vldS x.s0 x.s1 && vldS x.e0 x.e1
def rangedB (x : Ride) : Bool := headV x && x.legs.all legV && x.pauses.all pseV
/-- the legs follow one another from a to e -/
def chainL : Int → Int → List Leg → Int → Int → Bool
  | a0, a1, [], e0, e1 => decide (a0 = e0) && decide (a1 = e1)
  | a0, a1, x :: l, e0, e1 => decide (x.f0 = a0) && decide (x.f1 = a1) && chainL x.t0 x.t1 l e0 e1
def joinedB (x : Ride) : Bool := decide (1 ≤ x.legs.length) && decide (x.legs.length ≤ 512) && decide (x.pauses.length ≤ 512) && chainL x.s0 x.s1 x.legs x.e0 x.e1
/-- the ends of the legs are in order; the end of the last leg of an open ride does not count -/
def legsO (op : Bool) : List Leg → Bool
  | [] => true
  | x :: l => (decide (x.f0 ≤ x.t0) || (op && l.isEmpty)) && legsO op l
/-- the ends of the pauses are in order from 'last' on; what the end is must be at most e unless the ride is open -/
def psesO (op : Bool) (e : Int) : Int → List Pse → Bool
  | last, [] => op || decide (last ≤ e)
  | last, x :: l => decide (last ≤ x.f0) && ((op && l.isEmpty && decide (x.t0 = 0)) || (decide (x.f0 ≤ x.t0) && psesO op e x.t0 l))
def orderedB (x : Ride) : Bool := legsO x.op x.legs && (x.pauses.isEmpty || psesO x.op x.e0 x.s0 x.pauses)
def stateB (x : Ride) : Bool := (x.op && !(decide (x.e0 = 0) && decide (x.e1 = 0))) || (x.op != decide (x.wh = 3))
/-- the error of a ride -/
def rideE (x : Ride) : Int := if rangedB x = false then 1 else if joinedB x = false then 3 else if orderedB x = false then 9 else if stateB x = true then 12 else 0
end Go.Proofs.Ytefodfpnedcodaa
/- The cells of legs, pauses and rides that lie in lists in memory: no program in sight. -/
namespace Go.Proofs.Ytefodfpnedcodaa
open Go.RowKit

structure LegCells (w : World) (b o : Nat) (e : Leg) : Prop where
  c0 : ∀ y : Since w, y.w.cell? ⟨b, o, none⟩ = some (.int .i64 e.b)
  c1 : ∀ y : Since w, y.w.cell? ⟨b, o + 1, none⟩ = some (.int .i64 e.f0)
  c2 : ∀ y : Since w, y.w.cell? ⟨b, o + 2, none⟩ = some (.int .i64 e.f1)
  c3 : ∀ y : Since w, y.w.cell? ⟨b, o + 3, none⟩ = some (.int .i64 e.t0)
  c4 : ∀ y : Since w, y.w.cell? ⟨b, o + 4, none⟩ = some (.int .i64 e.t1)
theorem Els.leg {w : World} {a : Option Addr} {l : List Leg} (h : Els Leg.cs 5 w a l) {k : Nat} {x : Leg} (hk : l[k]? = some x) : ∃ b off, a = some ⟨b, off, none⟩ ∧ LegCells w b (off + k * 5) x := by
  obtain ⟨b, off, ha, hb, hc⟩ := h k x hk
  refine ⟨b, off, ha, ?_⟩
  have hh : ∀ j v, x.cs[j]? = some v → ∀ y : Since w, y.w.cell? ⟨b, off + k * 5 + j, none⟩ = some v := fun j v hv => Since.cell (hc j v hv) hb
  exact ⟨hh 0 _ rfl, hh 1 _ rfl, hh 2 _ rfl, hh 3 _ rfl, hh 4 _ rfl⟩

structure PseCells (w : World) (b o : Nat) (e : Pse) : Prop where
  c0 : ∀ y : Since w, y.w.cell? ⟨b, o, none⟩ = some (.int .i64 e.f0)
  c1 : ∀ y : Since w, y.w.cell? ⟨b, o + 1, none⟩ = some (.int .i64 e.f1)
  c2 : ∀ y : Since w, y.w.cell? ⟨b, o + 2, none⟩ = some (.int .i64 e.t0)
  c3 : ∀ y : Since w, y.w.cell? ⟨b, o + 3, none⟩ = some (.int .i64 e.t1)
theorem Els.pse {w : World} {a : Option Addr} {l : List Pse} (h : Els Pse.cs 4 w a l) {k : Nat} {x : Pse} (hk : l[k]? = some x) : ∃ b off, a = some ⟨b, off, none⟩ ∧ PseCells w b (off + k * 4) x := by
  obtain ⟨b, off, ha, hb, hc⟩ := h k x hk
  refine ⟨b, off, ha, ?_⟩
  have hh : ∀ j v, x.cs[j]? = some v → ∀ y : Since w, y.w.cell? ⟨b, off + k * 4 + j, none⟩ = some v := fun j v hv => Since.cell (hc j v hv) hb
  exact ⟨hh 0 _ rfl, hh 1 _ rfl, hh 2 _ rfl, hh 3 _ rfl⟩

structure RideCells (w : World) (b o : Nat) (e : Ride) : Prop where
  c0 : ∀ y : Since w, y.w.cell? ⟨b, o, none⟩ = some (.int .i64 e.id)
  c1 : ∀ y : Since w, y.w.cell? ⟨b, o + 1, none⟩ = some (.int .i64 e.rd)
  c2 : ∀ y : Since w, y.w.cell? ⟨b, o + 2, none⟩ = some (.int .i64 e.s0)
  c3 : ∀ y : Since w, y.w.cell? ⟨b, o + 3, none⟩ = some (.int .i64 e.s1)
  c4 : ∀ y : Since w, y.w.cell? ⟨b, o + 4, none⟩ = some (.int .i64 e.e0)
  c5 : ∀ y : Since w, y.w.cell? ⟨b, o + 5, none⟩ = some (.int .i64 e.e1)
  c6 : ∀ y : Since w, y.w.cell? ⟨b, o + 6, none⟩ = some (.bool e.op)
  c7 : ∀ y : Since w, y.w.cell? ⟨b, o + 7, none⟩ = some (.slice e.la e.legs.length e.lc)
  c8 : ∀ y : Since w, y.w.cell? ⟨b, o + 8, none⟩ = some (.slice e.pa e.pauses.length e.pc)
  c9 : ∀ y : Since w, y.w.cell? ⟨b, o + 9, none⟩ = some (.int .i64 e.fw)
  c10 : ∀ y : Since w, y.w.cell? ⟨b, o + 10, none⟩ = some (.int .i64 e.fp)
  c11 : ∀ y : Since w, y.w.cell? ⟨b, o + 11, none⟩ = some (.int .i64 e.wh)
  c12 : ∀ y : Since w, y.w.cell? ⟨b, o + 12, none⟩ = some (.int .i64 e.pl)
theorem Els.ride {w : World} {a : Option Addr} {l : List Ride} (h : Els Ride.cs 13 w a l) {k : Nat} {x : Ride} (hk : l[k]? = some x) : ∃ b off, a = some ⟨b, off, none⟩ ∧ RideCells w b (off + k * 13) x := by
  obtain ⟨b, off, ha, hb, hc⟩ := h k x hk
  refine ⟨b, off, ha, ?_⟩
  have hh : ∀ j v, x.cs[j]? = some v → ∀ y : Since w, y.w.cell? ⟨b, off + k * 13 + j, none⟩ = some v := fun j v hv => Since.cell (hc j v hv) hb
  exact ⟨hh 0 _ rfl, hh 1 _ rfl, hh 2 _ rfl, hh 3 _ rfl, hh 4 _ rfl, hh 5 _ rfl, hh 6 _ rfl, hh 7 _ rfl, hh 8 _ rfl, hh 9 _ rfl, hh 10 _ rfl, hh 11 _ rfl, hh 12 _ rfl⟩

theorem all_no {α : Type} {p : α → Bool} {l : List α} {k : Nat} {e : α} (h : l[k]? = some e) (hp : p e = false) : l.all p = false := by
  cases ha : l.all p
  · rfl
  · have := List.all_eq_true.1 ha e (List.mem_of_getElem? h); rw [hp] at this; cases this
theorem all_yes {α : Type} {p : α → Bool} {l : List α} (h : ∀ j, j < l.length → ∀ e, l[j]? = some e → p e = true) : l.all p = true := by
  refine List.all_eq_true.2 fun e he => ?_
  obtain ⟨j, hj⟩ := List.mem_iff_getElem?.1 he
  exact h j (List.getElem?_eq_some_iff.1 hj).1 e hj
theorem upto_next {α : Type} {P : α → Prop} {l : List α} {k : Nat} {e : α} (h : ∀ j, j < k → ∀ e, l[j]? = some e → P e) (he : l[k]? = some e) (hp : P e) : ∀ j, j < k + 1 → ∀ e, l[j]? = some e → P e := by
  intro j hj e' he'
  by_cases hjk : j < k
  · exact h j hjk e' he'
  · obtain rfl : j = k := by omega
    rw [he] at he'; cases he'; exact hp
end Go.Proofs.Ytefodfpnedcodaa
/- Comparing intervals of moments. -/
namespace Go.Proofs.Ytefodfpnedcodaa
open Go.RowKit
theorem span_equal (a b c d : Int) (w : World) : (Op.equalIn 10000 23 (.agg #[.int .i64 a, .int .i64 b]) (.agg #[.int .i64 c, .int .i64 d])).run Try.prog w = .ok (decide (a = c) && decide (b = d)) w := by
  have hS : Try.prog.underlying 23 = some (.struct (Try.prog.fieldsOf 23)) := by kernel_rfl
  have hp : Try.prog.stoodInHeld 23 = false := by kernel_rfl
  have u3 := Try.underlying3
  have a3 := Try.isAgg3
  have z3 := Try.sizeOf3
  rw [show (10000 : Nat) = 9999 + 1 from rfl, run_equalIn_struct w 9999 23 _ _ hS hp]
  simp only [Program.fieldsOf, Try.underlying23]
  go_simp
  by_cases h1 : a = c
  · by_cases h2 : b = d <;> simp [h1, h2]
  · simp [h1]
theorem span_guard (op : BinOp) (a b : Operand) (xs ys : Array Value) (w : World) : (eqGuard op 23 a b (.agg xs) (.agg ys)).run Try.prog w = .ok () w := run_eqGuard_agg w op 23 a b xs ys (by kernel_rfl)
end Go.Proofs.Ytefodfpnedcodaa
/- The frame of the laws about rides: opening rides. -/
namespace Go.Proofs.Ytefodfpnedcodaa
open Go.ChangeShapes Go.WideShapes Go.ChangeAt Go.RowKit

theorem own : ownKnob Try.prog.godebug = none := by kernel_rfl
theorem laidOut : laidOutB Try.prog = true := by kernel_rfl
theorem cInt : Try.prog.cellsOf 3 = 1 := by kernel_rfl
theorem cBool : Try.prog.cellsOf 4 = 1 := by kernel_rfl
theorem cSpan : Try.prog.cellsOf 23 = 2 := by kernel_rfl
theorem cLeg : Try.prog.cellsOf 60 = 5 := by kernel_rfl
theorem cPause : Try.prog.cellsOf 52 = 4 := by kernel_rfl
theorem cRide : Try.prog.cellsOf 27 = 13 := by kernel_rfl
theorem cLegs : Try.prog.cellsOf 24 = 1 := by kernel_rfl
theorem cPauses : Try.prog.cellsOf 25 = 1 := by kernel_rfl
section
variable {H : Type} {enc : TypeId × Value → H} {w : World} {base fuel : Nat} {spare : Nat → Bool} {held : Bool} {cs : List Value} {y : DataW H × List MemPlace}
noncomputable def spanF : Array Field := Try.prog.fieldsOf 23
theorem uSpan : Try.prog.underlying 23 = some (.struct spanF) := by kernel_rfl
theorem spanL : (spanF.toList.map fun f => (f.offset, f.type)) = [(0, 3), (1, 3)] := by kernel_rfl
noncomputable def legF : Array Field := Try.prog.fieldsOf 60
theorem uLeg : Try.prog.underlying 60 = some (.struct legF) := by kernel_rfl
theorem legL : (legF.toList.map fun f => (f.offset, f.type)) = [(0, 3), (1, 23), (3, 23)] := by kernel_rfl
noncomputable def pauseF : Array Field := Try.prog.fieldsOf 52
theorem uPause : Try.prog.underlying 52 = some (.struct pauseF) := by kernel_rfl
theorem pauseL : (pauseF.toList.map fun f => (f.offset, f.type)) = [(0, 23), (2, 23)] := by kernel_rfl
noncomputable def rideF : Array Field := Try.prog.fieldsOf 27
theorem uRide : Try.prog.underlying 27 = some (.struct rideF) := by kernel_rfl
theorem rideFL : (rideF.toList.map fun f => (f.offset, f.type)) = [(0, 3), (1, 3), (2, 23), (4, 23), (6, 4), (7, 24), (8, 25), (9, 3), (10, 3), (11, 3), (12, 3)] := by kernel_rfl
theorem int1 {c : Value} (h : DataW.trod enc Try.prog w base spare held fuel 3 [c] = some y) : ∃ n : Int, c = .int .i64 n ∧ I64 n := by
  obtain ⟨k, hcs, _, hwf⟩ := DataW.trod_int Try.underlying3 h
  simp at hcs
  exact ⟨k, hcs, wf_i64 hwf⟩
theorem span1 {c d : Value} (h : DataW.trod enc Try.prog w base spare held fuel 23 [c, d] = some y) : ∃ m n : Int, c = .int .i64 m ∧ d = .int .i64 n ∧ I64 m ∧ I64 n := by
  obtain ⟨_, hf⟩ := trod_fields uSpan spanL h
  obtain ⟨_, _, h0⟩ := hf 0 _ rfl
  obtain ⟨_, _, h1⟩ := hf 1 _ rfl
  simp only [cInt] at h0 h1
  obtain ⟨m, rfl, hm⟩ := int1 h0
  obtain ⟨n, rfl, hn⟩ := int1 h1
  exact ⟨m, n, rfl, rfl, hm, hn⟩
def Leg.I (x : Leg) : Prop := I64 x.b ∧ I64 x.f0 ∧ I64 x.f1 ∧ I64 x.t0 ∧ I64 x.t1
def Pse.I (x : Pse) : Prop := I64 x.f0 ∧ I64 x.f1 ∧ I64 x.t0 ∧ I64 x.t1
def Ride.I (x : Ride) : Prop := I64 x.id ∧ I64 x.rd ∧ I64 x.s0 ∧ I64 x.s1 ∧ I64 x.e0 ∧ I64 x.e1 ∧ I64 x.fw ∧ I64 x.fp ∧ I64 x.wh ∧ I64 x.pl ∧ (∀ l ∈ x.legs, l.I) ∧ (∀ p ∈ x.pauses, p.I)
set_option maxRecDepth 20000 in
theorem leg1 (h : DataW.trod enc Try.prog w base spare held fuel 60 cs = some y) : ∃ x : Leg, cs = x.cs ∧ x.I := by
  obtain ⟨hl, hf⟩ := trod_fields uLeg legL h
  rw [cLeg] at hl
  match cs, hl with
  | [c0, c1, c2, c3, c4], _ =>
    obtain ⟨_, _, h0⟩ := hf 0 _ rfl
    obtain ⟨_, _, h1⟩ := hf 1 _ rfl
    obtain ⟨_, _, h2⟩ := hf 2 _ rfl
    simp only [cInt, cSpan] at h0 h1 h2
    obtain ⟨b, rfl, i0⟩ := int1 h0
    obtain ⟨f0, f1, rfl, rfl, i1, i2⟩ := span1 h1
    obtain ⟨t0, t1, rfl, rfl, i3, i4⟩ := span1 h2
    exact ⟨⟨b, f0, f1, t0, t1⟩, rfl, i0, i1, i2, i3, i4⟩
set_option maxRecDepth 20000 in
theorem pause1 (h : DataW.trod enc Try.prog w base spare held fuel 52 cs = some y) : ∃ x : Pse, cs = x.cs ∧ x.I := by
  obtain ⟨hl, hf⟩ := trod_fields uPause pauseL h
  rw [cPause] at hl
  match cs, hl with
  | [c1, c2, c3, c4], _ =>
    obtain ⟨_, _, h1⟩ := hf 0 _ rfl
    obtain ⟨_, _, h2⟩ := hf 1 _ rfl
    simp only [cSpan] at h1 h2
    obtain ⟨f0, f1, rfl, rfl, i1, i2⟩ := span1 h1
    obtain ⟨t0, t1, rfl, rfl, i3, i4⟩ := span1 h2
    exact ⟨⟨f0, f1, t0, t1⟩, rfl, i1, i2, i3, i4⟩
/-- a ride that came in -/
def RideIn (w : World) (x : Ride) : Prop := x.At w ∧ x.I ∧ (x.la = none → x.lc = 0) ∧ (x.pa = none → x.pc = 0) ∧ x.legs.length ≤ x.lc ∧ x.lc ≤ 9223372036854775807 ∧ x.pauses.length ≤ x.pc ∧ x.pc ≤ 9223372036854775807
set_option maxRecDepth 20000 in
theorem ride1 (h : DataW.trod enc Try.prog w base spare held fuel 27 cs = some y) : ∃ x : Ride, cs = x.cs ∧ RideIn w x := by
  obtain ⟨hl, hf⟩ := trod_fields uRide rideFL h
  rw [cRide] at hl
  match cs, hl with
  | [c0, c1, c2, c3, c4, c5, c6, c7, c8, c9, c10, c11, c12], _ =>
    obtain ⟨_, _, h0⟩ := hf 0 _ rfl
    obtain ⟨_, _, h1⟩ := hf 1 _ rfl
    obtain ⟨_, _, h2⟩ := hf 2 _ rfl
    obtain ⟨_, _, h3⟩ := hf 3 _ rfl
    obtain ⟨_, _, h4⟩ := hf 4 _ rfl
    obtain ⟨_, _, h5⟩ := hf 5 _ rfl
    obtain ⟨_, _, h6⟩ := hf 6 _ rfl
    obtain ⟨_, _, h7⟩ := hf 7 _ rfl
    obtain ⟨_, _, h8⟩ := hf 8 _ rfl
    obtain ⟨_, _, h9⟩ := hf 9 _ rfl
    obtain ⟨_, _, h10⟩ := hf 10 _ rfl
    simp only [cInt, cSpan, cBool, cLegs, cPauses] at h0 h1 h2 h3 h4 h5 h6 h7 h8 h9 h10
    obtain ⟨id, rfl, i0⟩ := int1 h0
    obtain ⟨rd, rfl, i1⟩ := int1 h1
    obtain ⟨s0, s1, rfl, rfl, i2, i3⟩ := span1 h2
    obtain ⟨e0, e1, rfl, rfl, i4, i5⟩ := span1 h3
    obtain ⟨op, ho, _⟩ := DataW.trod_bool Try.underlying4 h4
    have ho : c6 = .bool op := by simpa using ho
    subst ho
    obtain ⟨la, legs, lc, hlc, l1, l2, l3, l4, l5⟩ := open_sliceG (encA := Leg.cs) (Q := Leg.I) Try.underlying24 cLeg (by decide) Leg.len (fun _ _ _ h => leg1 h) h5
    subst hlc
    obtain ⟨pa, pauses, pc, hpc, p1, p2, p3, p4, p5⟩ := open_sliceG (encA := Pse.cs) (Q := Pse.I) Try.underlying25 cPause (by decide) Pse.len (fun _ _ _ h => pause1 h) h6
    subst hpc
    obtain ⟨fw, rfl, i6⟩ := int1 h7
    obtain ⟨fp, rfl, i7⟩ := int1 h8
    obtain ⟨wh, rfl, i8⟩ := int1 h9
    obtain ⟨pl, rfl, i9⟩ := int1 h10
    exact ⟨⟨id, rd, s0, s1, e0, e1, op, la, legs, lc, pa, pauses, pc, fw, fp, wh, pl⟩, rfl, ⟨l4, p4, by show legs.length ≤ _; omega, by show pauses.length ≤ _; omega⟩, ⟨i0, i1, i2, i3, i4, i5, i6, i7, i8, i9, l5, p5⟩, l3, p3, l1, l2, p1, p2⟩
end
section
variable {H : Type} {enc : TypeId × Value → H} {w : World} {b0 : Nat} {r : Reach} {held : Bool} {v : Value} {d : DataW H} {p : List MemPlace}
set_option maxRecDepth 20000 in
theorem open_ride (hv : Value.okWide Try.prog w r b0 27 v) (h : DataW.Trod enc Try.prog w 0 (fun _ => true) held 27 v d p) :
    ∃ x : Ride, v = x.ag ∧ RideIn w x := by
  obtain ⟨cs, rfl, hsz⟩ := okWide_struct uRide hv
  obtain ⟨l⟩ := cs
  obtain ⟨fuel, hf⟩ := h
  obtain ⟨x, hx, hi⟩ := ride1 (show DataW.trod enc Try.prog w 0 (fun _ => true) held fuel 27 l = some (d, p) from hf)
  subst hx
  exact ⟨x, rfl, hi⟩
end
end Go.Proofs.Ytefodfpnedcodaa
/- The walks of the program's check of a ride, first part: intervals, ranges. -/
namespace Go.Proofs.Ytefodfpnedcodaa
open Go.RowKit

set_option maxHeartbeats 1000000 in
theorem vld_calls (w : World) (x : Since w) (lo hi : Int) :
    Calls Try.prog 60 #[.agg #[.int .i64 lo, .int .i64 hi]] x.w fun o w' => o = .returned (.bool (vldS lo hi)) ∧ ∃ y : Since w, w' = y.w := by
  rcases (by omega : lo < 0 ∨ (0 ≤ lo ∧ hi < lo) ∨ (0 ≤ lo ∧ lo ≤ hi ∧ 4294943999 < hi) ∨ (0 ≤ lo ∧ lo ≤ hi ∧ hi ≤ 4294943999)) with h1 | ⟨h1, h2⟩ | ⟨h1, h2, h3⟩ | ⟨h1, h2, h3⟩
  case inr.inr.inr =>
    have hv : vldS lo hi = true := (vldS_iff lo hi).2 ⟨h1, h2, h3⟩
    have Hv := Lib.hid hv; clear hv
    go_enter Try.func60, Try.ntmps60
    go_wp2_with fail
    go_ret
    exact ⟨ret_bool Hv.out.symm, x.alloc _⟩
  all_goals
    have hv : vldS lo hi = false := by
      cases h : vldS lo hi
      · rfl
      · rw [vldS_iff] at h; omega
    have Hv := Lib.hid hv; clear hv
    go_enter Try.func60, Try.ntmps60
    go_wp2_with fail
    go_ret
    exact ⟨ret_bool (by first | exact Hv.out.symm | (rw [Hv.out]; exact decide_eq_false (by omega))), x.alloc _⟩
theorem ranged_no {r : Ride} (h : headV r = false ∨ r.legs.all legV = false ∨ r.pauses.all pseV = false) : rangedB r = false := by
  unfold rangedB; rcases h with h | h | h <;> simp [h]
theorem ranged_yes {r : Ride} (h1 : headV r = true) (h2 : r.legs.all legV = true) (h3 : r.pauses.all pseV = true) : rangedB r = true := by
  unfold rangedB; rw [h1, h2, h3]; rfl
set_option maxRecDepth 100000 in
set_option maxHeartbeats 8000000 in
theorem ranged_calls (w : World) (x : Since w) (r : Ride) (h : r.At w) :
    Calls Try.prog 52 #[.agg #[.int .i64 r.id, .int .i64 r.rd, .int .i64 r.s0, .int .i64 r.s1, .int .i64 r.e0, .int .i64 r.e1, .bool r.op, .slice r.la r.legs.length r.lc, .slice r.pa r.pauses.length r.pc, .int .i64 r.fw, .int .i64 r.fp, .int .i64 r.wh, .int .i64 r.pl]] x.w fun o w' => o = .returned (.bool (rangedB r)) ∧ ∃ y : Since w, w' = y.w := by
  have HL := Lib.hid h.l; have HP := Lib.hid h.p
  have hlm := h.lm
  have hpm := h.pm
  clear h
  generalize r.la = la at HL ⊢
  generalize r.pa = pa at HP ⊢
  rcases (by omega : r.id < 1 ∨ (1 ≤ r.id ∧ 1000000 < r.id) ∨ (1 ≤ r.id ∧ r.id ≤ 1000000 ∧ r.rd < 0) ∨ (1 ≤ r.id ∧ r.id ≤ 1000000 ∧ 0 ≤ r.rd ∧ 127 < r.rd) ∨ (1 ≤ r.id ∧ r.id ≤ 1000000 ∧ 0 ≤ r.rd ∧ r.rd ≤ 127)) with h1 | ⟨h1, h2⟩ | ⟨h1, h2, h3⟩ | ⟨h1, h2, h3, h4⟩ | ⟨h1, h2, h3, h4⟩
  case inr.inr.inr.inr =>
    have hhead : headV r = (vldS r.s0 r.s1 && vldS r.e0 r.e1) := by unfold headV; simp [h1, h2, h3, h4]
    have Hhead := Lib.hid hhead
    clear hhead
    go_enter Try.func52, Try.ntmps52
    go_upto_region 1 with fail
    have hb0_0 : ∀ y : Since (x.w.alloc (.cells #[.int .i64 r.id, .int .i64 r.rd, .int .i64 r.s0, .int .i64 r.s1, .int .i64 r.e0, .int .i64 r.e1, .bool r.op, .slice la r.legs.length r.lc, .slice pa r.pauses.length r.pc, .int .i64 r.fw, .int .i64 r.fp, .int .i64 r.wh, .int .i64 r.pl] 27)), y.w.cell? ⟨x.w.heap.size, 0, none⟩ = some (.int .i64 r.id) := fun y => Since.cell (by simp [go_sem]) (by first | (simp; done) | (simp; omega)) y
    have hb0_1 : ∀ y : Since (x.w.alloc (.cells #[.int .i64 r.id, .int .i64 r.rd, .int .i64 r.s0, .int .i64 r.s1, .int .i64 r.e0, .int .i64 r.e1, .bool r.op, .slice la r.legs.length r.lc, .slice pa r.pauses.length r.pc, .int .i64 r.fw, .int .i64 r.fp, .int .i64 r.wh, .int .i64 r.pl] 27)), y.w.cell? ⟨x.w.heap.size, 1, none⟩ = some (.int .i64 r.rd) := fun y => Since.cell (by simp [go_sem]) (by first | (simp; done) | (simp; omega)) y
    have hb0_2 : ∀ y : Since (x.w.alloc (.cells #[.int .i64 r.id, .int .i64 r.rd, .int .i64 r.s0, .int .i64 r.s1, .int .i64 r.e0, .int .i64 r.e1, .bool r.op, .slice la r.legs.length r.lc, .slice pa r.pauses.length r.pc, .int .i64 r.fw, .int .i64 r.fp, .int .i64 r.wh, .int .i64 r.pl] 27)), y.w.cell? ⟨x.w.heap.size, 2, none⟩ = some (.int .i64 r.s0) := fun y => Since.cell (by simp [go_sem]) (by first | (simp; done) | (simp; omega)) y
    have hb0_3 : ∀ y : Since (x.w.alloc (.cells #[.int .i64 r.id, .int .i64 r.rd, .int .i64 r.s0, .int .i64 r.s1, .int .i64 r.e0, .int .i64 r.e1, .bool r.op, .slice la r.legs.length r.lc, .slice pa r.pauses.length r.pc, .int .i64 r.fw, .int .i64 r.fp, .int .i64 r.wh, .int .i64 r.pl] 27)), y.w.cell? ⟨x.w.heap.size, 3, none⟩ = some (.int .i64 r.s1) := fun y => Since.cell (by simp [go_sem]) (by first | (simp; done) | (simp; omega)) y
    have hb0_4 : ∀ y : Since (x.w.alloc (.cells #[.int .i64 r.id, .int .i64 r.rd, .int .i64 r.s0, .int .i64 r.s1, .int .i64 r.e0, .int .i64 r.e1, .bool r.op, .slice la r.legs.length r.lc, .slice pa r.pauses.length r.pc, .int .i64 r.fw, .int .i64 r.fp, .int .i64 r.wh, .int .i64 r.pl] 27)), y.w.cell? ⟨x.w.heap.size, 4, none⟩ = some (.int .i64 r.e0) := fun y => Since.cell (by simp [go_sem]) (by first | (simp; done) | (simp; omega)) y
    have hb0_5 : ∀ y : Since (x.w.alloc (.cells #[.int .i64 r.id, .int .i64 r.rd, .int .i64 r.s0, .int .i64 r.s1, .int .i64 r.e0, .int .i64 r.e1, .bool r.op, .slice la r.legs.length r.lc, .slice pa r.pauses.length r.pc, .int .i64 r.fw, .int .i64 r.fp, .int .i64 r.wh, .int .i64 r.pl] 27)), y.w.cell? ⟨x.w.heap.size, 5, none⟩ = some (.int .i64 r.e1) := fun y => Since.cell (by simp [go_sem]) (by first | (simp; done) | (simp; omega)) y
    have hb0_6 : ∀ y : Since (x.w.alloc (.cells #[.int .i64 r.id, .int .i64 r.rd, .int .i64 r.s0, .int .i64 r.s1, .int .i64 r.e0, .int .i64 r.e1, .bool r.op, .slice la r.legs.length r.lc, .slice pa r.pauses.length r.pc, .int .i64 r.fw, .int .i64 r.fp, .int .i64 r.wh, .int .i64 r.pl] 27)), y.w.cell? ⟨x.w.heap.size, 6, none⟩ = some (.bool r.op) := fun y => Since.cell (by simp [go_sem]) (by first | (simp; done) | (simp; omega)) y
    have hb0_7 : ∀ y : Since (x.w.alloc (.cells #[.int .i64 r.id, .int .i64 r.rd, .int .i64 r.s0, .int .i64 r.s1, .int .i64 r.e0, .int .i64 r.e1, .bool r.op, .slice la r.legs.length r.lc, .slice pa r.pauses.length r.pc, .int .i64 r.fw, .int .i64 r.fp, .int .i64 r.wh, .int .i64 r.pl] 27)), y.w.cell? ⟨x.w.heap.size, 7, none⟩ = some (.slice la r.legs.length r.lc) := fun y => Since.cell (by simp [go_sem]) (by first | (simp; done) | (simp; omega)) y
    have hb0_8 : ∀ y : Since (x.w.alloc (.cells #[.int .i64 r.id, .int .i64 r.rd, .int .i64 r.s0, .int .i64 r.s1, .int .i64 r.e0, .int .i64 r.e1, .bool r.op, .slice la r.legs.length r.lc, .slice pa r.pauses.length r.pc, .int .i64 r.fw, .int .i64 r.fp, .int .i64 r.wh, .int .i64 r.pl] 27)), y.w.cell? ⟨x.w.heap.size, 8, none⟩ = some (.slice pa r.pauses.length r.pc) := fun y => Since.cell (by simp [go_sem]) (by first | (simp; done) | (simp; omega)) y
    have hb0_9 : ∀ y : Since (x.w.alloc (.cells #[.int .i64 r.id, .int .i64 r.rd, .int .i64 r.s0, .int .i64 r.s1, .int .i64 r.e0, .int .i64 r.e1, .bool r.op, .slice la r.legs.length r.lc, .slice pa r.pauses.length r.pc, .int .i64 r.fw, .int .i64 r.fp, .int .i64 r.wh, .int .i64 r.pl] 27)), y.w.cell? ⟨x.w.heap.size, 9, none⟩ = some (.int .i64 r.fw) := fun y => Since.cell (by simp [go_sem]) (by first | (simp; done) | (simp; omega)) y
    have hb0_10 : ∀ y : Since (x.w.alloc (.cells #[.int .i64 r.id, .int .i64 r.rd, .int .i64 r.s0, .int .i64 r.s1, .int .i64 r.e0, .int .i64 r.e1, .bool r.op, .slice la r.legs.length r.lc, .slice pa r.pauses.length r.pc, .int .i64 r.fw, .int .i64 r.fp, .int .i64 r.wh, .int .i64 r.pl] 27)), y.w.cell? ⟨x.w.heap.size, 10, none⟩ = some (.int .i64 r.fp) := fun y => Since.cell (by simp [go_sem]) (by first | (simp; done) | (simp; omega)) y
    have hb0_11 : ∀ y : Since (x.w.alloc (.cells #[.int .i64 r.id, .int .i64 r.rd, .int .i64 r.s0, .int .i64 r.s1, .int .i64 r.e0, .int .i64 r.e1, .bool r.op, .slice la r.legs.length r.lc, .slice pa r.pauses.length r.pc, .int .i64 r.fw, .int .i64 r.fp, .int .i64 r.wh, .int .i64 r.pl] 27)), y.w.cell? ⟨x.w.heap.size, 11, none⟩ = some (.int .i64 r.wh) := fun y => Since.cell (by simp [go_sem]) (by first | (simp; done) | (simp; omega)) y
    have hb0_12 : ∀ y : Since (x.w.alloc (.cells #[.int .i64 r.id, .int .i64 r.rd, .int .i64 r.s0, .int .i64 r.s1, .int .i64 r.e0, .int .i64 r.e1, .bool r.op, .slice la r.legs.length r.lc, .slice pa r.pauses.length r.pc, .int .i64 r.fw, .int .i64 r.fp, .int .i64 r.wh, .int .i64 r.pl] 27)), y.w.cell? ⟨x.w.heap.size, 12, none⟩ = some (.int .i64 r.pl) := fun y => Since.cell (by simp [go_sem]) (by first | (simp; done) | (simp; omega)) y
    have hf0 : ∀ (y : Since (x.w.alloc (.cells #[.int .i64 r.id, .int .i64 r.rd, .int .i64 r.s0, .int .i64 r.s1, .int .i64 r.e0, .int .i64 r.e1, .bool r.op, .slice la r.legs.length r.lc, .slice pa r.pauses.length r.pc, .int .i64 r.fw, .int .i64 r.fp, .int .i64 r.wh, .int .i64 r.pl] 27))) (o : Nat), y.w.frozen? ⟨x.w.heap.size, o, none⟩ = false := fun y o => Since.free (by simp [go_sem]) (by first | (simp; done) | (simp; omega)) y
    have hWup : ∃ z : Since w, (x.w.alloc (.cells #[.int .i64 r.id, .int .i64 r.rd, .int .i64 r.s0, .int .i64 r.s1, .int .i64 r.e0, .int .i64 r.e1, .bool r.op, .slice la r.legs.length r.lc, .slice pa r.pauses.length r.pc, .int .i64 r.fw, .int .i64 r.fp, .int .i64 r.wh, .int .i64 r.pl] 27)) = z.w := x.alloc _
    obtain ⟨y0, hy0⟩ := Since.refl (x.w.alloc (.cells #[.int .i64 r.id, .int .i64 r.rd, .int .i64 r.s0, .int .i64 r.s1, .int .i64 r.e0, .int .i64 r.e1, .bool r.op, .slice la r.legs.length r.lc, .slice pa r.pauses.length r.pc, .int .i64 r.fw, .int .i64 r.fp, .int .i64 r.wh, .int .i64 r.pl] 27))
    have Hbx := Lib.hid (And.intro x.b.size (show x.w.heap.size + 1 = (x.w.alloc (.cells #[.int .i64 r.id, .int .i64 r.rd, .int .i64 r.s0, .int .i64 r.s1, .int .i64 r.e0, .int .i64 r.e1, .bool r.op, .slice la r.legs.length r.lc, .slice pa r.pauses.length r.pc, .int .i64 r.fw, .int .i64 r.fp, .int .i64 r.wh, .int .i64 r.pl] 27)).heap.size from by simp))
    generalize hW : (x.w.alloc (.cells #[.int .i64 r.id, .int .i64 r.rd, .int .i64 r.s0, .int .i64 r.s1, .int .i64 r.e0, .int .i64 r.e1, .bool r.op, .slice la r.legs.length r.lc, .slice pa r.pauses.length r.pc, .int .i64 r.fw, .int .i64 r.fp, .int .i64 r.wh, .int .i64 r.pl] 27)) = W at *
    clear hW
    generalize x.w.heap.size = bx at *
    have Hup := Lib.hid (Since.up hWup)
    rw [hy0]
    clear hy0
    replace HL := Lib.hid (HL.out.to hWup); replace HP := Lib.hid (HP.out.to hWup)
    clear hWup
    cases hs : vldS r.s0 r.s1 with
    | false =>
      have Hr := Lib.hid (ranged_no (r := r) (.inl (by rw [Hhead.out, hs]; rfl)))
      have Hs := Lib.hid hs; clear hs
      go_wp2_with (go_at_call 60; refine (vld_calls W _ _ _).mono ?_; rintro _ _ ⟨rfl, y1, rfl⟩; rw [Hs.out])
      go_ret
      exact ⟨ret_bool Hr.out.symm, Hup.out _⟩
    | true =>
      cases he : vldS r.e0 r.e1 with
      | false =>
        have Hr := Lib.hid (ranged_no (r := r) (.inl (by rw [Hhead.out, hs, he]; rfl)))
        have Hs := Lib.hid hs; have He := Lib.hid he; clear hs he
        go_wp2_with (first | (go_at_call 60; ((with_reducible refine (vld_calls W _ r.s0 r.s1).mono ?_); rintro _ _ ⟨rfl, y1, rfl⟩; rw [Hs.out])) | (go_at_call 60; ((with_reducible refine (vld_calls W _ r.e0 r.e1).mono ?_); rintro _ _ ⟨rfl, y1, rfl⟩; rw [He.out])))
        go_ret
        exact ⟨ret_bool Hr.out.symm, Hup.out _⟩
      | true =>
        have Hh := Lib.hid (show headV r = true by rw [Hhead.out, hs, he]; rfl)
        have Hs := Lib.hid hs; have He := Lib.hid he; clear hs he
        go_upto_region 4 with (first | (go_at_call 60; ((with_reducible refine (vld_calls W _ r.s0 r.s1).mono ?_); rintro _ _ ⟨rfl, y1, rfl⟩; rw [Hs.out])) | (go_at_call 60; ((with_reducible refine (vld_calls W _ r.e0 r.e1).mono ?_); rintro _ _ ⟨rfl, y1, rfl⟩; rw [He.out])))
        go_loopw [40] (fun i wr => ∃ (k : Nat) (y : Since W), k ≤ r.legs.length ∧ i = .int .i64 k ∧ wr = y.w ∧ ∀ j, j < k → ∀ e, r.legs[j]? = some e → legV e = true) (fun i _ => r.legs.length - (intOf i).toNat)
        case atStart => exact ⟨0, _, by omega, rfl, rfl, fun j hj => by omega⟩
        case round =>
          obtain ⟨k, y, hk, rfl, rfl, hok⟩ := hrel
          have Hok := Lib.hid hok; clear hok
          by_cases hlt : k < r.legs.length
          · obtain ⟨e, he⟩ : ∃ e, r.legs[k]? = some e := ⟨_, List.getElem?_eq_getElem hlt⟩
            obtain ⟨b1, off1, rfl, h1'⟩ := Els.leg HL.out he
            have pa0 := h1'.c0
            have pa1 := h1'.c1
            have pa2 := h1'.c2
            have pa3 := h1'.c3
            have pa4 := h1'.c4
            have hk0 : (0 : Int) ≤ (k : Int) := by omega
            have hkl : (k : Int) < (r.legs.length : Int) := by omega
            have He' := Lib.hid he; clear h1' he
            go_upto_region 6 with fail
            have hx0 : (y.w.alloc (.cells #[.int .i64 e.b, .int .i64 e.f0, .int .i64 e.f1, .int .i64 e.t0, .int .i64 e.t1] 60)).cell? ⟨y.w.heap.size, 0, none⟩ = some (.int .i64 e.b) := by simp [go_sem]
            have hx1 : (y.w.alloc (.cells #[.int .i64 e.b, .int .i64 e.f0, .int .i64 e.f1, .int .i64 e.t0, .int .i64 e.t1] 60)).cell? ⟨y.w.heap.size, 1, none⟩ = some (.int .i64 e.f0) := by simp [go_sem]
            have hx2 : (y.w.alloc (.cells #[.int .i64 e.b, .int .i64 e.f0, .int .i64 e.f1, .int .i64 e.t0, .int .i64 e.t1] 60)).cell? ⟨y.w.heap.size, 2, none⟩ = some (.int .i64 e.f1) := by simp [go_sem]
            have hx3 : (y.w.alloc (.cells #[.int .i64 e.b, .int .i64 e.f0, .int .i64 e.f1, .int .i64 e.t0, .int .i64 e.t1] 60)).cell? ⟨y.w.heap.size, 3, none⟩ = some (.int .i64 e.t0) := by simp [go_sem]
            have hx4 : (y.w.alloc (.cells #[.int .i64 e.b, .int .i64 e.f0, .int .i64 e.f1, .int .i64 e.t0, .int .i64 e.t1] 60)).cell? ⟨y.w.heap.size, 4, none⟩ = some (.int .i64 e.t1) := by simp [go_sem]
            have hxf : ∀ o, (y.w.alloc (.cells #[.int .i64 e.b, .int .i64 e.f0, .int .i64 e.f1, .int .i64 e.t0, .int .i64 e.t1] 60)).frozen? ⟨y.w.heap.size, o, none⟩ = false := fun o => by simp [go_sem]
            have hlt0 : y.w.heap.size < (y.w.alloc (.cells #[.int .i64 e.b, .int .i64 e.f0, .int .i64 e.f1, .int .i64 e.t0, .int .i64 e.t1] 60)).heap.size := by simp
            have hst0 : ∃ zz : Since y.w, (y.w.alloc (.cells #[.int .i64 e.b, .int .i64 e.f0, .int .i64 e.f1, .int .i64 e.t0, .int .i64 e.t1] 60)) = zz.w := IsSince.alloc (IsSince.self _) _
            have hsz0 := y.b.size
            obtain ⟨y2, e2⟩ := IsSince.alloc (IsSince.of y) (.cells #[.int .i64 e.b, .int .i64 e.f0, .int .i64 e.f1, .int .i64 e.t0, .int .i64 e.t1] 60)
            rw [e2] at hx0 hx1 hx2 hx3 hx4 hxf hlt0 hst0 ⊢
            skip
            clear e2 hst0
            generalize y.w.heap.size = g at *
            have Hhx0 : ∀ q : Since y2.w, q.w.cell? ⟨g, 0, none⟩ = some (.int .i64 e.b) := fun q => Since.cell hx0 (by omega) q
            have Hhx1 : ∀ q : Since y2.w, q.w.cell? ⟨g, 1, none⟩ = some (.int .i64 e.f0) := fun q => Since.cell hx1 (by omega) q
            have Hhx2 : ∀ q : Since y2.w, q.w.cell? ⟨g, 2, none⟩ = some (.int .i64 e.f1) := fun q => Since.cell hx2 (by omega) q
            have Hhx3 : ∀ q : Since y2.w, q.w.cell? ⟨g, 3, none⟩ = some (.int .i64 e.t0) := fun q => Since.cell hx3 (by omega) q
            have Hhx4 : ∀ q : Since y2.w, q.w.cell? ⟨g, 4, none⟩ = some (.int .i64 e.t1) := fun q => Since.cell hx4 (by omega) q
            have Hhxf : ∀ (q : Since y2.w) (o : Nat), q.w.frozen? ⟨g, o, none⟩ = false := fun q o => Since.free (hxf o) (by omega) q
            have Hhxg := Lib.hid (And.intro hsz0 hlt0)
            clear hlt0 hsz0
            obtain ⟨q0, hq0⟩ := Since.refl y2.w
            rw [hq0]
            clear hq0
            cases hf : vldS e.f0 e.f1 with
            | false =>
              have Hr := Lib.hid (ranged_no (r := r) (.inr <| .inl (all_no He'.out (by unfold legV; rw [hf]; rfl))))
              have Hf := Lib.hid hf; clear hf
              go_wp2_with (go_at_call 60; ((with_reducible refine (vld_calls y2.w _ e.f0 e.f1).mono ?_); rintro _ _ ⟨rfl, z1, rfl⟩; rw [Hf.out]))
              go_ret
              exact ⟨ret_bool Hr.out.symm, by obtain ⟨q, e⟩ := y2.trans z1; rw [e]; exact Hup.out q⟩
            | true =>
              have Hf := Lib.hid hf; clear hf
              cases ht : vldS e.t0 e.t1 with
              | false =>
                have Hr := Lib.hid (ranged_no (r := r) (.inr <| .inl (all_no He'.out (by unfold legV; rw [Hf.out, ht]; rfl))))
                have Ht := Lib.hid ht; clear ht
                go_wp2_with (first | (go_at_call 60; ((with_reducible refine (vld_calls y2.w _ e.f0 e.f1).mono ?_); rintro _ _ ⟨rfl, z1, rfl⟩; rw [Hf.out])) | (go_at_call 60; ((with_reducible refine (vld_calls y2.w _ e.t0 e.t1).mono ?_); rintro _ _ ⟨rfl, z1, rfl⟩; rw [Ht.out])))
                go_ret
                exact ⟨ret_bool Hr.out.symm, by obtain ⟨q, e⟩ := y2.trans z1; rw [e]; exact Hup.out q⟩
              | true =>
                have Hv := Lib.hid (show legV e = true by unfold legV; rw [Hf.out, ht]; rfl)
                have Ht := Lib.hid ht; clear ht
                go_wp2_with (first | (go_at_call 60; ((with_reducible refine (vld_calls y2.w _ e.f0 e.f1).mono ?_); rintro _ _ ⟨rfl, z1, rfl⟩; rw [Hf.out])) | (go_at_call 60; ((with_reducible refine (vld_calls y2.w _ e.t0 e.t1).mono ?_); rintro _ _ ⟨rfl, z1, rfl⟩; rw [Ht.out])))
                obtain ⟨q, eq⟩ := y2.trans z1
                rw [eq]
                go_roundw
                case rel => exact ⟨k + 1, q, by omega, by go_num, rfl, upto_next Hok.out He'.out Hv.out⟩
                case measure => simp [intOf] <;> omega
          · obtain rfl : k = r.legs.length := by omega
            have HvL := Lib.hid (all_yes Hok.out)
            go_upto_region 10 with fail
            go_loopw [58] (fun i wr => ∃ (k : Nat) (y : Since W), k ≤ r.pauses.length ∧ i = .int .i64 k ∧ wr = y.w ∧ ∀ j, j < k → ∀ e, r.pauses[j]? = some e → pseV e = true) (fun i _ => r.pauses.length - (intOf i).toNat)
            case atStart => exact ⟨0, _, by omega, rfl, rfl, fun j hj => by omega⟩
            case round =>
              obtain ⟨k, y, hk, rfl, rfl, hok⟩ := hrel
              have Hok := Lib.hid hok; clear hok
              by_cases hlt : k < r.pauses.length
              · obtain ⟨e, he⟩ : ∃ e, r.pauses[k]? = some e := ⟨_, List.getElem?_eq_getElem hlt⟩
                obtain ⟨b1, off1, rfl, h1'⟩ := Els.pse HP.out he
                have pa0 := h1'.c0
                have pa1 := h1'.c1
                have pa2 := h1'.c2
                have pa3 := h1'.c3
                have hk0 : (0 : Int) ≤ (k : Int) := by omega
                have hkl : (k : Int) < (r.pauses.length : Int) := by omega
                have He' := Lib.hid he; clear h1' he
                go_upto_region 12 with fail
                have hx0 : (y.w.alloc (.cells #[.int .i64 e.f0, .int .i64 e.f1, .int .i64 e.t0, .int .i64 e.t1] 52)).cell? ⟨y.w.heap.size, 0, none⟩ = some (.int .i64 e.f0) := by simp [go_sem]
                have hx1 : (y.w.alloc (.cells #[.int .i64 e.f0, .int .i64 e.f1, .int .i64 e.t0, .int .i64 e.t1] 52)).cell? ⟨y.w.heap.size, 1, none⟩ = some (.int .i64 e.f1) := by simp [go_sem]
                have hx2 : (y.w.alloc (.cells #[.int .i64 e.f0, .int .i64 e.f1, .int .i64 e.t0, .int .i64 e.t1] 52)).cell? ⟨y.w.heap.size, 2, none⟩ = some (.int .i64 e.t0) := by simp [go_sem]
                have hx3 : (y.w.alloc (.cells #[.int .i64 e.f0, .int .i64 e.f1, .int .i64 e.t0, .int .i64 e.t1] 52)).cell? ⟨y.w.heap.size, 3, none⟩ = some (.int .i64 e.t1) := by simp [go_sem]
                have hxf : ∀ o, (y.w.alloc (.cells #[.int .i64 e.f0, .int .i64 e.f1, .int .i64 e.t0, .int .i64 e.t1] 52)).frozen? ⟨y.w.heap.size, o, none⟩ = false := fun o => by simp [go_sem]
                have hlt0 : y.w.heap.size < (y.w.alloc (.cells #[.int .i64 e.f0, .int .i64 e.f1, .int .i64 e.t0, .int .i64 e.t1] 52)).heap.size := by simp
                have hst0 : ∃ zz : Since y.w, (y.w.alloc (.cells #[.int .i64 e.f0, .int .i64 e.f1, .int .i64 e.t0, .int .i64 e.t1] 52)) = zz.w := IsSince.alloc (IsSince.self _) _
                have hsz0 := y.b.size
                obtain ⟨y2, e2⟩ := IsSince.alloc (IsSince.of y) (.cells #[.int .i64 e.f0, .int .i64 e.f1, .int .i64 e.t0, .int .i64 e.t1] 52)
                rw [e2] at hx0 hx1 hx2 hx3 hxf hlt0 hst0 ⊢
                skip
                clear e2 hst0
                generalize y.w.heap.size = g at *
                have Hhx0 : ∀ q : Since y2.w, q.w.cell? ⟨g, 0, none⟩ = some (.int .i64 e.f0) := fun q => Since.cell hx0 (by omega) q
                have Hhx1 : ∀ q : Since y2.w, q.w.cell? ⟨g, 1, none⟩ = some (.int .i64 e.f1) := fun q => Since.cell hx1 (by omega) q
                have Hhx2 : ∀ q : Since y2.w, q.w.cell? ⟨g, 2, none⟩ = some (.int .i64 e.t0) := fun q => Since.cell hx2 (by omega) q
                have Hhx3 : ∀ q : Since y2.w, q.w.cell? ⟨g, 3, none⟩ = some (.int .i64 e.t1) := fun q => Since.cell hx3 (by omega) q
                have Hhxf : ∀ (q : Since y2.w) (o : Nat), q.w.frozen? ⟨g, o, none⟩ = false := fun q o => Since.free (hxf o) (by omega) q
                have Hhxg := Lib.hid (And.intro hsz0 hlt0)
                clear hlt0 hsz0
                obtain ⟨q0, hq0⟩ := Since.refl y2.w
                rw [hq0]
                clear hq0
                cases hf : vldS e.f0 e.f1 with
                | false =>
                  have Hr := Lib.hid (ranged_no (r := r) (.inr <| .inr (all_no He'.out (by unfold pseV; rw [hf]; rfl))))
                  have Hf := Lib.hid hf; clear hf
                  go_wp2_with (go_at_call 60; ((with_reducible refine (vld_calls y2.w _ e.f0 e.f1).mono ?_); rintro _ _ ⟨rfl, z1, rfl⟩; rw [Hf.out]))
                  go_ret
                  exact ⟨ret_bool Hr.out.symm, by obtain ⟨q, e⟩ := y2.trans z1; rw [e]; exact Hup.out q⟩
                | true =>
                  have Hf := Lib.hid hf; clear hf
                  cases ht : vldS e.t0 e.t1 with
                  | false =>
                    have Hr := Lib.hid (ranged_no (r := r) (.inr <| .inr (all_no He'.out (by unfold pseV; rw [Hf.out, ht]; rfl))))
                    have Ht := Lib.hid ht; clear ht
                    go_wp2_with (first | (go_at_call 60; ((with_reducible refine (vld_calls y2.w _ e.f0 e.f1).mono ?_); rintro _ _ ⟨rfl, z1, rfl⟩; rw [Hf.out])) | (go_at_call 60; ((with_reducible refine (vld_calls y2.w _ e.t0 e.t1).mono ?_); rintro _ _ ⟨rfl, z1, rfl⟩; rw [Ht.out])))
                    go_ret
                    exact ⟨ret_bool Hr.out.symm, by obtain ⟨q, e⟩ := y2.trans z1; rw [e]; exact Hup.out q⟩
                  | true =>
                    have Hv := Lib.hid (show pseV e = true by unfold pseV; rw [Hf.out, ht]; rfl)
                    have Ht := Lib.hid ht; clear ht
                    go_wp2_with (first | (go_at_call 60; ((with_reducible refine (vld_calls y2.w _ e.f0 e.f1).mono ?_); rintro _ _ ⟨rfl, z1, rfl⟩; rw [Hf.out])) | (go_at_call 60; ((with_reducible refine (vld_calls y2.w _ e.t0 e.t1).mono ?_); rintro _ _ ⟨rfl, z1, rfl⟩; rw [Ht.out])))
                    obtain ⟨q, eq⟩ := y2.trans z1
                    rw [eq]
                    go_roundw
                    case rel => exact ⟨k + 1, q, by omega, by go_num, rfl, upto_next Hok.out He'.out Hv.out⟩
                    case measure => simp [intOf] <;> omega
              · obtain rfl : k = r.pauses.length := by omega
                have HvP := Lib.hid (all_yes Hok.out)
                go_wp2_with fail
                go_ret
                exact ⟨ret_bool (ranged_yes Hh.out HvL.out HvP.out).symm, Hup.out _⟩
  all_goals
    have Hr := Lib.hid (ranged_no (r := r) (.inl (by
      cases hh : headV r
      · rfl
      · unfold headV at hh
        simp only [Bool.and_eq_true, decide_eq_true_eq] at hh
        omega)))
    go_enter Try.func52, Try.ntmps52
    go_wp2_with fail
    go_ret
    exact ⟨ret_bool Hr.out.symm, x.alloc _⟩
end Go.Proofs.Ytefodfpnedcodaa
/- The walks of the reference's check of a ride, first part: intervals, ranges. -/
namespace Go.Proofs.Ytefodfpnedcodaa
open Go.RowKit

set_option maxHeartbeats 1000000 in
theorem rspan_calls (w : World) (x : Since w) (lo hi : Int) :
    Calls Try.prog 58 #[.agg #[.int .i64 lo, .int .i64 hi]] x.w fun o w' => o = .returned (.bool (vldS lo hi)) ∧ ∃ y : Since w, w' = y.w := by
  rcases (by omega : lo < 0 ∨ (0 ≤ lo ∧ hi < lo) ∨ (0 ≤ lo ∧ lo ≤ hi ∧ 4294943999 < hi) ∨ (0 ≤ lo ∧ lo ≤ hi ∧ hi ≤ 4294943999)) with h1 | ⟨h1, h2⟩ | ⟨h1, h2, h3⟩ | ⟨h1, h2, h3⟩
  case inr.inr.inr =>
    have hv : vldS lo hi = true := (vldS_iff lo hi).2 ⟨h1, h2, h3⟩
    have Hv := Lib.hid hv; clear hv
    go_enter Try.func58, Try.ntmps58
    go_wp2_with fail
    go_ret
    exact ⟨ret_bool Hv.out.symm, x.alloc _⟩
  all_goals
    have hv : vldS lo hi = false := by
      cases h : vldS lo hi
      · rfl
      · rw [vldS_iff] at h; omega
    have Hv := Lib.hid hv; clear hv
    go_enter Try.func58, Try.ntmps58
    go_wp2_with fail
    go_ret
    exact ⟨ret_bool (by first | exact Hv.out.symm | (rw [Hv.out]; exact decide_eq_false (by omega))), x.alloc _⟩
set_option maxRecDepth 100000 in
set_option maxHeartbeats 8000000 in
theorem rranged_calls (w : World) (x : Since w) (r : Ride) (h : r.At w) :
    Calls Try.prog 49 #[.agg #[.int .i64 r.id, .int .i64 r.rd, .int .i64 r.s0, .int .i64 r.s1, .int .i64 r.e0, .int .i64 r.e1, .bool r.op, .slice r.la r.legs.length r.lc, .slice r.pa r.pauses.length r.pc, .int .i64 r.fw, .int .i64 r.fp, .int .i64 r.wh, .int .i64 r.pl]] x.w fun o w' => o = .returned (.bool (rangedB r)) ∧ ∃ y : Since w, w' = y.w := by
  have HL := Lib.hid h.l; have HP := Lib.hid h.p
  have hlm := h.lm
  have hpm := h.pm
  clear h
  generalize r.la = la at HL ⊢
  generalize r.pa = pa at HP ⊢
  rcases (by omega : r.id < 1 ∨ (1 ≤ r.id ∧ 1000000 < r.id) ∨ (1 ≤ r.id ∧ r.id ≤ 1000000 ∧ r.rd < 0) ∨ (1 ≤ r.id ∧ r.id ≤ 1000000 ∧ 0 ≤ r.rd ∧ 127 < r.rd) ∨ (1 ≤ r.id ∧ r.id ≤ 1000000 ∧ 0 ≤ r.rd ∧ r.rd ≤ 127)) with h1 | ⟨h1, h2⟩ | ⟨h1, h2, h3⟩ | ⟨h1, h2, h3, h4⟩ | ⟨h1, h2, h3, h4⟩
  case inr.inr.inr.inr =>
    have hhead : headV r = (vldS r.s0 r.s1 && vldS r.e0 r.e1) := by unfold headV; simp [h1, h2, h3, h4]
    have Hhead := Lib.hid hhead
    clear hhead
    go_enter Try.func49, Try.ntmps49
    go_upto_region 1 with fail
    have hb0_0 : ∀ y : Since (x.w.alloc (.cells #[.int .i64 r.id, .int .i64 r.rd, .int .i64 r.s0, .int .i64 r.s1, .int .i64 r.e0, .int .i64 r.e1, .bool r.op, .slice la r.legs.length r.lc, .slice pa r.pauses.length r.pc, .int .i64 r.fw, .int .i64 r.fp, .int .i64 r.wh, .int .i64 r.pl] 27)), y.w.cell? ⟨x.w.heap.size, 0, none⟩ = some (.int .i64 r.id) := fun y => Since.cell (by simp [go_sem]) (by first | (simp; done) | (simp; omega)) y
    have hb0_1 : ∀ y : Since (x.w.alloc (.cells #[.int .i64 r.id, .int .i64 r.rd, .int .i64 r.s0, .int .i64 r.s1, .int .i64 r.e0, .int .i64 r.e1, .bool r.op, .slice la r.legs.length r.lc, .slice pa r.pauses.length r.pc, .int .i64 r.fw, .int .i64 r.fp, .int .i64 r.wh, .int .i64 r.pl] 27)), y.w.cell? ⟨x.w.heap.size, 1, none⟩ = some (.int .i64 r.rd) := fun y => Since.cell (by simp [go_sem]) (by first | (simp; done) | (simp; omega)) y
    have hb0_2 : ∀ y : Since (x.w.alloc (.cells #[.int .i64 r.id, .int .i64 r.rd, .int .i64 r.s0, .int .i64 r.s1, .int .i64 r.e0, .int .i64 r.e1, .bool r.op, .slice la r.legs.length r.lc, .slice pa r.pauses.length r.pc, .int .i64 r.fw, .int .i64 r.fp, .int .i64 r.wh, .int .i64 r.pl] 27)), y.w.cell? ⟨x.w.heap.size, 2, none⟩ = some (.int .i64 r.s0) := fun y => Since.cell (by simp [go_sem]) (by first | (simp; done) | (simp; omega)) y
    have hb0_3 : ∀ y : Since (x.w.alloc (.cells #[.int .i64 r.id, .int .i64 r.rd, .int .i64 r.s0, .int .i64 r.s1, .int .i64 r.e0, .int .i64 r.e1, .bool r.op, .slice la r.legs.length r.lc, .slice pa r.pauses.length r.pc, .int .i64 r.fw, .int .i64 r.fp, .int .i64 r.wh, .int .i64 r.pl] 27)), y.w.cell? ⟨x.w.heap.size, 3, none⟩ = some (.int .i64 r.s1) := fun y => Since.cell (by simp [go_sem]) (by first | (simp; done) | (simp; omega)) y
    have hb0_4 : ∀ y : Since (x.w.alloc (.cells #[.int .i64 r.id, .int .i64 r.rd, .int .i64 r.s0, .int .i64 r.s1, .int .i64 r.e0, .int .i64 r.e1, .bool r.op, .slice la r.legs.length r.lc, .slice pa r.pauses.length r.pc, .int .i64 r.fw, .int .i64 r.fp, .int .i64 r.wh, .int .i64 r.pl] 27)), y.w.cell? ⟨x.w.heap.size, 4, none⟩ = some (.int .i64 r.e0) := fun y => Since.cell (by simp [go_sem]) (by first | (simp; done) | (simp; omega)) y
    have hb0_5 : ∀ y : Since (x.w.alloc (.cells #[.int .i64 r.id, .int .i64 r.rd, .int .i64 r.s0, .int .i64 r.s1, .int .i64 r.e0, .int .i64 r.e1, .bool r.op, .slice la r.legs.length r.lc, .slice pa r.pauses.length r.pc, .int .i64 r.fw, .int .i64 r.fp, .int .i64 r.wh, .int .i64 r.pl] 27)), y.w.cell? ⟨x.w.heap.size, 5, none⟩ = some (.int .i64 r.e1) := fun y => Since.cell (by simp [go_sem]) (by first | (simp; done) | (simp; omega)) y
    have hb0_6 : ∀ y : Since (x.w.alloc (.cells #[.int .i64 r.id, .int .i64 r.rd, .int .i64 r.s0, .int .i64 r.s1, .int .i64 r.e0, .int .i64 r.e1, .bool r.op, .slice la r.legs.length r.lc, .slice pa r.pauses.length r.pc, .int .i64 r.fw, .int .i64 r.fp, .int .i64 r.wh, .int .i64 r.pl] 27)), y.w.cell? ⟨x.w.heap.size, 6, none⟩ = some (.bool r.op) := fun y => Since.cell (by simp [go_sem]) (by first | (simp; done) | (simp; omega)) y
    have hb0_7 : ∀ y : Since (x.w.alloc (.cells #[.int .i64 r.id, .int .i64 r.rd, .int .i64 r.s0, .int .i64 r.s1, .int .i64 r.e0, .int .i64 r.e1, .bool r.op, .slice la r.legs.length r.lc, .slice pa r.pauses.length r.pc, .int .i64 r.fw, .int .i64 r.fp, .int .i64 r.wh, .int .i64 r.pl] 27)), y.w.cell? ⟨x.w.heap.size, 7, none⟩ = some (.slice la r.legs.length r.lc) := fun y => Since.cell (by simp [go_sem]) (by first | (simp; done) | (simp; omega)) y
    have hb0_8 : ∀ y : Since (x.w.alloc (.cells #[.int .i64 r.id, .int .i64 r.rd, .int .i64 r.s0, .int .i64 r.s1, .int .i64 r.e0, .int .i64 r.e1, .bool r.op, .slice la r.legs.length r.lc, .slice pa r.pauses.length r.pc, .int .i64 r.fw, .int .i64 r.fp, .int .i64 r.wh, .int .i64 r.pl] 27)), y.w.cell? ⟨x.w.heap.size, 8, none⟩ = some (.slice pa r.pauses.length r.pc) := fun y => Since.cell (by simp [go_sem]) (by first | (simp; done) | (simp; omega)) y
    have hb0_9 : ∀ y : Since (x.w.alloc (.cells #[.int .i64 r.id, .int .i64 r.rd, .int .i64 r.s0, .int .i64 r.s1, .int .i64 r.e0, .int .i64 r.e1, .bool r.op, .slice la r.legs.length r.lc, .slice pa r.pauses.length r.pc, .int .i64 r.fw, .int .i64 r.fp, .int .i64 r.wh, .int .i64 r.pl] 27)), y.w.cell? ⟨x.w.heap.size, 9, none⟩ = some (.int .i64 r.fw) := fun y => Since.cell (by simp [go_sem]) (by first | (simp; done) | (simp; omega)) y
    have hb0_10 : ∀ y : Since (x.w.alloc (.cells #[.int .i64 r.id, .int .i64 r.rd, .int .i64 r.s0, .int .i64 r.s1, .int .i64 r.e0, .int .i64 r.e1, .bool r.op, .slice la r.legs.length r.lc, .slice pa r.pauses.length r.pc, .int .i64 r.fw, .int .i64 r.fp, .int .i64 r.wh, .int .i64 r.pl] 27)), y.w.cell? ⟨x.w.heap.size, 10, none⟩ = some (.int .i64 r.fp) := fun y => Since.cell (by simp [go_sem]) (by first | (simp; done) | (simp; omega)) y
    have hb0_11 : ∀ y : Since (x.w.alloc (.cells #[.int .i64 r.id, .int .i64 r.rd, .int .i64 r.s0, .int .i64 r.s1, .int .i64 r.e0, .int .i64 r.e1, .bool r.op, .slice la r.legs.length r.lc, .slice pa r.pauses.length r.pc, .int .i64 r.fw, .int .i64 r.fp, .int .i64 r.wh, .int .i64 r.pl] 27)), y.w.cell? ⟨x.w.heap.size, 11, none⟩ = some (.int .i64 r.wh) := fun y => Since.cell (by simp [go_sem]) (by first | (simp; done) | (simp; omega)) y
    have hb0_12 : ∀ y : Since (x.w.alloc (.cells #[.int .i64 r.id, .int .i64 r.rd, .int .i64 r.s0, .int .i64 r.s1, .int .i64 r.e0, .int .i64 r.e1, .bool r.op, .slice la r.legs.length r.lc, .slice pa r.pauses.length r.pc, .int .i64 r.fw, .int .i64 r.fp, .int .i64 r.wh, .int .i64 r.pl] 27)), y.w.cell? ⟨x.w.heap.size, 12, none⟩ = some (.int .i64 r.pl) := fun y => Since.cell (by simp [go_sem]) (by first | (simp; done) | (simp; omega)) y
    have hf0 : ∀ (y : Since (x.w.alloc (.cells #[.int .i64 r.id, .int .i64 r.rd, .int .i64 r.s0, .int .i64 r.s1, .int .i64 r.e0, .int .i64 r.e1, .bool r.op, .slice la r.legs.length r.lc, .slice pa r.pauses.length r.pc, .int .i64 r.fw, .int .i64 r.fp, .int .i64 r.wh, .int .i64 r.pl] 27))) (o : Nat), y.w.frozen? ⟨x.w.heap.size, o, none⟩ = false := fun y o => Since.free (by simp [go_sem]) (by first | (simp; done) | (simp; omega)) y
    have hWup : ∃ z : Since w, (x.w.alloc (.cells #[.int .i64 r.id, .int .i64 r.rd, .int .i64 r.s0, .int .i64 r.s1, .int .i64 r.e0, .int .i64 r.e1, .bool r.op, .slice la r.legs.length r.lc, .slice pa r.pauses.length r.pc, .int .i64 r.fw, .int .i64 r.fp, .int .i64 r.wh, .int .i64 r.pl] 27)) = z.w := x.alloc _
    obtain ⟨y0, hy0⟩ := Since.refl (x.w.alloc (.cells #[.int .i64 r.id, .int .i64 r.rd, .int .i64 r.s0, .int .i64 r.s1, .int .i64 r.e0, .int .i64 r.e1, .bool r.op, .slice la r.legs.length r.lc, .slice pa r.pauses.length r.pc, .int .i64 r.fw, .int .i64 r.fp, .int .i64 r.wh, .int .i64 r.pl] 27))
    have Hbx := Lib.hid (And.intro x.b.size (show x.w.heap.size + 1 = (x.w.alloc (.cells #[.int .i64 r.id, .int .i64 r.rd, .int .i64 r.s0, .int .i64 r.s1, .int .i64 r.e0, .int .i64 r.e1, .bool r.op, .slice la r.legs.length r.lc, .slice pa r.pauses.length r.pc, .int .i64 r.fw, .int .i64 r.fp, .int .i64 r.wh, .int .i64 r.pl] 27)).heap.size from by simp))
    generalize hW : (x.w.alloc (.cells #[.int .i64 r.id, .int .i64 r.rd, .int .i64 r.s0, .int .i64 r.s1, .int .i64 r.e0, .int .i64 r.e1, .bool r.op, .slice la r.legs.length r.lc, .slice pa r.pauses.length r.pc, .int .i64 r.fw, .int .i64 r.fp, .int .i64 r.wh, .int .i64 r.pl] 27)) = W at *
    clear hW
    generalize x.w.heap.size = bx at *
    have Hup := Lib.hid (Since.up hWup)
    rw [hy0]
    clear hy0
    replace HL := Lib.hid (HL.out.to hWup); replace HP := Lib.hid (HP.out.to hWup)
    clear hWup
    cases hs : vldS r.s0 r.s1 with
    | false =>
      have Hr := Lib.hid (ranged_no (r := r) (.inl (by rw [Hhead.out, hs]; rfl)))
      have Hs := Lib.hid hs; clear hs
      go_wp2_with (go_at_call 58; refine (rspan_calls W _ _ _).mono ?_; rintro _ _ ⟨rfl, y1, rfl⟩; rw [Hs.out])
      go_ret
      exact ⟨ret_bool Hr.out.symm, Hup.out _⟩
    | true =>
      cases he : vldS r.e0 r.e1 with
      | false =>
        have Hr := Lib.hid (ranged_no (r := r) (.inl (by rw [Hhead.out, hs, he]; rfl)))
        have Hs := Lib.hid hs; have He := Lib.hid he; clear hs he
        go_wp2_with (first | (go_at_call 58; ((with_reducible refine (rspan_calls W _ r.s0 r.s1).mono ?_); rintro _ _ ⟨rfl, y1, rfl⟩; rw [Hs.out])) | (go_at_call 58; ((with_reducible refine (rspan_calls W _ r.e0 r.e1).mono ?_); rintro _ _ ⟨rfl, y1, rfl⟩; rw [He.out])))
        go_ret
        exact ⟨ret_bool Hr.out.symm, Hup.out _⟩
      | true =>
        have Hh := Lib.hid (show headV r = true by rw [Hhead.out, hs, he]; rfl)
        have Hs := Lib.hid hs; have He := Lib.hid he; clear hs he
        go_upto_region 4 with (first | (go_at_call 58; ((with_reducible refine (rspan_calls W _ r.s0 r.s1).mono ?_); rintro _ _ ⟨rfl, y1, rfl⟩; rw [Hs.out])) | (go_at_call 58; ((with_reducible refine (rspan_calls W _ r.e0 r.e1).mono ?_); rintro _ _ ⟨rfl, y1, rfl⟩; rw [He.out])))
        go_loopw [3] (fun i wr => ∃ (k : Nat) (y : Since W), k ≤ r.legs.length ∧ i = .int .i64 k ∧ wr = y.w ∧ ∀ j, j < k → ∀ e, r.legs[j]? = some e → legV e = true) (fun i _ => r.legs.length - (intOf i).toNat)
        case atStart => exact ⟨0, _, by omega, rfl, rfl, fun j hj => by omega⟩
        case round =>
          obtain ⟨k, y, hk, rfl, rfl, hok⟩ := hrel
          have Hok := Lib.hid hok; clear hok
          by_cases hlt : k < r.legs.length
          · obtain ⟨e, he⟩ : ∃ e, r.legs[k]? = some e := ⟨_, List.getElem?_eq_getElem hlt⟩
            obtain ⟨b1, off1, rfl, h1'⟩ := Els.leg HL.out he
            have pa0 := h1'.c0
            have pa1 := h1'.c1
            have pa2 := h1'.c2
            have pa3 := h1'.c3
            have pa4 := h1'.c4
            have hk0 : (0 : Int) ≤ (k : Int) := by omega
            have hkl : (k : Int) < (r.legs.length : Int) := by omega
            have He' := Lib.hid he; clear h1' he
            cases hf : vldS e.f0 e.f1 with
            | false =>
              have Hr := Lib.hid (ranged_no (r := r) (.inr <| .inl (all_no He'.out (by unfold legV; rw [hf]; rfl))))
              have Hf := Lib.hid hf; clear hf
              go_wp2_with (go_at_call 58; ((with_reducible refine (rspan_calls W _ e.f0 e.f1).mono ?_); rintro _ _ ⟨rfl, z1, rfl⟩; rw [Hf.out]))
              go_ret
              exact ⟨ret_bool Hr.out.symm, Hup.out _⟩
            | true =>
              have Hf := Lib.hid hf; clear hf
              cases ht : vldS e.t0 e.t1 with
              | false =>
                have Hr := Lib.hid (ranged_no (r := r) (.inr <| .inl (all_no He'.out (by unfold legV; rw [Hf.out, ht]; rfl))))
                have Ht := Lib.hid ht; clear ht
                go_wp2_with (first | (go_at_call 58; ((with_reducible refine (rspan_calls W _ e.f0 e.f1).mono ?_); rintro _ _ ⟨rfl, z1, rfl⟩; rw [Hf.out])) | (go_at_call 58; ((with_reducible refine (rspan_calls W _ e.t0 e.t1).mono ?_); rintro _ _ ⟨rfl, z1, rfl⟩; rw [Ht.out])))
                go_ret
                exact ⟨ret_bool Hr.out.symm, Hup.out _⟩
              | true =>
                have Hv := Lib.hid (show legV e = true by unfold legV; rw [Hf.out, ht]; rfl)
                have Ht := Lib.hid ht; clear ht
                go_wp2_with (first | (go_at_call 58; ((with_reducible refine (rspan_calls W _ e.f0 e.f1).mono ?_); rintro _ _ ⟨rfl, z1, rfl⟩; rw [Hf.out])) | (go_at_call 58; ((with_reducible refine (rspan_calls W _ e.t0 e.t1).mono ?_); rintro _ _ ⟨rfl, z1, rfl⟩; rw [Ht.out])))
                go_roundw
                case rel => exact ⟨k + 1, _, by omega, by go_num, rfl, upto_next Hok.out He'.out Hv.out⟩
                case measure => simp [intOf] <;> omega
          · obtain rfl : k = r.legs.length := by omega
            have HvL := Lib.hid (all_yes Hok.out)
            go_upto_region 9 with fail
            go_loopw [4] (fun i wr => ∃ (k : Nat) (y : Since W), k ≤ r.pauses.length ∧ i = .int .i64 k ∧ wr = y.w ∧ ∀ j, j < k → ∀ e, r.pauses[j]? = some e → pseV e = true) (fun i _ => r.pauses.length - (intOf i).toNat)
            case atStart => exact ⟨0, _, by omega, rfl, rfl, fun j hj => by omega⟩
            case round =>
              obtain ⟨k, y, hk, rfl, rfl, hok⟩ := hrel
              have Hok := Lib.hid hok; clear hok
              by_cases hlt : k < r.pauses.length
              · obtain ⟨e, he⟩ : ∃ e, r.pauses[k]? = some e := ⟨_, List.getElem?_eq_getElem hlt⟩
                obtain ⟨b1, off1, rfl, h1'⟩ := Els.pse HP.out he
                have pa0 := h1'.c0
                have pa1 := h1'.c1
                have pa2 := h1'.c2
                have pa3 := h1'.c3
                have hk0 : (0 : Int) ≤ (k : Int) := by omega
                have hkl : (k : Int) < (r.pauses.length : Int) := by omega
                have He' := Lib.hid he; clear h1' he
                cases hf : vldS e.f0 e.f1 with
                | false =>
                  have Hr := Lib.hid (ranged_no (r := r) (.inr <| .inr (all_no He'.out (by unfold pseV; rw [hf]; rfl))))
                  have Hf := Lib.hid hf; clear hf
                  go_wp2_with (go_at_call 58; ((with_reducible refine (rspan_calls W _ e.f0 e.f1).mono ?_); rintro _ _ ⟨rfl, z1, rfl⟩; rw [Hf.out]))
                  go_ret
                  exact ⟨ret_bool Hr.out.symm, Hup.out _⟩
                | true =>
                  have Hf := Lib.hid hf; clear hf
                  cases ht : vldS e.t0 e.t1 with
                  | false =>
                    have Hr := Lib.hid (ranged_no (r := r) (.inr <| .inr (all_no He'.out (by unfold pseV; rw [Hf.out, ht]; rfl))))
                    have Ht := Lib.hid ht; clear ht
                    go_wp2_with (first | (go_at_call 58; ((with_reducible refine (rspan_calls W _ e.f0 e.f1).mono ?_); rintro _ _ ⟨rfl, z1, rfl⟩; rw [Hf.out])) | (go_at_call 58; ((with_reducible refine (rspan_calls W _ e.t0 e.t1).mono ?_); rintro _ _ ⟨rfl, z1, rfl⟩; rw [Ht.out])))
                    go_ret
                    exact ⟨ret_bool Hr.out.symm, Hup.out _⟩
                  | true =>
                    have Hv := Lib.hid (show pseV e = true by unfold pseV; rw [Hf.out, ht]; rfl)
                    have Ht := Lib.hid ht; clear ht
                    go_wp2_with (first | (go_at_call 58; ((with_reducible refine (rspan_calls W _ e.f0 e.f1).mono ?_); rintro _ _ ⟨rfl, z1, rfl⟩; rw [Hf.out])) | (go_at_call 58; ((with_reducible refine (rspan_calls W _ e.t0 e.t1).mono ?_); rintro _ _ ⟨rfl, z1, rfl⟩; rw [Ht.out])))
                    go_roundw
                    case rel => exact ⟨k + 1, _, by omega, by go_num, rfl, upto_next Hok.out He'.out Hv.out⟩
                    case measure => simp [intOf] <;> omega
              · obtain rfl : k = r.pauses.length := by omega
                have HvP := Lib.hid (all_yes Hok.out)
                go_wp2_with fail
                go_ret
                exact ⟨ret_bool (ranged_yes Hh.out HvL.out HvP.out).symm, Hup.out _⟩
  all_goals
    have Hr := Lib.hid (ranged_no (r := r) (.inl (by
      cases hh : headV r
      · rfl
      · unfold headV at hh
        simp only [Bool.and_eq_true, decide_eq_true_eq] at hh
        omega)))
    go_enter Try.func49, Try.ntmps49
    go_wp2_with fail
    go_ret
    exact ⟨ret_bool Hr.out.symm, x.alloc _⟩
end Go.Proofs.Ytefodfpnedcodaa
/- The walks of the program's check of a ride, second part: the legs follow one another. -/
namespace Go.Proofs.Ytefodfpnedcodaa
open Go.RowKit

set_option maxRecDepth 100000 in
set_option maxHeartbeats 8000000 in
theorem joined_calls (w : World) (x : Since w) (r : Ride) (h : r.At w) :
    Calls Try.prog 53 #[.agg #[.int .i64 r.id, .int .i64 r.rd, .int .i64 r.s0, .int .i64 r.s1, .int .i64 r.e0, .int .i64 r.e1, .bool r.op, .slice r.la r.legs.length r.lc, .slice r.pa r.pauses.length r.pc, .int .i64 r.fw, .int .i64 r.fp, .int .i64 r.wh, .int .i64 r.pl]] x.w fun o w' => o = .returned (.bool (joinedB r)) ∧ ∃ y : Since w, w' = y.w := by
  have HL := Lib.hid h.l
  have hlm := h.lm
  have hpm := h.pm
  clear h
  generalize r.la = la at HL ⊢
  rcases (by omega : r.legs.length < 1 ∨ (1 ≤ r.legs.length ∧ 512 < r.legs.length) ∨ (1 ≤ r.legs.length ∧ r.legs.length ≤ 512 ∧ 512 < r.pauses.length) ∨ (1 ≤ r.legs.length ∧ r.legs.length ≤ 512 ∧ r.pauses.length ≤ 512)) with h1 | ⟨h1, h2⟩ | ⟨h1, h2, h3⟩ | ⟨h1, h2, h3⟩
  case inr.inr.inr =>
    have hj : joinedB r = chainL r.s0 r.s1 r.legs r.e0 r.e1 := by unfold joinedB; simp [h1, h2, h3]
    have Hj := Lib.hid hj
    clear hj
    go_enter Try.func53, Try.ntmps53
    go_upto_region 1 with fail
    have hb0_0 : ∀ y : Since (x.w.alloc (.cells #[.int .i64 r.id, .int .i64 r.rd, .int .i64 r.s0, .int .i64 r.s1, .int .i64 r.e0, .int .i64 r.e1, .bool r.op, .slice la r.legs.length r.lc, .slice r.pa r.pauses.length r.pc, .int .i64 r.fw, .int .i64 r.fp, .int .i64 r.wh, .int .i64 r.pl] 27)), y.w.cell? ⟨x.w.heap.size, 0, none⟩ = some (.int .i64 r.id) := fun y => Since.cell (by simp [go_sem]) (by first | (simp; done) | (simp; omega)) y
    have hb0_1 : ∀ y : Since (x.w.alloc (.cells #[.int .i64 r.id, .int .i64 r.rd, .int .i64 r.s0, .int .i64 r.s1, .int .i64 r.e0, .int .i64 r.e1, .bool r.op, .slice la r.legs.length r.lc, .slice r.pa r.pauses.length r.pc, .int .i64 r.fw, .int .i64 r.fp, .int .i64 r.wh, .int .i64 r.pl] 27)), y.w.cell? ⟨x.w.heap.size, 1, none⟩ = some (.int .i64 r.rd) := fun y => Since.cell (by simp [go_sem]) (by first | (simp; done) | (simp; omega)) y
    have hb0_2 : ∀ y : Since (x.w.alloc (.cells #[.int .i64 r.id, .int .i64 r.rd, .int .i64 r.s0, .int .i64 r.s1, .int .i64 r.e0, .int .i64 r.e1, .bool r.op, .slice la r.legs.length r.lc, .slice r.pa r.pauses.length r.pc, .int .i64 r.fw, .int .i64 r.fp, .int .i64 r.wh, .int .i64 r.pl] 27)), y.w.cell? ⟨x.w.heap.size, 2, none⟩ = some (.int .i64 r.s0) := fun y => Since.cell (by simp [go_sem]) (by first | (simp; done) | (simp; omega)) y
    have hb0_3 : ∀ y : Since (x.w.alloc (.cells #[.int .i64 r.id, .int .i64 r.rd, .int .i64 r.s0, .int .i64 r.s1, .int .i64 r.e0, .int .i64 r.e1, .bool r.op, .slice la r.legs.length r.lc, .slice r.pa r.pauses.length r.pc, .int .i64 r.fw, .int .i64 r.fp, .int .i64 r.wh, .int .i64 r.pl] 27)), y.w.cell? ⟨x.w.heap.size, 3, none⟩ = some (.int .i64 r.s1) := fun y => Since.cell (by simp [go_sem]) (by first | (simp; done) | (simp; omega)) y
    have hb0_4 : ∀ y : Since (x.w.alloc (.cells #[.int .i64 r.id, .int .i64 r.rd, .int .i64 r.s0, .int .i64 r.s1, .int .i64 r.e0, .int .i64 r.e1, .bool r.op, .slice la r.legs.length r.lc, .slice r.pa r.pauses.length r.pc, .int .i64 r.fw, .int .i64 r.fp, .int .i64 r.wh, .int .i64 r.pl] 27)), y.w.cell? ⟨x.w.heap.size, 4, none⟩ = some (.int .i64 r.e0) := fun y => Since.cell (by simp [go_sem]) (by first | (simp; done) | (simp; omega)) y
    have hb0_5 : ∀ y : Since (x.w.alloc (.cells #[.int .i64 r.id, .int .i64 r.rd, .int .i64 r.s0, .int .i64 r.s1, .int .i64 r.e0, .int .i64 r.e1, .bool r.op, .slice la r.legs.length r.lc, .slice r.pa r.pauses.length r.pc, .int .i64 r.fw, .int .i64 r.fp, .int .i64 r.wh, .int .i64 r.pl] 27)), y.w.cell? ⟨x.w.heap.size, 5, none⟩ = some (.int .i64 r.e1) := fun y => Since.cell (by simp [go_sem]) (by first | (simp; done) | (simp; omega)) y
    have hb0_6 : ∀ y : Since (x.w.alloc (.cells #[.int .i64 r.id, .int .i64 r.rd, .int .i64 r.s0, .int .i64 r.s1, .int .i64 r.e0, .int .i64 r.e1, .bool r.op, .slice la r.legs.length r.lc, .slice r.pa r.pauses.length r.pc, .int .i64 r.fw, .int .i64 r.fp, .int .i64 r.wh, .int .i64 r.pl] 27)), y.w.cell? ⟨x.w.heap.size, 6, none⟩ = some (.bool r.op) := fun y => Since.cell (by simp [go_sem]) (by first | (simp; done) | (simp; omega)) y
    have hb0_7 : ∀ y : Since (x.w.alloc (.cells #[.int .i64 r.id, .int .i64 r.rd, .int .i64 r.s0, .int .i64 r.s1, .int .i64 r.e0, .int .i64 r.e1, .bool r.op, .slice la r.legs.length r.lc, .slice r.pa r.pauses.length r.pc, .int .i64 r.fw, .int .i64 r.fp, .int .i64 r.wh, .int .i64 r.pl] 27)), y.w.cell? ⟨x.w.heap.size, 7, none⟩ = some (.slice la r.legs.length r.lc) := fun y => Since.cell (by simp [go_sem]) (by first | (simp; done) | (simp; omega)) y
    have hb0_8 : ∀ y : Since (x.w.alloc (.cells #[.int .i64 r.id, .int .i64 r.rd, .int .i64 r.s0, .int .i64 r.s1, .int .i64 r.e0, .int .i64 r.e1, .bool r.op, .slice la r.legs.length r.lc, .slice r.pa r.pauses.length r.pc, .int .i64 r.fw, .int .i64 r.fp, .int .i64 r.wh, .int .i64 r.pl] 27)), y.w.cell? ⟨x.w.heap.size, 8, none⟩ = some (.slice r.pa r.pauses.length r.pc) := fun y => Since.cell (by simp [go_sem]) (by first | (simp; done) | (simp; omega)) y
    have hb0_9 : ∀ y : Since (x.w.alloc (.cells #[.int .i64 r.id, .int .i64 r.rd, .int .i64 r.s0, .int .i64 r.s1, .int .i64 r.e0, .int .i64 r.e1, .bool r.op, .slice la r.legs.length r.lc, .slice r.pa r.pauses.length r.pc, .int .i64 r.fw, .int .i64 r.fp, .int .i64 r.wh, .int .i64 r.pl] 27)), y.w.cell? ⟨x.w.heap.size, 9, none⟩ = some (.int .i64 r.fw) := fun y => Since.cell (by simp [go_sem]) (by first | (simp; done) | (simp; omega)) y
    have hb0_10 : ∀ y : Since (x.w.alloc (.cells #[.int .i64 r.id, .int .i64 r.rd, .int .i64 r.s0, .int .i64 r.s1, .int .i64 r.e0, .int .i64 r.e1, .bool r.op, .slice la r.legs.length r.lc, .slice r.pa r.pauses.length r.pc, .int .i64 r.fw, .int .i64 r.fp, .int .i64 r.wh, .int .i64 r.pl] 27)), y.w.cell? ⟨x.w.heap.size, 10, none⟩ = some (.int .i64 r.fp) := fun y => Since.cell (by simp [go_sem]) (by first | (simp; done) | (simp; omega)) y
    have hb0_11 : ∀ y : Since (x.w.alloc (.cells #[.int .i64 r.id, .int .i64 r.rd, .int .i64 r.s0, .int .i64 r.s1, .int .i64 r.e0, .int .i64 r.e1, .bool r.op, .slice la r.legs.length r.lc, .slice r.pa r.pauses.length r.pc, .int .i64 r.fw, .int .i64 r.fp, .int .i64 r.wh, .int .i64 r.pl] 27)), y.w.cell? ⟨x.w.heap.size, 11, none⟩ = some (.int .i64 r.wh) := fun y => Since.cell (by simp [go_sem]) (by first | (simp; done) | (simp; omega)) y
    have hb0_12 : ∀ y : Since (x.w.alloc (.cells #[.int .i64 r.id, .int .i64 r.rd, .int .i64 r.s0, .int .i64 r.s1, .int .i64 r.e0, .int .i64 r.e1, .bool r.op, .slice la r.legs.length r.lc, .slice r.pa r.pauses.length r.pc, .int .i64 r.fw, .int .i64 r.fp, .int .i64 r.wh, .int .i64 r.pl] 27)), y.w.cell? ⟨x.w.heap.size, 12, none⟩ = some (.int .i64 r.pl) := fun y => Since.cell (by simp [go_sem]) (by first | (simp; done) | (simp; omega)) y
    have hf0 : ∀ (y : Since (x.w.alloc (.cells #[.int .i64 r.id, .int .i64 r.rd, .int .i64 r.s0, .int .i64 r.s1, .int .i64 r.e0, .int .i64 r.e1, .bool r.op, .slice la r.legs.length r.lc, .slice r.pa r.pauses.length r.pc, .int .i64 r.fw, .int .i64 r.fp, .int .i64 r.wh, .int .i64 r.pl] 27))) (o : Nat), y.w.frozen? ⟨x.w.heap.size, o, none⟩ = false := fun y o => Since.free (by simp [go_sem]) (by first | (simp; done) | (simp; omega)) y
    have hWup : ∃ z : Since w, (x.w.alloc (.cells #[.int .i64 r.id, .int .i64 r.rd, .int .i64 r.s0, .int .i64 r.s1, .int .i64 r.e0, .int .i64 r.e1, .bool r.op, .slice la r.legs.length r.lc, .slice r.pa r.pauses.length r.pc, .int .i64 r.fw, .int .i64 r.fp, .int .i64 r.wh, .int .i64 r.pl] 27)) = z.w := x.alloc _
    obtain ⟨y0, hy0⟩ := Since.refl (x.w.alloc (.cells #[.int .i64 r.id, .int .i64 r.rd, .int .i64 r.s0, .int .i64 r.s1, .int .i64 r.e0, .int .i64 r.e1, .bool r.op, .slice la r.legs.length r.lc, .slice r.pa r.pauses.length r.pc, .int .i64 r.fw, .int .i64 r.fp, .int .i64 r.wh, .int .i64 r.pl] 27))
    have Hbx := Lib.hid (And.intro x.b.size (show x.w.heap.size + 1 = (x.w.alloc (.cells #[.int .i64 r.id, .int .i64 r.rd, .int .i64 r.s0, .int .i64 r.s1, .int .i64 r.e0, .int .i64 r.e1, .bool r.op, .slice la r.legs.length r.lc, .slice r.pa r.pauses.length r.pc, .int .i64 r.fw, .int .i64 r.fp, .int .i64 r.wh, .int .i64 r.pl] 27)).heap.size from by simp))
    generalize hW : (x.w.alloc (.cells #[.int .i64 r.id, .int .i64 r.rd, .int .i64 r.s0, .int .i64 r.s1, .int .i64 r.e0, .int .i64 r.e1, .bool r.op, .slice la r.legs.length r.lc, .slice r.pa r.pauses.length r.pc, .int .i64 r.fw, .int .i64 r.fp, .int .i64 r.wh, .int .i64 r.pl] 27)) = W at *
    clear hW
    generalize x.w.heap.size = bx at *
    have Hup := Lib.hid (Since.up hWup)
    rw [hy0]
    clear hy0
    replace HL := Lib.hid (HL.out.to hWup)
    clear hWup
    go_upto_region 4 with fail
    have ha0 : (y0.w.alloc (.cells #[.int .i64 r.s0, .int .i64 r.s1] 23)).cell? ⟨y0.w.heap.size, 0, none⟩ = some (.int .i64 r.s0) := by simp [go_sem]
    have ha1 : (y0.w.alloc (.cells #[.int .i64 r.s0, .int .i64 r.s1] 23)).cell? ⟨y0.w.heap.size, 1, none⟩ = some (.int .i64 r.s1) := by simp [go_sem]
    have haf : ∀ o, (y0.w.alloc (.cells #[.int .i64 r.s0, .int .i64 r.s1] 23)).frozen? ⟨y0.w.heap.size, o, none⟩ = false := fun o => by simp [go_sem]
    have hlt0 : y0.w.heap.size < (y0.w.alloc (.cells #[.int .i64 r.s0, .int .i64 r.s1] 23)).heap.size := by simp
    have hst0 : ∃ zz : Since y0.w, (y0.w.alloc (.cells #[.int .i64 r.s0, .int .i64 r.s1] 23)) = zz.w := IsSince.alloc (IsSince.self _) _
    have hsz0 := y0.b.size
    obtain ⟨y1, e2⟩ := IsSince.alloc (IsSince.of y0) (.cells #[.int .i64 r.s0, .int .i64 r.s1] 23)
    rw [e2] at ha0 ha1 haf hlt0 hst0 ⊢
    (have hbox := BoxIs.new y0.w [.int .i64 r.s0, .int .i64 r.s1] 23; rw [e2] at hbox)
    clear e2 hst0
    generalize y0.w.heap.size = ga at *
    have Hha0 : ∀ q : Since y1.w, q.w.cell? ⟨ga, 0, none⟩ = some (.int .i64 r.s0) := fun q => Since.cell ha0 (by omega) q
    have Hha1 : ∀ q : Since y1.w, q.w.cell? ⟨ga, 1, none⟩ = some (.int .i64 r.s1) := fun q => Since.cell ha1 (by omega) q
    have Hhaf : ∀ (q : Since y1.w) (o : Nat), q.w.frozen? ⟨ga, o, none⟩ = false := fun q o => Since.free (haf o) (by omega) q
    have Hhag := Lib.hid (And.intro hsz0 hlt0)
    clear hlt0 hsz0
    have Hbox := Lib.hid hbox
    have Hga := Lib.hid (show W.heap.size ≤ ga by have := Hhag.out.1; omega)
    clear hbox ha0 ha1 haf Hha0 Hha1 Hhaf
    go_wp2_with fail
    go_loopw [27] (fun i wr => ∃ (k : Nat) (a0 a1 : Int) (y : Since W), k ≤ r.legs.length ∧ i = .int .i64 k ∧ wr = y.w ∧ BoxIs y.w ga [.int .i64 a0, .int .i64 a1] ∧ chainL r.s0 r.s1 r.legs r.e0 r.e1 = chainL a0 a1 (r.legs.drop k) r.e0 r.e1) (fun i _ => r.legs.length - (intOf i).toNat)
    case atStart => exact ⟨0, r.s0, r.s1, y1, by omega, rfl, rfl, Hbox.out, rfl⟩
    case round =>
      clear Hbox Hhag
      obtain ⟨k, a0, a1, y, hk, rfl, rfl, hbox, hch⟩ := hrel
      have Hbox := Lib.hid hbox; have Hch := Lib.hid hch; clear hbox hch
      have heq0 := span_equal
      have hgd := span_guard
      have Heq := Lib.hid heq0; clear heq0
      by_cases hlt : k < r.legs.length
      · obtain ⟨e, he⟩ : ∃ e, r.legs[k]? = some e := ⟨_, List.getElem?_eq_getElem hlt⟩
        obtain ⟨b1, off1, rfl, h1'⟩ := Els.leg HL.out he
        have pa0 := h1'.c0
        have pa1 := h1'.c1
        have pa2 := h1'.c2
        have pa3 := h1'.c3
        have pa4 := h1'.c4
        have hdrop : r.legs.drop k = e :: r.legs.drop (k + 1) := by
          rw [List.drop_eq_getElem_cons hlt, (List.getElem?_eq_some_iff.1 he).2]
        have Hdrop := Lib.hid hdrop
        have hk0 : (0 : Int) ≤ (k : Int) := by omega
        have hkl : (k : Int) < (r.legs.length : Int) := by omega
        clear h1' he hdrop
        go_upto_region 7 with fail
        have hx0 : (y.w.alloc (.cells #[.int .i64 e.b, .int .i64 e.f0, .int .i64 e.f1, .int .i64 e.t0, .int .i64 e.t1] 60)).cell? ⟨y.w.heap.size, 0, none⟩ = some (.int .i64 e.b) := by simp [go_sem]
        have hx1 : (y.w.alloc (.cells #[.int .i64 e.b, .int .i64 e.f0, .int .i64 e.f1, .int .i64 e.t0, .int .i64 e.t1] 60)).cell? ⟨y.w.heap.size, 1, none⟩ = some (.int .i64 e.f0) := by simp [go_sem]
        have hx2 : (y.w.alloc (.cells #[.int .i64 e.b, .int .i64 e.f0, .int .i64 e.f1, .int .i64 e.t0, .int .i64 e.t1] 60)).cell? ⟨y.w.heap.size, 2, none⟩ = some (.int .i64 e.f1) := by simp [go_sem]
        have hx3 : (y.w.alloc (.cells #[.int .i64 e.b, .int .i64 e.f0, .int .i64 e.f1, .int .i64 e.t0, .int .i64 e.t1] 60)).cell? ⟨y.w.heap.size, 3, none⟩ = some (.int .i64 e.t0) := by simp [go_sem]
        have hx4 : (y.w.alloc (.cells #[.int .i64 e.b, .int .i64 e.f0, .int .i64 e.f1, .int .i64 e.t0, .int .i64 e.t1] 60)).cell? ⟨y.w.heap.size, 4, none⟩ = some (.int .i64 e.t1) := by simp [go_sem]
        have hxf : ∀ o, (y.w.alloc (.cells #[.int .i64 e.b, .int .i64 e.f0, .int .i64 e.f1, .int .i64 e.t0, .int .i64 e.t1] 60)).frozen? ⟨y.w.heap.size, o, none⟩ = false := fun o => by simp [go_sem]
        have hlt0 : y.w.heap.size < (y.w.alloc (.cells #[.int .i64 e.b, .int .i64 e.f0, .int .i64 e.f1, .int .i64 e.t0, .int .i64 e.t1] 60)).heap.size := by simp
        have hst0 : ∃ zz : Since y.w, (y.w.alloc (.cells #[.int .i64 e.b, .int .i64 e.f0, .int .i64 e.f1, .int .i64 e.t0, .int .i64 e.t1] 60)) = zz.w := IsSince.alloc (IsSince.self _) _
        have hsz0 := y.b.size
        obtain ⟨y2, e2⟩ := IsSince.alloc (IsSince.of y) (.cells #[.int .i64 e.b, .int .i64 e.f0, .int .i64 e.f1, .int .i64 e.t0, .int .i64 e.t1] 60)
        rw [e2] at hx0 hx1 hx2 hx3 hx4 hxf hlt0 hst0 ⊢
        (replace Hbox := Lib.hid (Hbox.out.to hst0))
        clear e2 hst0
        generalize y.w.heap.size = g at *
        have Hhx0 : ∀ q : Since y2.w, q.w.cell? ⟨g, 0, none⟩ = some (.int .i64 e.b) := fun q => Since.cell hx0 (by omega) q
        have Hhx1 : ∀ q : Since y2.w, q.w.cell? ⟨g, 1, none⟩ = some (.int .i64 e.f0) := fun q => Since.cell hx1 (by omega) q
        have Hhx2 : ∀ q : Since y2.w, q.w.cell? ⟨g, 2, none⟩ = some (.int .i64 e.f1) := fun q => Since.cell hx2 (by omega) q
        have Hhx3 : ∀ q : Since y2.w, q.w.cell? ⟨g, 3, none⟩ = some (.int .i64 e.t0) := fun q => Since.cell hx3 (by omega) q
        have Hhx4 : ∀ q : Since y2.w, q.w.cell? ⟨g, 4, none⟩ = some (.int .i64 e.t1) := fun q => Since.cell hx4 (by omega) q
        have Hhxf : ∀ (q : Since y2.w) (o : Nat), q.w.frozen? ⟨g, o, none⟩ = false := fun q o => Since.free (hxf o) (by omega) q
        have Hhxg := Lib.hid (And.intro hsz0 hlt0)
        clear hlt0 hsz0
        have ka0 : ∀ q : Since y2.w, q.w.cell? ⟨ga, 0, none⟩ = some (.int .i64 a0) := fun q => (Hbox.out.since q).c 0 _ rfl
        have ka1 : ∀ q : Since y2.w, q.w.cell? ⟨ga, 1, none⟩ = some (.int .i64 a1) := fun q => (Hbox.out.since q).c 1 _ rfl
        have kaf : ∀ (q : Since y2.w) o, q.w.frozen? ⟨ga, o, none⟩ = false := fun q o => (Hbox.out.since q).f o
        have heq := Heq.out e.f0 e.f1 a0 a1
        obtain ⟨q0, hq0⟩ := Since.refl y2.w
        rw [hq0]
        clear hq0
        cases hb : (decide (e.f0 = a0) && decide (e.f1 = a1)) with
        | false =>
          rw [hb] at heq
          have Hr := Lib.hid (show joinedB r = false by rw [Hj.out, Hch.out, Hdrop.out]; unfold chainL; rw [hb]; rfl)
          clear hb
          go_wp2_with fail
          go_ret
          exact ⟨ret_bool Hr.out.symm, by obtain ⟨q, e⟩ := y2.trans q0; rw [e]; exact Hup.out q⟩
        | true =>
          rw [hb] at heq
          have Hr := Lib.hid (show chainL a0 a1 (r.legs.drop k) r.e0 r.e1 = chainL e.t0 e.t1 (r.legs.drop (k + 1)) r.e0 r.e1 by rw [Hdrop.out]; show (_ && _ && _) = _; rw [hb]; rfl)
          clear hb
          go_wp2_with fail
          have hb2 := (Hbox.out.since q0).sets (us := [.int .i64 e.t0, .int .i64 e.t1]) rfl
          obtain ⟨q, eq⟩ := y2.trans q0
          obtain ⟨y4, h4⟩ := q.sets ga Hga.out [.int .i64 e.t0, .int .i64 e.t1] 0
          rw [eq, h4] at hb2
          rw [eq]
          have H4 := Lib.hid h4; have Hb2 := Lib.hid hb2
          clear h4 hb2 eq
          go_roundw
          case rel => exact ⟨k + 1, e.t0, e.t1, y4, by omega, by go_num, H4.out, Hb2.out, by rw [Hch.out, Hr.out]⟩
          case measure => simp [intOf] <;> omega
      · obtain rfl : k = r.legs.length := by omega
        rw [List.drop_length] at Hch
        have hj2 : joinedB r = (decide (a0 = r.e0) && decide (a1 = r.e1)) := by rw [Hj.out, Hch.out]; rfl
        have Hj2 := Lib.hid hj2; clear hj2
        obtain ⟨q1, hq1⟩ := Since.refl y.w
        have ka0 : ∀ q : Since y.w, q.w.cell? ⟨ga, 0, none⟩ = some (.int .i64 a0) := fun q => (Hbox.out.since q).c 0 _ rfl
        have ka1 : ∀ q : Since y.w, q.w.cell? ⟨ga, 1, none⟩ = some (.int .i64 a1) := fun q => (Hbox.out.since q).c 1 _ rfl
        have heq := Heq.out a0 a1 r.e0 r.e1
        have kh4 : ∀ q : Since y.w, q.w.cell? ⟨bx, 4, none⟩ = some (.int .i64 r.e0) := fun q => by obtain ⟨z, e⟩ := y.trans q; rw [e]; exact hb0_4 z
        have kh5 : ∀ q : Since y.w, q.w.cell? ⟨bx, 5, none⟩ = some (.int .i64 r.e1) := fun q => by obtain ⟨z, e⟩ := y.trans q; rw [e]; exact hb0_5 z
        rw [hq1]
        clear hq1
        go_wp2_with fail
        go_ret
        exact ⟨ret_bool Hj2.out.symm, by obtain ⟨q, e⟩ := y.trans q1; rw [e]; exact Hup.out q⟩
  all_goals
    have Hr := Lib.hid (show joinedB r = false by
      cases hh : joinedB r
      · rfl
      · unfold joinedB at hh
        simp only [Bool.and_eq_true, decide_eq_true_eq] at hh
        omega)
    go_enter Try.func53, Try.ntmps53
    go_wp2_with fail
    go_ret
    exact ⟨ret_bool Hr.out.symm, x.alloc _⟩
end Go.Proofs.Ytefodfpnedcodaa
/- The walks of the program's check of a ride, third part: the ends of legs and pauses are in order; the check. -/
namespace Go.Proofs.Ytefodfpnedcodaa
open Go.RowKit

theorem drop_cons {α : Type} {l : List α} {k : Nat} {e : α} (he : l[k]? = some e) : l.drop k = e :: l.drop (k + 1) := by
  rw [List.drop_eq_getElem_cons (List.getElem?_eq_some_iff.1 he).1, (List.getElem?_eq_some_iff.1 he).2]
theorem drop_last {α : Type} {l : List α} {k : Nat} (h : k < l.length) : (l.drop (k + 1)).isEmpty = decide (k + 1 = l.length) := by
  rw [Bool.eq_iff_iff, List.isEmpty_iff, List.drop_eq_nil_iff, decide_eq_true_eq]; omega
set_option maxRecDepth 100000 in
set_option maxHeartbeats 8000000 in
theorem ordered_calls (w : World) (x : Since w) (r : Ride) (h : r.At w) :
    Calls Try.prog 54 #[.agg #[.int .i64 r.id, .int .i64 r.rd, .int .i64 r.s0, .int .i64 r.s1, .int .i64 r.e0, .int .i64 r.e1, .bool r.op, .slice r.la r.legs.length r.lc, .slice r.pa r.pauses.length r.pc, .int .i64 r.fw, .int .i64 r.fp, .int .i64 r.wh, .int .i64 r.pl]] x.w fun o w' => o = .returned (.bool (orderedB r)) ∧ ∃ y : Since w, w' = y.w := by
  have HL := Lib.hid h.l; have HP := Lib.hid h.p
  have hlm := h.lm
  have hpm := h.pm
  have hO : orderedB r = (legsO r.op r.legs && (r.pauses.isEmpty || psesO r.op r.e0 r.s0 r.pauses)) := rfl
  have HO := Lib.hid hO
  clear h hO
  generalize r.la = la at HL ⊢
  generalize r.pa = pa at HP ⊢
  generalize r.op = op at HO ⊢
  go_enter Try.func54, Try.ntmps54
  go_upto_region 1 with fail
  have hb0_0 : ∀ y : Since (x.w.alloc (.cells #[.int .i64 r.id, .int .i64 r.rd, .int .i64 r.s0, .int .i64 r.s1, .int .i64 r.e0, .int .i64 r.e1, .bool op, .slice la r.legs.length r.lc, .slice pa r.pauses.length r.pc, .int .i64 r.fw, .int .i64 r.fp, .int .i64 r.wh, .int .i64 r.pl] 27)), y.w.cell? ⟨x.w.heap.size, 0, none⟩ = some (.int .i64 r.id) := fun y => Since.cell (by simp [go_sem]) (by first | (simp; done) | (simp; omega)) y
  have hb0_1 : ∀ y : Since (x.w.alloc (.cells #[.int .i64 r.id, .int .i64 r.rd, .int .i64 r.s0, .int .i64 r.s1, .int .i64 r.e0, .int .i64 r.e1, .bool op, .slice la r.legs.length r.lc, .slice pa r.pauses.length r.pc, .int .i64 r.fw, .int .i64 r.fp, .int .i64 r.wh, .int .i64 r.pl] 27)), y.w.cell? ⟨x.w.heap.size, 1, none⟩ = some (.int .i64 r.rd) := fun y => Since.cell (by simp [go_sem]) (by first | (simp; done) | (simp; omega)) y
  have hb0_2 : ∀ y : Since (x.w.alloc (.cells #[.int .i64 r.id, .int .i64 r.rd, .int .i64 r.s0, .int .i64 r.s1, .int .i64 r.e0, .int .i64 r.e1, .bool op, .slice la r.legs.length r.lc, .slice pa r.pauses.length r.pc, .int .i64 r.fw, .int .i64 r.fp, .int .i64 r.wh, .int .i64 r.pl] 27)), y.w.cell? ⟨x.w.heap.size, 2, none⟩ = some (.int .i64 r.s0) := fun y => Since.cell (by simp [go_sem]) (by first | (simp; done) | (simp; omega)) y
  have hb0_3 : ∀ y : Since (x.w.alloc (.cells #[.int .i64 r.id, .int .i64 r.rd, .int .i64 r.s0, .int .i64 r.s1, .int .i64 r.e0, .int .i64 r.e1, .bool op, .slice la r.legs.length r.lc, .slice pa r.pauses.length r.pc, .int .i64 r.fw, .int .i64 r.fp, .int .i64 r.wh, .int .i64 r.pl] 27)), y.w.cell? ⟨x.w.heap.size, 3, none⟩ = some (.int .i64 r.s1) := fun y => Since.cell (by simp [go_sem]) (by first | (simp; done) | (simp; omega)) y
  have hb0_4 : ∀ y : Since (x.w.alloc (.cells #[.int .i64 r.id, .int .i64 r.rd, .int .i64 r.s0, .int .i64 r.s1, .int .i64 r.e0, .int .i64 r.e1, .bool op, .slice la r.legs.length r.lc, .slice pa r.pauses.length r.pc, .int .i64 r.fw, .int .i64 r.fp, .int .i64 r.wh, .int .i64 r.pl] 27)), y.w.cell? ⟨x.w.heap.size, 4, none⟩ = some (.int .i64 r.e0) := fun y => Since.cell (by simp [go_sem]) (by first | (simp; done) | (simp; omega)) y
  have hb0_5 : ∀ y : Since (x.w.alloc (.cells #[.int .i64 r.id, .int .i64 r.rd, .int .i64 r.s0, .int .i64 r.s1, .int .i64 r.e0, .int .i64 r.e1, .bool op, .slice la r.legs.length r.lc, .slice pa r.pauses.length r.pc, .int .i64 r.fw, .int .i64 r.fp, .int .i64 r.wh, .int .i64 r.pl] 27)), y.w.cell? ⟨x.w.heap.size, 5, none⟩ = some (.int .i64 r.e1) := fun y => Since.cell (by simp [go_sem]) (by first | (simp; done) | (simp; omega)) y
  have hb0_6 : ∀ y : Since (x.w.alloc (.cells #[.int .i64 r.id, .int .i64 r.rd, .int .i64 r.s0, .int .i64 r.s1, .int .i64 r.e0, .int .i64 r.e1, .bool op, .slice la r.legs.length r.lc, .slice pa r.pauses.length r.pc, .int .i64 r.fw, .int .i64 r.fp, .int .i64 r.wh, .int .i64 r.pl] 27)), y.w.cell? ⟨x.w.heap.size, 6, none⟩ = some (.bool op) := fun y => Since.cell (by simp [go_sem]) (by first | (simp; done) | (simp; omega)) y
  have hb0_7 : ∀ y : Since (x.w.alloc (.cells #[.int .i64 r.id, .int .i64 r.rd, .int .i64 r.s0, .int .i64 r.s1, .int .i64 r.e0, .int .i64 r.e1, .bool op, .slice la r.legs.length r.lc, .slice pa r.pauses.length r.pc, .int .i64 r.fw, .int .i64 r.fp, .int .i64 r.wh, .int .i64 r.pl] 27)), y.w.cell? ⟨x.w.heap.size, 7, none⟩ = some (.slice la r.legs.length r.lc) := fun y => Since.cell (by simp [go_sem]) (by first | (simp; done) | (simp; omega)) y
  have hb0_8 : ∀ y : Since (x.w.alloc (.cells #[.int .i64 r.id, .int .i64 r.rd, .int .i64 r.s0, .int .i64 r.s1, .int .i64 r.e0, .int .i64 r.e1, .bool op, .slice la r.legs.length r.lc, .slice pa r.pauses.length r.pc, .int .i64 r.fw, .int .i64 r.fp, .int .i64 r.wh, .int .i64 r.pl] 27)), y.w.cell? ⟨x.w.heap.size, 8, none⟩ = some (.slice pa r.pauses.length r.pc) := fun y => Since.cell (by simp [go_sem]) (by first | (simp; done) | (simp; omega)) y
  have hb0_9 : ∀ y : Since (x.w.alloc (.cells #[.int .i64 r.id, .int .i64 r.rd, .int .i64 r.s0, .int .i64 r.s1, .int .i64 r.e0, .int .i64 r.e1, .bool op, .slice la r.legs.length r.lc, .slice pa r.pauses.length r.pc, .int .i64 r.fw, .int .i64 r.fp, .int .i64 r.wh, .int .i64 r.pl] 27)), y.w.cell? ⟨x.w.heap.size, 9, none⟩ = some (.int .i64 r.fw) := fun y => Since.cell (by simp [go_sem]) (by first | (simp; done) | (simp; omega)) y
  have hb0_10 : ∀ y : Since (x.w.alloc (.cells #[.int .i64 r.id, .int .i64 r.rd, .int .i64 r.s0, .int .i64 r.s1, .int .i64 r.e0, .int .i64 r.e1, .bool op, .slice la r.legs.length r.lc, .slice pa r.pauses.length r.pc, .int .i64 r.fw, .int .i64 r.fp, .int .i64 r.wh, .int .i64 r.pl] 27)), y.w.cell? ⟨x.w.heap.size, 10, none⟩ = some (.int .i64 r.fp) := fun y => Since.cell (by simp [go_sem]) (by first | (simp; done) | (simp; omega)) y
  have hb0_11 : ∀ y : Since (x.w.alloc (.cells #[.int .i64 r.id, .int .i64 r.rd, .int .i64 r.s0, .int .i64 r.s1, .int .i64 r.e0, .int .i64 r.e1, .bool op, .slice la r.legs.length r.lc, .slice pa r.pauses.length r.pc, .int .i64 r.fw, .int .i64 r.fp, .int .i64 r.wh, .int .i64 r.pl] 27)), y.w.cell? ⟨x.w.heap.size, 11, none⟩ = some (.int .i64 r.wh) := fun y => Since.cell (by simp [go_sem]) (by first | (simp; done) | (simp; omega)) y
  have hb0_12 : ∀ y : Since (x.w.alloc (.cells #[.int .i64 r.id, .int .i64 r.rd, .int .i64 r.s0, .int .i64 r.s1, .int .i64 r.e0, .int .i64 r.e1, .bool op, .slice la r.legs.length r.lc, .slice pa r.pauses.length r.pc, .int .i64 r.fw, .int .i64 r.fp, .int .i64 r.wh, .int .i64 r.pl] 27)), y.w.cell? ⟨x.w.heap.size, 12, none⟩ = some (.int .i64 r.pl) := fun y => Since.cell (by simp [go_sem]) (by first | (simp; done) | (simp; omega)) y
  have hf0 : ∀ (y : Since (x.w.alloc (.cells #[.int .i64 r.id, .int .i64 r.rd, .int .i64 r.s0, .int .i64 r.s1, .int .i64 r.e0, .int .i64 r.e1, .bool op, .slice la r.legs.length r.lc, .slice pa r.pauses.length r.pc, .int .i64 r.fw, .int .i64 r.fp, .int .i64 r.wh, .int .i64 r.pl] 27))) (o : Nat), y.w.frozen? ⟨x.w.heap.size, o, none⟩ = false := fun y o => Since.free (by simp [go_sem]) (by first | (simp; done) | (simp; omega)) y
  have hWup : ∃ z : Since w, (x.w.alloc (.cells #[.int .i64 r.id, .int .i64 r.rd, .int .i64 r.s0, .int .i64 r.s1, .int .i64 r.e0, .int .i64 r.e1, .bool op, .slice la r.legs.length r.lc, .slice pa r.pauses.length r.pc, .int .i64 r.fw, .int .i64 r.fp, .int .i64 r.wh, .int .i64 r.pl] 27)) = z.w := x.alloc _
  obtain ⟨y0, hy0⟩ := Since.refl (x.w.alloc (.cells #[.int .i64 r.id, .int .i64 r.rd, .int .i64 r.s0, .int .i64 r.s1, .int .i64 r.e0, .int .i64 r.e1, .bool op, .slice la r.legs.length r.lc, .slice pa r.pauses.length r.pc, .int .i64 r.fw, .int .i64 r.fp, .int .i64 r.wh, .int .i64 r.pl] 27))
  have Hbx := Lib.hid (And.intro x.b.size (show x.w.heap.size + 1 = (x.w.alloc (.cells #[.int .i64 r.id, .int .i64 r.rd, .int .i64 r.s0, .int .i64 r.s1, .int .i64 r.e0, .int .i64 r.e1, .bool op, .slice la r.legs.length r.lc, .slice pa r.pauses.length r.pc, .int .i64 r.fw, .int .i64 r.fp, .int .i64 r.wh, .int .i64 r.pl] 27)).heap.size from by simp))
  generalize hW : (x.w.alloc (.cells #[.int .i64 r.id, .int .i64 r.rd, .int .i64 r.s0, .int .i64 r.s1, .int .i64 r.e0, .int .i64 r.e1, .bool op, .slice la r.legs.length r.lc, .slice pa r.pauses.length r.pc, .int .i64 r.fw, .int .i64 r.fp, .int .i64 r.wh, .int .i64 r.pl] 27)) = W at *
  clear hW
  generalize x.w.heap.size = bx at *
  have Hup := Lib.hid (Since.up hWup)
  rw [hy0]
  clear hy0
  replace HL := Lib.hid (HL.out.to hWup); replace HP := Lib.hid (HP.out.to hWup)
  clear hWup
  go_wp2_with fail
  go_loopw [11] (fun i wr => ∃ (k : Nat) (y : Since W), k ≤ r.legs.length ∧ i = .int .i64 k ∧ wr = y.w ∧ legsO op r.legs = legsO op (r.legs.drop k)) (fun i _ => r.legs.length - (intOf i).toNat)
  case atStart => exact ⟨0, _, by omega, rfl, rfl, rfl⟩
  case round =>
    obtain ⟨k, y, hk, rfl, rfl, hch⟩ := hrel
    have Hch := Lib.hid hch; clear hch
    by_cases hlt : k < r.legs.length
    · obtain ⟨e, he⟩ : ∃ e, r.legs[k]? = some e := ⟨_, List.getElem?_eq_getElem hlt⟩
      obtain ⟨b1, off1, rfl, h1'⟩ := Els.leg HL.out he
      have pa0 := h1'.c0
      have pa1 := h1'.c1
      have pa2 := h1'.c2
      have pa3 := h1'.c3
      have pa4 := h1'.c4
      have hstep : legsO op (r.legs.drop k) = ((decide (e.f0 ≤ e.t0) || (op && decide (k + 1 = r.legs.length))) && legsO op (r.legs.drop (k + 1))) := by
        rw [drop_cons he, ← drop_last hlt]; rfl
      have Hstep := Lib.hid hstep
      have hk0 : (0 : Int) ≤ (k : Int) := by omega
      have hkl : (k : Int) < (r.legs.length : Int) := by omega
      clear h1' he hstep
      go_upto_region 4 with fail
      have hx0 : (y.w.alloc (.cells #[.int .i64 e.b, .int .i64 e.f0, .int .i64 e.f1, .int .i64 e.t0, .int .i64 e.t1] 60)).cell? ⟨y.w.heap.size, 0, none⟩ = some (.int .i64 e.b) := by simp [go_sem]
      have hx1 : (y.w.alloc (.cells #[.int .i64 e.b, .int .i64 e.f0, .int .i64 e.f1, .int .i64 e.t0, .int .i64 e.t1] 60)).cell? ⟨y.w.heap.size, 1, none⟩ = some (.int .i64 e.f0) := by simp [go_sem]
      have hx2 : (y.w.alloc (.cells #[.int .i64 e.b, .int .i64 e.f0, .int .i64 e.f1, .int .i64 e.t0, .int .i64 e.t1] 60)).cell? ⟨y.w.heap.size, 2, none⟩ = some (.int .i64 e.f1) := by simp [go_sem]
      have hx3 : (y.w.alloc (.cells #[.int .i64 e.b, .int .i64 e.f0, .int .i64 e.f1, .int .i64 e.t0, .int .i64 e.t1] 60)).cell? ⟨y.w.heap.size, 3, none⟩ = some (.int .i64 e.t0) := by simp [go_sem]
      have hx4 : (y.w.alloc (.cells #[.int .i64 e.b, .int .i64 e.f0, .int .i64 e.f1, .int .i64 e.t0, .int .i64 e.t1] 60)).cell? ⟨y.w.heap.size, 4, none⟩ = some (.int .i64 e.t1) := by simp [go_sem]
      have hxf : ∀ o, (y.w.alloc (.cells #[.int .i64 e.b, .int .i64 e.f0, .int .i64 e.f1, .int .i64 e.t0, .int .i64 e.t1] 60)).frozen? ⟨y.w.heap.size, o, none⟩ = false := fun o => by simp [go_sem]
      have hlt0 : y.w.heap.size < (y.w.alloc (.cells #[.int .i64 e.b, .int .i64 e.f0, .int .i64 e.f1, .int .i64 e.t0, .int .i64 e.t1] 60)).heap.size := by simp
      have hst0 : ∃ zz : Since y.w, (y.w.alloc (.cells #[.int .i64 e.b, .int .i64 e.f0, .int .i64 e.f1, .int .i64 e.t0, .int .i64 e.t1] 60)) = zz.w := IsSince.alloc (IsSince.self _) _
      have hsz0 := y.b.size
      obtain ⟨y2, e2⟩ := IsSince.alloc (IsSince.of y) (.cells #[.int .i64 e.b, .int .i64 e.f0, .int .i64 e.f1, .int .i64 e.t0, .int .i64 e.t1] 60)
      rw [e2] at hx0 hx1 hx2 hx3 hx4 hxf hlt0 hst0 ⊢
      skip
      clear e2 hst0
      generalize y.w.heap.size = g at *
      have Hhx0 : ∀ q : Since y2.w, q.w.cell? ⟨g, 0, none⟩ = some (.int .i64 e.b) := fun q => Since.cell hx0 (by omega) q
      have Hhx1 : ∀ q : Since y2.w, q.w.cell? ⟨g, 1, none⟩ = some (.int .i64 e.f0) := fun q => Since.cell hx1 (by omega) q
      have Hhx2 : ∀ q : Since y2.w, q.w.cell? ⟨g, 2, none⟩ = some (.int .i64 e.f1) := fun q => Since.cell hx2 (by omega) q
      have Hhx3 : ∀ q : Since y2.w, q.w.cell? ⟨g, 3, none⟩ = some (.int .i64 e.t0) := fun q => Since.cell hx3 (by omega) q
      have Hhx4 : ∀ q : Since y2.w, q.w.cell? ⟨g, 4, none⟩ = some (.int .i64 e.t1) := fun q => Since.cell hx4 (by omega) q
      have Hhxf : ∀ (q : Since y2.w) (o : Nat), q.w.frozen? ⟨g, o, none⟩ = false := fun q o => Since.free (hxf o) (by omega) q
      have Hhxg := Lib.hid (And.intro hsz0 hlt0)
      clear hlt0 hsz0
      replace hb0_0 := Since.cellTo ⟨y2, rfl⟩ hb0_0
      replace hb0_1 := Since.cellTo ⟨y2, rfl⟩ hb0_1
      replace hb0_2 := Since.cellTo ⟨y2, rfl⟩ hb0_2
      replace hb0_3 := Since.cellTo ⟨y2, rfl⟩ hb0_3
      replace hb0_4 := Since.cellTo ⟨y2, rfl⟩ hb0_4
      replace hb0_5 := Since.cellTo ⟨y2, rfl⟩ hb0_5
      replace hb0_6 := Since.cellTo ⟨y2, rfl⟩ hb0_6
      replace hb0_7 := Since.cellTo ⟨y2, rfl⟩ hb0_7
      replace hb0_8 := Since.cellTo ⟨y2, rfl⟩ hb0_8
      replace hb0_9 := Since.cellTo ⟨y2, rfl⟩ hb0_9
      replace hb0_10 := Since.cellTo ⟨y2, rfl⟩ hb0_10
      replace hb0_11 := Since.cellTo ⟨y2, rfl⟩ hb0_11
      replace hb0_12 := Since.cellTo ⟨y2, rfl⟩ hb0_12
      obtain ⟨q0, hq0⟩ := Since.refl y2.w
      rw [hq0]
      clear hq0
      rcases (by omega : e.f0 ≤ e.t0 ∨ (e.t0 < e.f0 ∧ k + 1 = r.legs.length) ∨ (e.t0 < e.f0 ∧ k + 1 < r.legs.length)) with hle | ⟨hgt, hkk⟩ | ⟨hgt, hkk⟩
      · have Hr := Lib.hid (show legsO op (r.legs.drop k) = legsO op (r.legs.drop (k + 1)) by rw [Hstep.out]; simp [hle])
        go_wp2_with fail
        obtain ⟨q, eq⟩ := y2.trans q0
        rw [eq]
        go_roundw
        case rel => exact ⟨k + 1, q, by omega, by go_num, rfl, by rw [Hch.out, Hr.out]⟩
        case measure => simp [intOf] <;> omega
      · have hkb : ((k : Int) == (r.legs.length : Int) - 1) = true := by simp; omega
        have Hkk := Lib.hid hkk; clear hkk
        cases op with
        | true =>
          have Hr := Lib.hid (show legsO true (r.legs.drop k) = legsO true (r.legs.drop (k + 1)) by rw [Hstep.out]; simp [Hkk.out])
          go_wp2_with fail
          obtain ⟨q, eq⟩ := y2.trans q0
          rw [eq]
          go_roundw
          case rel => exact ⟨k + 1, q, by omega, by go_num, rfl, by rw [Hch.out, Hr.out]⟩
          case measure => simp [intOf] <;> omega
        | false =>
          have Hr := Lib.hid (show orderedB r = false by rw [HO.out, Hch.out, Hstep.out]; simp; omega)
          go_wp2_with fail
          go_ret
          exact ⟨ret_bool Hr.out.symm, by obtain ⟨q, e⟩ := y2.trans q0; rw [e]; exact Hup.out q⟩
      · have hkb : ((k : Int) == (r.legs.length : Int) - 1) = false := by simp; omega
        have Hr := Lib.hid (show orderedB r = false by rw [HO.out, Hch.out, Hstep.out]; simp; omega)
        cases op
        all_goals
          go_wp2_with fail
          go_ret
          exact ⟨ret_bool Hr.out.symm, by obtain ⟨q, e⟩ := y2.trans q0; rw [e]; exact Hup.out q⟩
    · obtain rfl : k = r.legs.length := by omega
      rw [List.drop_length] at Hch
      have HO2 := Lib.hid (show orderedB r = (r.pauses.isEmpty || psesO op r.e0 r.s0 r.pauses) by rw [HO.out, Hch.out]; rfl)
      clear HO Hch
      go_wp2_with fail
      go_loopw [5, 43] (fun v i wr => ∃ (k : Nat) (a : Int) (y : Since W), k ≤ r.pauses.length ∧ i = .int .i64 k ∧ v = .int .i64 a ∧ wr = y.w ∧ psesO op r.e0 r.s0 r.pauses = psesO op r.e0 a (r.pauses.drop k)) (fun _ i _ => r.pauses.length - (intOf i).toNat)
      case atStart => exact ⟨0, r.s0, y, by omega, rfl, rfl, rfl, rfl⟩
      case round =>
        obtain ⟨k, a, y, hk, rfl, rfl, rfl, hch⟩ := hrel
        have Hch := Lib.hid hch; clear hch
        by_cases hlt : k < r.pauses.length
        · obtain ⟨e, he⟩ : ∃ e, r.pauses[k]? = some e := ⟨_, List.getElem?_eq_getElem hlt⟩
          obtain ⟨b1, off1, rfl, h1'⟩ := Els.pse HP.out he
          have pb0 := h1'.c0
          have pb1 := h1'.c1
          have pb2 := h1'.c2
          have pb3 := h1'.c3
          have hstep : psesO op r.e0 a (r.pauses.drop k) = (decide (a ≤ e.f0) && ((op && decide (k + 1 = r.pauses.length) && decide (e.t0 = 0)) || (decide (e.f0 ≤ e.t0) && psesO op r.e0 e.t0 (r.pauses.drop (k + 1))))) := by
            rw [drop_cons he, ← drop_last hlt]; rfl
          have Hstep := Lib.hid hstep
          have hne : r.pauses.isEmpty = false := by cases hh : r.pauses <;> simp_all
          have HO3 := Lib.hid (show orderedB r = psesO op r.e0 a (r.pauses.drop k) by rw [HO2.out, hne, Hch.out]; rfl)
          have hk0 : (0 : Int) ≤ (k : Int) := by omega
          have hkl : (k : Int) < (r.pauses.length : Int) := by omega
          clear h1' he hstep hne
          go_upto_region 11 with fail
          have hx0 : (y.w.alloc (.cells #[.int .i64 e.f0, .int .i64 e.f1, .int .i64 e.t0, .int .i64 e.t1] 52)).cell? ⟨y.w.heap.size, 0, none⟩ = some (.int .i64 e.f0) := by simp [go_sem]
          have hx1 : (y.w.alloc (.cells #[.int .i64 e.f0, .int .i64 e.f1, .int .i64 e.t0, .int .i64 e.t1] 52)).cell? ⟨y.w.heap.size, 1, none⟩ = some (.int .i64 e.f1) := by simp [go_sem]
          have hx2 : (y.w.alloc (.cells #[.int .i64 e.f0, .int .i64 e.f1, .int .i64 e.t0, .int .i64 e.t1] 52)).cell? ⟨y.w.heap.size, 2, none⟩ = some (.int .i64 e.t0) := by simp [go_sem]
          have hx3 : (y.w.alloc (.cells #[.int .i64 e.f0, .int .i64 e.f1, .int .i64 e.t0, .int .i64 e.t1] 52)).cell? ⟨y.w.heap.size, 3, none⟩ = some (.int .i64 e.t1) := by simp [go_sem]
          have hxf : ∀ o, (y.w.alloc (.cells #[.int .i64 e.f0, .int .i64 e.f1, .int .i64 e.t0, .int .i64 e.t1] 52)).frozen? ⟨y.w.heap.size, o, none⟩ = false := fun o => by simp [go_sem]
          have hlt0 : y.w.heap.size < (y.w.alloc (.cells #[.int .i64 e.f0, .int .i64 e.f1, .int .i64 e.t0, .int .i64 e.t1] 52)).heap.size := by simp
          have hst0 : ∃ zz : Since y.w, (y.w.alloc (.cells #[.int .i64 e.f0, .int .i64 e.f1, .int .i64 e.t0, .int .i64 e.t1] 52)) = zz.w := IsSince.alloc (IsSince.self _) _
          have hsz0 := y.b.size
          obtain ⟨y2, e2⟩ := IsSince.alloc (IsSince.of y) (.cells #[.int .i64 e.f0, .int .i64 e.f1, .int .i64 e.t0, .int .i64 e.t1] 52)
          rw [e2] at hx0 hx1 hx2 hx3 hxf hlt0 hst0 ⊢
          skip
          clear e2 hst0
          generalize y.w.heap.size = g at *
          have Hhx0 : ∀ q : Since y2.w, q.w.cell? ⟨g, 0, none⟩ = some (.int .i64 e.f0) := fun q => Since.cell hx0 (by omega) q
          have Hhx1 : ∀ q : Since y2.w, q.w.cell? ⟨g, 1, none⟩ = some (.int .i64 e.f1) := fun q => Since.cell hx1 (by omega) q
          have Hhx2 : ∀ q : Since y2.w, q.w.cell? ⟨g, 2, none⟩ = some (.int .i64 e.t0) := fun q => Since.cell hx2 (by omega) q
          have Hhx3 : ∀ q : Since y2.w, q.w.cell? ⟨g, 3, none⟩ = some (.int .i64 e.t1) := fun q => Since.cell hx3 (by omega) q
          have Hhxf : ∀ (q : Since y2.w) (o : Nat), q.w.frozen? ⟨g, o, none⟩ = false := fun q o => Since.free (hxf o) (by omega) q
          have Hhxg := Lib.hid (And.intro hsz0 hlt0)
          clear hlt0 hsz0
          replace hb0_0 := Since.cellTo ⟨y2, rfl⟩ hb0_0
          replace hb0_1 := Since.cellTo ⟨y2, rfl⟩ hb0_1
          replace hb0_2 := Since.cellTo ⟨y2, rfl⟩ hb0_2
          replace hb0_3 := Since.cellTo ⟨y2, rfl⟩ hb0_3
          replace hb0_4 := Since.cellTo ⟨y2, rfl⟩ hb0_4
          replace hb0_5 := Since.cellTo ⟨y2, rfl⟩ hb0_5
          replace hb0_6 := Since.cellTo ⟨y2, rfl⟩ hb0_6
          replace hb0_7 := Since.cellTo ⟨y2, rfl⟩ hb0_7
          replace hb0_8 := Since.cellTo ⟨y2, rfl⟩ hb0_8
          replace hb0_9 := Since.cellTo ⟨y2, rfl⟩ hb0_9
          replace hb0_10 := Since.cellTo ⟨y2, rfl⟩ hb0_10
          replace hb0_11 := Since.cellTo ⟨y2, rfl⟩ hb0_11
          replace hb0_12 := Since.cellTo ⟨y2, rfl⟩ hb0_12
          obtain ⟨q0, hq0⟩ := Since.refl y2.w
          rw [hq0]
          clear hq0
          by_cases hfa : e.f0 < a
          · have Hr := Lib.hid (show orderedB r = false by rw [HO3.out, Hstep.out, decide_eq_false (by omega)]; rfl)
            go_wp2_with fail
            go_ret
            exact ⟨ret_bool Hr.out.symm, by obtain ⟨q, e⟩ := y2.trans q0; rw [e]; exact Hup.out q⟩
          have hfa' : a ≤ e.f0 := by omega
          by_cases hret : op = true ∧ k + 1 = r.pauses.length ∧ e.t0 = 0
          · obtain ⟨rfl, hkk, ht0⟩ := hret
            have Hr := Lib.hid (show orderedB r = true by rw [HO3.out, Hstep.out, decide_eq_true hfa', decide_eq_true hkk, decide_eq_true ht0]; rfl)
            have hkb : ((k : Int) == (r.pauses.length : Int) - 1) = true := by simp; omega
            have htb : (e.t0 == 0) = true := by simpa using ht0
            have Hkk := Lib.hid hkk; have Ht0 := Lib.hid ht0
            clear hkk ht0 hfa
            go_wp2_with fail
            go_ret
            exact ⟨ret_bool Hr.out.symm, by obtain ⟨q, e⟩ := y2.trans q0; rw [e]; exact Hup.out q⟩
          have hno : (op && decide (k + 1 = r.pauses.length) && decide (e.t0 = 0)) = false := by
            cases op
            · rfl
            · by_cases h1 : k + 1 = r.pauses.length
              · by_cases h2 : e.t0 = 0
                · exact (hret ⟨rfl, h1, h2⟩).elim
                · simp [h2]
              · simp [h1]
          have Hno := Lib.hid hno
          have hcase : (op = false) ∨ (op = true ∧ ((k : Int) == (r.pauses.length : Int) - 1) = false) ∨ (op = true ∧ ((k : Int) == (r.pauses.length : Int) - 1) = true ∧ (e.t0 == 0) = false) := by
            cases op
            · exact .inl rfl
            · by_cases h1 : k + 1 = r.pauses.length
              · exact .inr (.inr ⟨rfl, by simp; omega, by simp; intro h2; exact hret ⟨rfl, h1, h2⟩⟩)
              · exact .inr (.inl ⟨rfl, by simp; omega⟩)
          clear hno hret hfa
          by_cases hft : e.f0 ≤ e.t0
          · have Hr := Lib.hid (show psesO op r.e0 a (r.pauses.drop k) = psesO op r.e0 e.t0 (r.pauses.drop (k + 1)) by rw [Hstep.out, Hno.out, decide_eq_true hfa', decide_eq_true hft]; rfl)
            rcases hcase with rfl | ⟨rfl, hkb⟩ | ⟨rfl, hkb, htb⟩
            all_goals
              go_wp2_with fail
              obtain ⟨q, eq⟩ := y2.trans q0
              rw [eq]
              go_roundw
              case rel => exact ⟨k + 1, e.t0, q, by omega, by go_num, rfl, rfl, by rw [Hch.out, Hr.out]⟩
              case measure => simp [intOf] <;> omega
          · have Hr := Lib.hid (show orderedB r = false by rw [HO3.out, Hstep.out, Hno.out, decide_eq_true hfa', decide_eq_false hft]; rfl)
            rcases hcase with rfl | ⟨rfl, hkb⟩ | ⟨rfl, hkb, htb⟩
            all_goals
              go_wp2_with fail
              go_ret
              exact ⟨ret_bool Hr.out.symm, by obtain ⟨q, e⟩ := y2.trans q0; rw [e]; exact Hup.out q⟩
        · obtain rfl : k = r.pauses.length := by omega
          rw [List.drop_length] at Hch
          have HO3 := Lib.hid (show orderedB r = (decide (r.pauses.length = 0) || op || decide (a ≤ r.e0)) by
            rw [HO2.out, Hch.out]
            have : r.pauses.isEmpty = decide (r.pauses.length = 0) := by rw [Bool.eq_iff_iff]; simp
            rw [this, Bool.or_assoc]; rfl)
          clear HO2 Hch
          have hcase : op = true ∨ (op = false ∧ ((r.pauses.length : Int) == 0) = true ∧ orderedB r = true) ∨ (op = false ∧ ((r.pauses.length : Int) == 0) = false ∧ orderedB r = decide (a ≤ r.e0)) := by
            cases op
            · by_cases h0 : r.pauses.length = 0
              · exact .inr (.inl ⟨rfl, by simp; simpa using h0, by rw [HO3.out, decide_eq_true h0]; rfl⟩)
              · exact .inr (.inr ⟨rfl, by simp; simpa using h0, by rw [HO3.out, decide_eq_false h0]; rfl⟩)
            · exact .inl rfl
          rcases hcase with rfl | ⟨rfl, h0, hr⟩ | ⟨rfl, h0, hr⟩
          · have Hr := Lib.hid (show orderedB r = true by rw [HO3.out]; simp)
            go_wp2_with fail
            go_ret
            exact ⟨ret_bool Hr.out.symm, Hup.out _⟩
          · have Hr := Lib.hid hr; clear hr
            go_wp2_with fail
            go_ret
            exact ⟨ret_bool Hr.out.symm, Hup.out _⟩
          · have Hr := Lib.hid hr; clear hr
            go_wp2_with fail
            go_ret
            exact ⟨ret_bool Hr.out.symm, Hup.out _⟩
end Go.Proofs.Ytefodfpnedcodaa
/- The walks of the reference's check of a ride, second part: the legs follow one another. -/
namespace Go.Proofs.Ytefodfpnedcodaa
open Go.RowKit

/-- leg i begins where leg i - 1 ends -/
def linkB (l : List Leg) (i : Nat) : Bool := match l[i]?, l[i - 1]? with | some x, some y => decide (x.f0 = y.t0) && decide (x.f1 = y.t1) | _, _ => true
theorem linkB_at {l : List Leg} {i : Nat} {x y : Leg} (hx : l[i]? = some x) (hy : l[i - 1]? = some y) : linkB l i = (decide (x.f0 = y.t0) && decide (x.f1 = y.t1)) := by unfold linkB; rw [hx, hy]
theorem chainL_iff : ∀ (l : List Leg) (a0 a1 e0 e1 : Int) (x y : Leg), l[0]? = some x → l[l.length - 1]? = some y →
    (chainL a0 a1 l e0 e1 = true ↔ (x.f0 = a0 ∧ x.f1 = a1) ∧ (y.t0 = e0 ∧ y.t1 = e1) ∧ ∀ i, 1 ≤ i → i < l.length → linkB l i = true)
  | [], _, _, _, _, _, _, h, _ => by simp at h
  | [z], a0, a1, e0, e1, x, y, hx, hy => by
    simp at hx hy; subst hx; subst hy
    simp only [chainL, Bool.and_eq_true, decide_eq_true_eq, List.length_cons, List.length_nil]
    constructor
    · rintro ⟨h1, h2⟩; exact ⟨h1, h2, fun i h h' => by omega⟩
    · rintro ⟨h1, h2, _⟩; exact ⟨h1, h2⟩
  | z :: z2 :: l, a0, a1, e0, e1, x, y, hx, hy => by
    simp at hx; subst hx
    have hy' : (z2 :: l)[(z2 :: l).length - 1]? = some y := by
      simp only [List.length_cons, Nat.add_sub_cancel] at hy ⊢
      rw [← hy]; simp
    have ih := chainL_iff (z2 :: l) z.t0 z.t1 e0 e1 z2 y rfl hy'
    show (decide (z.f0 = a0) && decide (z.f1 = a1) && chainL z.t0 z.t1 (z2 :: l) e0 e1) = true ↔ _
    rw [Bool.and_eq_true, ih, Bool.and_eq_true, decide_eq_true_eq, decide_eq_true_eq]
    constructor
    · rintro ⟨h1, h2, h3, h4⟩
      refine ⟨h1, h3, fun i hi hil => ?_⟩
      by_cases hi1 : i = 1
      · subst hi1
        rw [linkB_at (x := z2) (y := z) rfl rfl]; simp [h2]
      · have := h4 (i - 1) (by omega) (by simp at hil ⊢; omega)
        unfold linkB at this ⊢
        obtain ⟨j, rfl⟩ : ∃ j, i = j + 2 := ⟨i - 2, by omega⟩
        simpa using this
    · rintro ⟨h1, h3, h4⟩
      have h2 := h4 1 (by omega) (by simp)
      rw [linkB_at (x := z2) (y := z) rfl rfl, Bool.and_eq_true, decide_eq_true_eq, decide_eq_true_eq] at h2
      refine ⟨h1, h2, h3, fun i hi hil => ?_⟩
      have := h4 (i + 1) (by omega) (by simp at hil ⊢; omega)
      unfold linkB at this ⊢
      obtain ⟨j, rfl⟩ : ∃ j, i = j + 1 := ⟨i - 1, by omega⟩
      simpa using this
set_option maxRecDepth 100000 in
set_option maxHeartbeats 8000000 in
theorem rjoined_calls (w : World) (x : Since w) (r : Ride) (h : r.At w) :
    Calls Try.prog 50 #[.agg #[.int .i64 r.id, .int .i64 r.rd, .int .i64 r.s0, .int .i64 r.s1, .int .i64 r.e0, .int .i64 r.e1, .bool r.op, .slice r.la r.legs.length r.lc, .slice r.pa r.pauses.length r.pc, .int .i64 r.fw, .int .i64 r.fp, .int .i64 r.wh, .int .i64 r.pl]] x.w fun o w' => o = .returned (.bool (joinedB r)) ∧ ∃ y : Since w, w' = y.w := by
  have HL := Lib.hid h.l
  have hlm := h.lm
  have hpm := h.pm
  clear h
  generalize r.la = la at HL ⊢
  rcases (by omega : r.legs.length < 1 ∨ (1 ≤ r.legs.length ∧ 512 < r.legs.length) ∨ (1 ≤ r.legs.length ∧ r.legs.length ≤ 512 ∧ 512 < r.pauses.length) ∨ (1 ≤ r.legs.length ∧ r.legs.length ≤ 512 ∧ r.pauses.length ≤ 512)) with h1 | ⟨h1, h2⟩ | ⟨h1, h2, h3⟩ | ⟨h1, h2, h3⟩
  case inr.inr.inr =>
    have hj : joinedB r = chainL r.s0 r.s1 r.legs r.e0 r.e1 := by unfold joinedB; simp [h1, h2, h3]
    obtain ⟨u, hu⟩ : ∃ e, r.legs[0]? = some e := ⟨_, List.getElem?_eq_getElem (by omega)⟩
    obtain ⟨v, hv⟩ : ∃ e, r.legs[r.legs.length - 1]? = some e := ⟨_, List.getElem?_eq_getElem (by omega)⟩
    have hci := chainL_iff r.legs r.s0 r.s1 r.e0 r.e1 u v hu hv
    rw [← hj] at hci
    have Hci := Lib.hid hci
    go_enter Try.func50, Try.ntmps50
    go_upto_region 1 with fail
    have hb0_0 : ∀ y : Since (x.w.alloc (.cells #[.int .i64 r.id, .int .i64 r.rd, .int .i64 r.s0, .int .i64 r.s1, .int .i64 r.e0, .int .i64 r.e1, .bool r.op, .slice la r.legs.length r.lc, .slice r.pa r.pauses.length r.pc, .int .i64 r.fw, .int .i64 r.fp, .int .i64 r.wh, .int .i64 r.pl] 27)), y.w.cell? ⟨x.w.heap.size, 0, none⟩ = some (.int .i64 r.id) := fun y => Since.cell (by simp [go_sem]) (by first | (simp; done) | (simp; omega)) y
    have hb0_1 : ∀ y : Since (x.w.alloc (.cells #[.int .i64 r.id, .int .i64 r.rd, .int .i64 r.s0, .int .i64 r.s1, .int .i64 r.e0, .int .i64 r.e1, .bool r.op, .slice la r.legs.length r.lc, .slice r.pa r.pauses.length r.pc, .int .i64 r.fw, .int .i64 r.fp, .int .i64 r.wh, .int .i64 r.pl] 27)), y.w.cell? ⟨x.w.heap.size, 1, none⟩ = some (.int .i64 r.rd) := fun y => Since.cell (by simp [go_sem]) (by first | (simp; done) | (simp; omega)) y
    have hb0_2 : ∀ y : Since (x.w.alloc (.cells #[.int .i64 r.id, .int .i64 r.rd, .int .i64 r.s0, .int .i64 r.s1, .int .i64 r.e0, .int .i64 r.e1, .bool r.op, .slice la r.legs.length r.lc, .slice r.pa r.pauses.length r.pc, .int .i64 r.fw, .int .i64 r.fp, .int .i64 r.wh, .int .i64 r.pl] 27)), y.w.cell? ⟨x.w.heap.size, 2, none⟩ = some (.int .i64 r.s0) := fun y => Since.cell (by simp [go_sem]) (by first | (simp; done) | (simp; omega)) y
    have hb0_3 : ∀ y : Since (x.w.alloc (.cells #[.int .i64 r.id, .int .i64 r.rd, .int .i64 r.s0, .int .i64 r.s1, .int .i64 r.e0, .int .i64 r.e1, .bool r.op, .slice la r.legs.length r.lc, .slice r.pa r.pauses.length r.pc, .int .i64 r.fw, .int .i64 r.fp, .int .i64 r.wh, .int .i64 r.pl] 27)), y.w.cell? ⟨x.w.heap.size, 3, none⟩ = some (.int .i64 r.s1) := fun y => Since.cell (by simp [go_sem]) (by first | (simp; done) | (simp; omega)) y
    have hb0_4 : ∀ y : Since (x.w.alloc (.cells #[.int .i64 r.id, .int .i64 r.rd, .int .i64 r.s0, .int .i64 r.s1, .int .i64 r.e0, .int .i64 r.e1, .bool r.op, .slice la r.legs.length r.lc, .slice r.pa r.pauses.length r.pc, .int .i64 r.fw, .int .i64 r.fp, .int .i64 r.wh, .int .i64 r.pl] 27)), y.w.cell? ⟨x.w.heap.size, 4, none⟩ = some (.int .i64 r.e0) := fun y => Since.cell (by simp [go_sem]) (by first | (simp; done) | (simp; omega)) y
    have hb0_5 : ∀ y : Since (x.w.alloc (.cells #[.int .i64 r.id, .int .i64 r.rd, .int .i64 r.s0, .int .i64 r.s1, .int .i64 r.e0, .int .i64 r.e1, .bool r.op, .slice la r.legs.length r.lc, .slice r.pa r.pauses.length r.pc, .int .i64 r.fw, .int .i64 r.fp, .int .i64 r.wh, .int .i64 r.pl] 27)), y.w.cell? ⟨x.w.heap.size, 5, none⟩ = some (.int .i64 r.e1) := fun y => Since.cell (by simp [go_sem]) (by first | (simp; done) | (simp; omega)) y
    have hb0_6 : ∀ y : Since (x.w.alloc (.cells #[.int .i64 r.id, .int .i64 r.rd, .int .i64 r.s0, .int .i64 r.s1, .int .i64 r.e0, .int .i64 r.e1, .bool r.op, .slice la r.legs.length r.lc, .slice r.pa r.pauses.length r.pc, .int .i64 r.fw, .int .i64 r.fp, .int .i64 r.wh, .int .i64 r.pl] 27)), y.w.cell? ⟨x.w.heap.size, 6, none⟩ = some (.bool r.op) := fun y => Since.cell (by simp [go_sem]) (by first | (simp; done) | (simp; omega)) y
    have hb0_7 : ∀ y : Since (x.w.alloc (.cells #[.int .i64 r.id, .int .i64 r.rd, .int .i64 r.s0, .int .i64 r.s1, .int .i64 r.e0, .int .i64 r.e1, .bool r.op, .slice la r.legs.length r.lc, .slice r.pa r.pauses.length r.pc, .int .i64 r.fw, .int .i64 r.fp, .int .i64 r.wh, .int .i64 r.pl] 27)), y.w.cell? ⟨x.w.heap.size, 7, none⟩ = some (.slice la r.legs.length r.lc) := fun y => Since.cell (by simp [go_sem]) (by first | (simp; done) | (simp; omega)) y
    have hb0_8 : ∀ y : Since (x.w.alloc (.cells #[.int .i64 r.id, .int .i64 r.rd, .int .i64 r.s0, .int .i64 r.s1, .int .i64 r.e0, .int .i64 r.e1, .bool r.op, .slice la r.legs.length r.lc, .slice r.pa r.pauses.length r.pc, .int .i64 r.fw, .int .i64 r.fp, .int .i64 r.wh, .int .i64 r.pl] 27)), y.w.cell? ⟨x.w.heap.size, 8, none⟩ = some (.slice r.pa r.pauses.length r.pc) := fun y => Since.cell (by simp [go_sem]) (by first | (simp; done) | (simp; omega)) y
    have hb0_9 : ∀ y : Since (x.w.alloc (.cells #[.int .i64 r.id, .int .i64 r.rd, .int .i64 r.s0, .int .i64 r.s1, .int .i64 r.e0, .int .i64 r.e1, .bool r.op, .slice la r.legs.length r.lc, .slice r.pa r.pauses.length r.pc, .int .i64 r.fw, .int .i64 r.fp, .int .i64 r.wh, .int .i64 r.pl] 27)), y.w.cell? ⟨x.w.heap.size, 9, none⟩ = some (.int .i64 r.fw) := fun y => Since.cell (by simp [go_sem]) (by first | (simp; done) | (simp; omega)) y
    have hb0_10 : ∀ y : Since (x.w.alloc (.cells #[.int .i64 r.id, .int .i64 r.rd, .int .i64 r.s0, .int .i64 r.s1, .int .i64 r.e0, .int .i64 r.e1, .bool r.op, .slice la r.legs.length r.lc, .slice r.pa r.pauses.length r.pc, .int .i64 r.fw, .int .i64 r.fp, .int .i64 r.wh, .int .i64 r.pl] 27)), y.w.cell? ⟨x.w.heap.size, 10, none⟩ = some (.int .i64 r.fp) := fun y => Since.cell (by simp [go_sem]) (by first | (simp; done) | (simp; omega)) y
    have hb0_11 : ∀ y : Since (x.w.alloc (.cells #[.int .i64 r.id, .int .i64 r.rd, .int .i64 r.s0, .int .i64 r.s1, .int .i64 r.e0, .int .i64 r.e1, .bool r.op, .slice la r.legs.length r.lc, .slice r.pa r.pauses.length r.pc, .int .i64 r.fw, .int .i64 r.fp, .int .i64 r.wh, .int .i64 r.pl] 27)), y.w.cell? ⟨x.w.heap.size, 11, none⟩ = some (.int .i64 r.wh) := fun y => Since.cell (by simp [go_sem]) (by first | (simp; done) | (simp; omega)) y
    have hb0_12 : ∀ y : Since (x.w.alloc (.cells #[.int .i64 r.id, .int .i64 r.rd, .int .i64 r.s0, .int .i64 r.s1, .int .i64 r.e0, .int .i64 r.e1, .bool r.op, .slice la r.legs.length r.lc, .slice r.pa r.pauses.length r.pc, .int .i64 r.fw, .int .i64 r.fp, .int .i64 r.wh, .int .i64 r.pl] 27)), y.w.cell? ⟨x.w.heap.size, 12, none⟩ = some (.int .i64 r.pl) := fun y => Since.cell (by simp [go_sem]) (by first | (simp; done) | (simp; omega)) y
    have hf0 : ∀ (y : Since (x.w.alloc (.cells #[.int .i64 r.id, .int .i64 r.rd, .int .i64 r.s0, .int .i64 r.s1, .int .i64 r.e0, .int .i64 r.e1, .bool r.op, .slice la r.legs.length r.lc, .slice r.pa r.pauses.length r.pc, .int .i64 r.fw, .int .i64 r.fp, .int .i64 r.wh, .int .i64 r.pl] 27))) (o : Nat), y.w.frozen? ⟨x.w.heap.size, o, none⟩ = false := fun y o => Since.free (by simp [go_sem]) (by first | (simp; done) | (simp; omega)) y
    have hWup : ∃ z : Since w, (x.w.alloc (.cells #[.int .i64 r.id, .int .i64 r.rd, .int .i64 r.s0, .int .i64 r.s1, .int .i64 r.e0, .int .i64 r.e1, .bool r.op, .slice la r.legs.length r.lc, .slice r.pa r.pauses.length r.pc, .int .i64 r.fw, .int .i64 r.fp, .int .i64 r.wh, .int .i64 r.pl] 27)) = z.w := x.alloc _
    obtain ⟨y0, hy0⟩ := Since.refl (x.w.alloc (.cells #[.int .i64 r.id, .int .i64 r.rd, .int .i64 r.s0, .int .i64 r.s1, .int .i64 r.e0, .int .i64 r.e1, .bool r.op, .slice la r.legs.length r.lc, .slice r.pa r.pauses.length r.pc, .int .i64 r.fw, .int .i64 r.fp, .int .i64 r.wh, .int .i64 r.pl] 27))
    have Hbx := Lib.hid (And.intro x.b.size (show x.w.heap.size + 1 = (x.w.alloc (.cells #[.int .i64 r.id, .int .i64 r.rd, .int .i64 r.s0, .int .i64 r.s1, .int .i64 r.e0, .int .i64 r.e1, .bool r.op, .slice la r.legs.length r.lc, .slice r.pa r.pauses.length r.pc, .int .i64 r.fw, .int .i64 r.fp, .int .i64 r.wh, .int .i64 r.pl] 27)).heap.size from by simp))
    generalize hW : (x.w.alloc (.cells #[.int .i64 r.id, .int .i64 r.rd, .int .i64 r.s0, .int .i64 r.s1, .int .i64 r.e0, .int .i64 r.e1, .bool r.op, .slice la r.legs.length r.lc, .slice r.pa r.pauses.length r.pc, .int .i64 r.fw, .int .i64 r.fp, .int .i64 r.wh, .int .i64 r.pl] 27)) = W at *
    clear hW
    generalize x.w.heap.size = bx at *
    have Hup := Lib.hid (Since.up hWup)
    rw [hy0]
    clear hy0
    replace HL := Lib.hid (HL.out.to hWup)
    clear hWup hj hci
    obtain ⟨b1, off1, rfl, h1'⟩ := Els.leg HL.out hu
    obtain ⟨b2, off2, hbo, h2'⟩ := Els.leg HL.out hv
    obtain ⟨rfl, rfl⟩ : b1 = b2 ∧ off1 = off2 := by simpa using hbo
    have pa0 := h1'.c0
    have pa1 := h1'.c1
    have pa2 := h1'.c2
    have pa3 := h1'.c3
    have pa4 := h1'.c4
    have qa0 := h2'.c0
    have qa1 := h2'.c1
    have qa2 := h2'.c2
    have qa3 := h2'.c3
    have qa4 := h2'.c4
    simp only [Nat.zero_mul, Nat.add_zero] at pa0 pa1 pa2 pa3 pa4
    first | have hd1 : decide ((r.legs.length : Int) < 1) = true := decide_eq_true (by omega) | have hd1 : decide ((r.legs.length : Int) < 1) = false := decide_eq_false (by omega)
    try first | have hd2 : decide ((512 : Int) < (r.legs.length : Int)) = true := decide_eq_true (by omega) | have hd2 : decide ((512 : Int) < (r.legs.length : Int)) = false := decide_eq_false (by omega)
    try first | have hd3 : decide ((512 : Int) < (r.pauses.length : Int)) = true := decide_eq_true (by omega) | have hd3 : decide ((512 : Int) < (r.pauses.length : Int)) = false := decide_eq_false (by omega)
    have heq0 := span_equal
    have hgd := span_guard
    have Heq := Lib.hid heq0; clear heq0
    have heq := Heq.out u.f0 u.f1 r.s0 r.s1
    have heq2 := Heq.out v.t0 v.t1 r.e0 r.e1
    have hm1 : (0 : Int) < (r.legs.length : Int) := by omega
    have hmw : IntKind.i64.wrap ((r.legs.length : Int) - 1) = ((r.legs.length - 1 : Nat) : Int) := by rw [show (r.legs.length : Int) - 1 = ((r.legs.length - 1 : Nat) : Int) by omega]; exact IntWalk.i64_in _ (by omega)
    have hmr : (0 : Int) ≤ ((r.legs.length - 1 : Nat) : Int) := by omega
    have hml : ((r.legs.length - 1 : Nat) : Int) < (r.legs.length : Int) := by omega
    clear hbo h1' h2' hu hv
    cases hb : (decide (u.f0 = r.s0) && decide (u.f1 = r.s1)) with
    | false =>
      rw [hb] at heq
      have Hr := Lib.hid (show joinedB r = false by
        cases hh : joinedB r
        · rfl
        · have := (Hci.out.1 hh).1; simp [this] at hb)
      clear hb
      go_wp2_with fail
      refine wp_region_since (by kernel_rfl) (by kernel_rfl) ?_
      repeat (go_big_quiet_step (fail))
      refine wpQuiet_nil ?_
      rintro _ ⟨y1, rfl⟩
      go_wp2_with fail
      go_ret
      exact ⟨ret_bool Hr.out.symm, Hup.out _⟩
    | true =>
      rw [hb] at heq
      have Hb := Lib.hid hb; clear hb
      cases hb2 : (decide (v.t0 = r.e0) && decide (v.t1 = r.e1)) with
      | false =>
        rw [hb2] at heq2
        have Hr := Lib.hid (show joinedB r = false by
          cases hh : joinedB r
          · rfl
          · have := (Hci.out.1 hh).2.1; simp [this] at hb2)
        clear hb2
        go_wp2_with fail
        refine wp_region_since (by kernel_rfl) (by kernel_rfl) ?_
        repeat (go_big_quiet_step (fail))
        refine wpQuiet_nil ?_
        rintro _ ⟨y1, rfl⟩
        go_wp2_with fail
        go_ret
        exact ⟨ret_bool Hr.out.symm, Hup.out _⟩
      | true =>
        rw [hb2] at heq2
        have Hb2 := Lib.hid hb2; clear hb2
        go_wp2_with fail
        refine wp_region_since (by kernel_rfl) (by kernel_rfl) ?_
        repeat (go_big_quiet_step (fail))
        refine wpQuiet_nil ?_
        rintro _ ⟨y1, rfl⟩
        clear pa0 pa1 pa2 pa3 pa4 qa0 qa1 qa2 qa3 qa4 heq heq2 hmw hmr hml
        go_wp2_with fail
        go_loopw [4] (fun i wr => ∃ (m : Nat) (y : Since W), 1 ≤ m ∧ m ≤ r.legs.length ∧ i = .int .i64 m ∧ wr = y.w ∧ ∀ i, 1 ≤ i → i < m → linkB r.legs i = true) (fun i _ => r.legs.length - (intOf i).toNat)
        case atStart => exact ⟨1, _, by omega, by omega, rfl, rfl, fun i hi hil => by omega⟩
        case round =>
          obtain ⟨m, y, hm1', hm2, rfl, rfl, hok⟩ := hrel
          have Hok := Lib.hid hok; clear hok
          by_cases hlt : m < r.legs.length
          · obtain ⟨u2, hu⟩ : ∃ e, r.legs[m]? = some e := ⟨_, List.getElem?_eq_getElem hlt⟩
            obtain ⟨v2, hv⟩ : ∃ e, r.legs[m - 1]? = some e := ⟨_, List.getElem?_eq_getElem (by omega)⟩
            obtain ⟨c1, of1, hbo1, h1'⟩ := Els.leg HL.out hu
            obtain ⟨rfl, rfl⟩ : b1 = c1 ∧ off1 = of1 := by simpa using hbo1
            obtain ⟨c2, of2, hbo2, h2'⟩ := Els.leg HL.out hv
            obtain ⟨rfl, rfl⟩ : b1 = c2 ∧ off1 = of2 := by simpa using hbo2
            have pa0 := h1'.c0
            have pa1 := h1'.c1
            have pa2 := h1'.c2
            have pa3 := h1'.c3
            have pa4 := h1'.c4
            have qa0 := h2'.c0
            have qa1 := h2'.c1
            have qa2 := h2'.c2
            have qa3 := h2'.c3
            have qa4 := h2'.c4
            have hm3 : (0 : Int) < (m : Int) := by omega
            have hmw : IntKind.i64.wrap ((m : Int) - 1) = ((m - 1 : Nat) : Int) := by rw [show (m : Int) - 1 = ((m - 1 : Nat) : Int) by omega]; exact IntWalk.i64_in _ (by omega)
            have hmr : (0 : Int) ≤ ((m - 1 : Nat) : Int) := by omega
            have hml : ((m - 1 : Nat) : Int) < (r.legs.length : Int) := by omega
            have hmk : (0 : Int) ≤ (m : Int) := by omega
            have hmj : (m : Int) < (r.legs.length : Int) := by omega
            have Hlk := Lib.hid (linkB_at hu hv)
            have heq := Heq.out u2.f0 u2.f1 v2.t0 v2.t1
            clear hbo1 hbo2 h1' h2' hu hv
            cases hb : (decide (u2.f0 = v2.t0) && decide (u2.f1 = v2.t1)) with
            | false =>
              rw [hb] at heq Hlk
              have Hr := Lib.hid (show joinedB r = false by
                cases hh : joinedB r
                · rfl
                · have := (Hci.out.1 hh).2.2 m hm1' hlt; rw [Hlk.out] at this; cases this)
              clear hb
              go_wp2_with fail
              refine wp_region_since (by kernel_rfl) (by kernel_rfl) ?_
              repeat (go_big_quiet_step (fail))
              refine wpQuiet_nil ?_
              rintro _ ⟨y2, rfl⟩
              clear pa0 pa1 pa2 pa3 pa4 qa0 qa1 qa2 qa3 qa4 heq hmw hmr hml
              go_wp2_with fail
              go_ret
              exact ⟨ret_bool Hr.out.symm, Hup.out _⟩
            | true =>
              rw [hb] at heq Hlk
              clear hb
              go_wp2_with fail
              refine wp_region_since (by kernel_rfl) (by kernel_rfl) ?_
              repeat (go_big_quiet_step (fail))
              refine wpQuiet_nil ?_
              rintro _ ⟨y2, rfl⟩
              clear pa0 pa1 pa2 pa3 pa4 qa0 qa1 qa2 qa3 qa4 heq hmw hmr hml
              go_wp2_with fail
              go_roundw
              case rel => exact ⟨m + 1, y2, by omega, by omega, by go_num, rfl, fun i hi hil => by
                by_cases him : i < m
                · exact Hok.out i hi him
                · obtain rfl : i = m := by omega
                  exact Hlk.out⟩
              case measure => simp [intOf] <;> omega
          · obtain rfl : m = r.legs.length := by omega
            have Hr := Lib.hid (show joinedB r = true from Hci.out.2 ⟨by simpa using Hb.out, by simpa using Hb2.out, Hok.out⟩)
            go_wp2_with fail
            go_ret
            exact ⟨ret_bool Hr.out.symm, Hup.out _⟩
  all_goals
    have Hr := Lib.hid (show joinedB r = false by
      cases hh : joinedB r
      · rfl
      · unfold joinedB at hh
        simp only [Bool.and_eq_true, decide_eq_true_eq] at hh
        omega)
    go_enter Try.func50, Try.ntmps50
    go_upto_region 1 with fail
    have hb0_0 : ∀ y : Since (x.w.alloc (.cells #[.int .i64 r.id, .int .i64 r.rd, .int .i64 r.s0, .int .i64 r.s1, .int .i64 r.e0, .int .i64 r.e1, .bool r.op, .slice la r.legs.length r.lc, .slice r.pa r.pauses.length r.pc, .int .i64 r.fw, .int .i64 r.fp, .int .i64 r.wh, .int .i64 r.pl] 27)), y.w.cell? ⟨x.w.heap.size, 0, none⟩ = some (.int .i64 r.id) := fun y => Since.cell (by simp [go_sem]) (by first | (simp; done) | (simp; omega)) y
    have hb0_1 : ∀ y : Since (x.w.alloc (.cells #[.int .i64 r.id, .int .i64 r.rd, .int .i64 r.s0, .int .i64 r.s1, .int .i64 r.e0, .int .i64 r.e1, .bool r.op, .slice la r.legs.length r.lc, .slice r.pa r.pauses.length r.pc, .int .i64 r.fw, .int .i64 r.fp, .int .i64 r.wh, .int .i64 r.pl] 27)), y.w.cell? ⟨x.w.heap.size, 1, none⟩ = some (.int .i64 r.rd) := fun y => Since.cell (by simp [go_sem]) (by first | (simp; done) | (simp; omega)) y
    have hb0_2 : ∀ y : Since (x.w.alloc (.cells #[.int .i64 r.id, .int .i64 r.rd, .int .i64 r.s0, .int .i64 r.s1, .int .i64 r.e0, .int .i64 r.e1, .bool r.op, .slice la r.legs.length r.lc, .slice r.pa r.pauses.length r.pc, .int .i64 r.fw, .int .i64 r.fp, .int .i64 r.wh, .int .i64 r.pl] 27)), y.w.cell? ⟨x.w.heap.size, 2, none⟩ = some (.int .i64 r.s0) := fun y => Since.cell (by simp [go_sem]) (by first | (simp; done) | (simp; omega)) y
    have hb0_3 : ∀ y : Since (x.w.alloc (.cells #[.int .i64 r.id, .int .i64 r.rd, .int .i64 r.s0, .int .i64 r.s1, .int .i64 r.e0, .int .i64 r.e1, .bool r.op, .slice la r.legs.length r.lc, .slice r.pa r.pauses.length r.pc, .int .i64 r.fw, .int .i64 r.fp, .int .i64 r.wh, .int .i64 r.pl] 27)), y.w.cell? ⟨x.w.heap.size, 3, none⟩ = some (.int .i64 r.s1) := fun y => Since.cell (by simp [go_sem]) (by first | (simp; done) | (simp; omega)) y
    have hb0_4 : ∀ y : Since (x.w.alloc (.cells #[.int .i64 r.id, .int .i64 r.rd, .int .i64 r.s0, .int .i64 r.s1, .int .i64 r.e0, .int .i64 r.e1, .bool r.op, .slice la r.legs.length r.lc, .slice r.pa r.pauses.length r.pc, .int .i64 r.fw, .int .i64 r.fp, .int .i64 r.wh, .int .i64 r.pl] 27)), y.w.cell? ⟨x.w.heap.size, 4, none⟩ = some (.int .i64 r.e0) := fun y => Since.cell (by simp [go_sem]) (by first | (simp; done) | (simp; omega)) y
    have hb0_5 : ∀ y : Since (x.w.alloc (.cells #[.int .i64 r.id, .int .i64 r.rd, .int .i64 r.s0, .int .i64 r.s1, .int .i64 r.e0, .int .i64 r.e1, .bool r.op, .slice la r.legs.length r.lc, .slice r.pa r.pauses.length r.pc, .int .i64 r.fw, .int .i64 r.fp, .int .i64 r.wh, .int .i64 r.pl] 27)), y.w.cell? ⟨x.w.heap.size, 5, none⟩ = some (.int .i64 r.e1) := fun y => Since.cell (by simp [go_sem]) (by first | (simp; done) | (simp; omega)) y
    have hb0_6 : ∀ y : Since (x.w.alloc (.cells #[.int .i64 r.id, .int .i64 r.rd, .int .i64 r.s0, .int .i64 r.s1, .int .i64 r.e0, .int .i64 r.e1, .bool r.op, .slice la r.legs.length r.lc, .slice r.pa r.pauses.length r.pc, .int .i64 r.fw, .int .i64 r.fp, .int .i64 r.wh, .int .i64 r.pl] 27)), y.w.cell? ⟨x.w.heap.size, 6, none⟩ = some (.bool r.op) := fun y => Since.cell (by simp [go_sem]) (by first | (simp; done) | (simp; omega)) y
    have hb0_7 : ∀ y : Since (x.w.alloc (.cells #[.int .i64 r.id, .int .i64 r.rd, .int .i64 r.s0, .int .i64 r.s1, .int .i64 r.e0, .int .i64 r.e1, .bool r.op, .slice la r.legs.length r.lc, .slice r.pa r.pauses.length r.pc, .int .i64 r.fw, .int .i64 r.fp, .int .i64 r.wh, .int .i64 r.pl] 27)), y.w.cell? ⟨x.w.heap.size, 7, none⟩ = some (.slice la r.legs.length r.lc) := fun y => Since.cell (by simp [go_sem]) (by first | (simp; done) | (simp; omega)) y
    have hb0_8 : ∀ y : Since (x.w.alloc (.cells #[.int .i64 r.id, .int .i64 r.rd, .int .i64 r.s0, .int .i64 r.s1, .int .i64 r.e0, .int .i64 r.e1, .bool r.op, .slice la r.legs.length r.lc, .slice r.pa r.pauses.length r.pc, .int .i64 r.fw, .int .i64 r.fp, .int .i64 r.wh, .int .i64 r.pl] 27)), y.w.cell? ⟨x.w.heap.size, 8, none⟩ = some (.slice r.pa r.pauses.length r.pc) := fun y => Since.cell (by simp [go_sem]) (by first | (simp; done) | (simp; omega)) y
    have hb0_9 : ∀ y : Since (x.w.alloc (.cells #[.int .i64 r.id, .int .i64 r.rd, .int .i64 r.s0, .int .i64 r.s1, .int .i64 r.e0, .int .i64 r.e1, .bool r.op, .slice la r.legs.length r.lc, .slice r.pa r.pauses.length r.pc, .int .i64 r.fw, .int .i64 r.fp, .int .i64 r.wh, .int .i64 r.pl] 27)), y.w.cell? ⟨x.w.heap.size, 9, none⟩ = some (.int .i64 r.fw) := fun y => Since.cell (by simp [go_sem]) (by first | (simp; done) | (simp; omega)) y
    have hb0_10 : ∀ y : Since (x.w.alloc (.cells #[.int .i64 r.id, .int .i64 r.rd, .int .i64 r.s0, .int .i64 r.s1, .int .i64 r.e0, .int .i64 r.e1, .bool r.op, .slice la r.legs.length r.lc, .slice r.pa r.pauses.length r.pc, .int .i64 r.fw, .int .i64 r.fp, .int .i64 r.wh, .int .i64 r.pl] 27)), y.w.cell? ⟨x.w.heap.size, 10, none⟩ = some (.int .i64 r.fp) := fun y => Since.cell (by simp [go_sem]) (by first | (simp; done) | (simp; omega)) y
    have hb0_11 : ∀ y : Since (x.w.alloc (.cells #[.int .i64 r.id, .int .i64 r.rd, .int .i64 r.s0, .int .i64 r.s1, .int .i64 r.e0, .int .i64 r.e1, .bool r.op, .slice la r.legs.length r.lc, .slice r.pa r.pauses.length r.pc, .int .i64 r.fw, .int .i64 r.fp, .int .i64 r.wh, .int .i64 r.pl] 27)), y.w.cell? ⟨x.w.heap.size, 11, none⟩ = some (.int .i64 r.wh) := fun y => Since.cell (by simp [go_sem]) (by first | (simp; done) | (simp; omega)) y
    have hb0_12 : ∀ y : Since (x.w.alloc (.cells #[.int .i64 r.id, .int .i64 r.rd, .int .i64 r.s0, .int .i64 r.s1, .int .i64 r.e0, .int .i64 r.e1, .bool r.op, .slice la r.legs.length r.lc, .slice r.pa r.pauses.length r.pc, .int .i64 r.fw, .int .i64 r.fp, .int .i64 r.wh, .int .i64 r.pl] 27)), y.w.cell? ⟨x.w.heap.size, 12, none⟩ = some (.int .i64 r.pl) := fun y => Since.cell (by simp [go_sem]) (by first | (simp; done) | (simp; omega)) y
    have hf0 : ∀ (y : Since (x.w.alloc (.cells #[.int .i64 r.id, .int .i64 r.rd, .int .i64 r.s0, .int .i64 r.s1, .int .i64 r.e0, .int .i64 r.e1, .bool r.op, .slice la r.legs.length r.lc, .slice r.pa r.pauses.length r.pc, .int .i64 r.fw, .int .i64 r.fp, .int .i64 r.wh, .int .i64 r.pl] 27))) (o : Nat), y.w.frozen? ⟨x.w.heap.size, o, none⟩ = false := fun y o => Since.free (by simp [go_sem]) (by first | (simp; done) | (simp; omega)) y
    have hWup : ∃ z : Since w, (x.w.alloc (.cells #[.int .i64 r.id, .int .i64 r.rd, .int .i64 r.s0, .int .i64 r.s1, .int .i64 r.e0, .int .i64 r.e1, .bool r.op, .slice la r.legs.length r.lc, .slice r.pa r.pauses.length r.pc, .int .i64 r.fw, .int .i64 r.fp, .int .i64 r.wh, .int .i64 r.pl] 27)) = z.w := x.alloc _
    obtain ⟨y0, hy0⟩ := Since.refl (x.w.alloc (.cells #[.int .i64 r.id, .int .i64 r.rd, .int .i64 r.s0, .int .i64 r.s1, .int .i64 r.e0, .int .i64 r.e1, .bool r.op, .slice la r.legs.length r.lc, .slice r.pa r.pauses.length r.pc, .int .i64 r.fw, .int .i64 r.fp, .int .i64 r.wh, .int .i64 r.pl] 27))
    have Hbx := Lib.hid (And.intro x.b.size (show x.w.heap.size + 1 = (x.w.alloc (.cells #[.int .i64 r.id, .int .i64 r.rd, .int .i64 r.s0, .int .i64 r.s1, .int .i64 r.e0, .int .i64 r.e1, .bool r.op, .slice la r.legs.length r.lc, .slice r.pa r.pauses.length r.pc, .int .i64 r.fw, .int .i64 r.fp, .int .i64 r.wh, .int .i64 r.pl] 27)).heap.size from by simp))
    generalize hW : (x.w.alloc (.cells #[.int .i64 r.id, .int .i64 r.rd, .int .i64 r.s0, .int .i64 r.s1, .int .i64 r.e0, .int .i64 r.e1, .bool r.op, .slice la r.legs.length r.lc, .slice r.pa r.pauses.length r.pc, .int .i64 r.fw, .int .i64 r.fp, .int .i64 r.wh, .int .i64 r.pl] 27)) = W at *
    clear hW
    generalize x.w.heap.size = bx at *
    have Hup := Lib.hid (Since.up hWup)
    rw [hy0]
    clear hy0
    clear hWup
    first | have hd1 : decide ((r.legs.length : Int) < 1) = true := decide_eq_true (by omega) | have hd1 : decide ((r.legs.length : Int) < 1) = false := decide_eq_false (by omega)
    try first | have hd2 : decide ((512 : Int) < (r.legs.length : Int)) = true := decide_eq_true (by omega) | have hd2 : decide ((512 : Int) < (r.legs.length : Int)) = false := decide_eq_false (by omega)
    try first | have hd3 : decide ((512 : Int) < (r.pauses.length : Int)) = true := decide_eq_true (by omega) | have hd3 : decide ((512 : Int) < (r.pauses.length : Int)) = false := decide_eq_false (by omega)
    go_wp2_with fail
    refine wp_region_since (by kernel_rfl) (by kernel_rfl) ?_
    repeat (go_big_quiet_step (fail))
    refine wpQuiet_nil ?_
    rintro _ ⟨y1, rfl⟩
    go_wp2_with fail
    go_ret
    exact ⟨ret_bool Hr.out.symm, Hup.out _⟩
end Go.Proofs.Ytefodfpnedcodaa
