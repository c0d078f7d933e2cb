/- Appends at a step of a statement that draws its order: generic, no program in sight. -/
import Derived.Test.YtnkmngkinjjbfaaDoorEls
import Derived.Test.YtnkmngkinjjbfaaDoorHeld
import Derived.Deep.AppendLies
set_option linter.all false
namespace Go.Proofs.YtnkmngkinjjbfaaDoor
open Go.RowKit

section
variable {α : Type} {enc : α → List Value} {k : Nat}
theorem step_appK {P : Program} {ops : Array Oper} {o : Oper} {a : Act} {K : Act → World → Prop} {Q : Exit → Act → World → Prop} {E : Prop} {w0 w : World} (hw : ∃ y : Since w0, w = y.w) (hgd : o.guard = none) (s x : Operand) (t : TypeId)
    (ho : o.op = .call { callee := .builtin .append, args := #[s, x], argTypes := #[t, t] })
    (base : Nat) (hbase : w0.heap.size ≤ base) (hbase' : base ≤ w.heap.size) (e : TypeId) (z : Value) (bytes : Nat) (ht : SliceOf P t e z k bytes) (v : Value) (n : Nat) (xs : List Value) (hs : a.eval s = v) (hown : w.ownsRow base e k v n xs)
    (ad : Addr) (m c : Nat) (news : List Value) (hx : a.eval x = .slice (some ad) m c) (hn : news.length = m * k) (hc : ∀ j u, news[j]? = some u → w.cell? (ad.add j) = some u) (h1 : ∀ u ∈ news, u.oneCell' = true)
    (h63 : n + m ≤ maxLen) (hbytes : (n + m) * bytes ≤ 140737488355328)
    (h : ∀ v' (q : Since w0), q.w.ownsRow base e k v' (n + m) (xs ++ news) → w.grownBy q.w v.ownBlock → K (a.put o.dst v') q.w) :
    if Region.wanted o (yielded ops a.tmps) = true then Oper.wp P o a w K Q else E := by
  have hwn : Region.wanted o (yielded ops a.tmps) = true := by simp [Region.wanted, hgd]
  rw [if_pos hwn]
  obtain ⟨y, rfl⟩ := hw
  obtain ⟨i, hi, hz, hsize, hby⟩ := ht.e
  refine wp_append_own y.w s x t ho base e i z k bytes ht.t hi hz hsize hby ht.z ht.s v n xs hs hown ad m c news hx hn hc h1 h63 hbytes hbase' ?_
  intro v' w' hown' hg _
  obtain ⟨q, rfl⟩ := y.grown hg (fun k hk => Nat.le_trans hbase (own_block hown k hk))
  exact h v' q hown' hg
theorem step_appEls {P : Program} {ops : Array Oper} {o : Oper} {a : Act} {K : Act → World → Prop} {Q : Exit → Act → World → Prop} {E : Prop} {w0 w : World} (hk : ∀ x, (enc x).length = k) (h0 : 0 < k) (h1 : ∀ x, ∀ u ∈ enc x, u.oneCell' = true) (hw : ∃ y : Since w0, w = y.w) (hgd : o.guard = none) (s x : Operand) (t : TypeId)
    (ho : o.op = .call { callee := .builtin .append, args := #[s, x], argTypes := #[t, t] })
    (base : Nat) (hbase : w0.heap.size ≤ base) (hbase' : base ≤ w.heap.size) (e : TypeId) (z : Value) (bytes : Nat) (ht : SliceOf P t e z k bytes) (v : Value) (n : Nat) (xs : List Value) (hs : a.eval s = v) (hown : w.ownsRow base e k v n xs)
    (ao : Option Addr) (us : List α) (c : Nat) (hx : a.eval x = .slice ao us.length c) (hels : Els enc k w ao us) (hnil : ao = none → c = 0)
    (h63 : n + us.length ≤ maxLen) (hbytes : (n + us.length) * bytes ≤ 140737488355328)
    (h : ∀ v' (q : Since w0), q.w.ownsRow base e k v' (n + us.length) (xs ++ flat enc us) → w.grownBy q.w v.ownBlock → K (a.put o.dst v') q.w) :
    if Region.wanted o (yielded ops a.tmps) = true then Oper.wp P o a w K Q else E := by
  cases ao with
  | none =>
    have hus : us = [] := by
      cases us with
      | nil => rfl
      | cons y us =>
        obtain ⟨b, off, hb, _⟩ := hels 0 y rfl
        cases hb
    subst hus
    obtain rfl := hnil rfl
    obtain ⟨y, rfl⟩ := hw
    obtain ⟨i, hi, hz, hsize, hby⟩ := ht.e
    have hwn : Region.wanted o (yielded ops a.tmps) = true := by simp [Region.wanted, hgd]
    rw [if_pos hwn]
    have hrun := run_append_owned_none (P := P) y.w base t o.type e i k ht.t hi v n xs hown
    unfold Oper.wp
    simp [execOp, ho, resolve, invoke, builtin, hs, hx, hrun, Result.andThen]
    exact h v y (by simpa [flat] using hown) (World.grownBy.refl _ _)
  | some ad =>
    refine step_appK hw hgd s x t ho base hbase hbase' e z bytes ht v n xs hs hown ad us.length c (flat enc us) hx (flat_length hk us) ?_ ?_ h63 hbytes h
    · intro j u hu
      obtain ⟨y, hy, hr⟩ := flat_inv hk h0 us j u hu
      obtain ⟨b, off, hb, _, hc⟩ := hels _ y hy
      have hb' : ad = ⟨b, off, none⟩ := Option.some.inj hb
      subst hb'
      have := hc _ u hr
      rw [Addr.add_lit, show off + j = off + j / k * k + j % k by rw [Nat.add_assoc, Nat.mul_comm, Nat.div_add_mod]]
      exact this
    · intro u hu
      obtain ⟨y, _, hy⟩ := List.mem_flatMap.1 hu
      exact h1 y u hy
/-- an empty slice that is not nil -/
theorem own_empty {w : World} {g base : Nat} {e : TypeId} (h : w.heap[g]? = some (.cells #[] e)) (hb : base ≤ g) : w.ownsRow base e k (.slice (some ⟨g, 0, none⟩) 0 0) 0 [] :=
  ⟨by simp, .inr ⟨g, 0, #[], rfl, hb, h, Nat.le_refl _, by decide, by simp, by simp⟩⟩
end
/-- 'append(v, us...)': v is nil or the call's own; the row stays in its block or comes into a new one -/
theorem wpList_appendL {k : Nat} {P : Program} {ops : Array Oper} {rest : List Oper} {o : Oper} {a : Act} {Q : Exit → Act → World → Prop} {w0 w : World} (hw : ∃ y : Since w0, w = y.w) (hgd : o.guard = none) (s x : Operand) (t : TypeId)
    (ho : o.op = .call { callee := .builtin .append, args := #[s, x], argTypes := #[t, t] })
    (base : Nat) (hbase : w0.heap.size ≤ base) (hbase' : base ≤ w.heap.size) (e : TypeId) (z : Value) (bytes : Nat) (ht : SliceOf P t e z k bytes) (v : Value) (n : Nat) (xs : List Value) (hs : a.eval s = v) (hown : w.ownsRow base e k v n xs)
    (ad : Addr) (m c : Nat) (news : List Value) (hx : a.eval x = .slice (some ad) m c) (hn : news.length = m * k) (hc : ∀ j u, news[j]? = some u → w.cell? (ad.add j) = some u) (h1 : ∀ u ∈ news, u.oneCell' = true) (hm : 0 < m)
    (h63 : n + m ≤ maxLen) (hbytes : (n + m) * bytes ≤ 140737488355328)
    (h : ∀ v' (q : Since w0), q.w.ownsRow base e k v' (n + m) (xs ++ news) → w.grownBy q.w v.ownBlock → (∀ b, v'.ownBlock = some b → v.ownBlock = some b ∨ b = w.heap.size) → wpList P ops Q rest (a.put o.dst v') q.w) : wpList P ops Q (o :: rest) a w := by
  obtain ⟨y, rfl⟩ := hw
  obtain ⟨i, hi, hz, hsize, hby⟩ := ht.e
  refine wpList_append_lies y.w hgd s x t ho base e i z k bytes ht.t hi hz hsize hby ht.z ht.s v n xs hs hown ad m c news hx hn hc h1 hm h63 hbytes hbase' y.w.heap.size rfl ?_
  intro g cap w' hown' hg hl _
  obtain ⟨q, rfl⟩ := y.grown hg (fun k hk => Nat.le_trans hbase (own_block hown k hk))
  exact h _ q hown' hg fun b hb => by
    have hb' : g = b := by simpa [Value.ownBlock] using hb
    subst hb'
    exact hl
/-- a box of two cells that is not the row's block -/
structure WBox (w : World) (g : Nat) (c0 c1 : Value) (v : Value) : Prop where
  lt : g < w.heap.size
  a0 : w.cell? ⟨g, 0, none⟩ = some c0
  a1 : w.cell? ⟨g, 1, none⟩ = some c1
  ne : ∀ b, v.ownBlock = some b → b ≠ g
theorem WBox.to {w W : World} {g : Nat} {c0 c1 v : Value} (h : WBox w g c0 c1 v) (hW : ∃ z : Since w, W = z.w) : WBox W g c0 c1 v := by
  obtain ⟨z, rfl⟩ := hW
  exact ⟨Nat.lt_of_lt_of_le h.lt z.b.size, Since.cell h.a0 h.lt z, Since.cell h.a1 h.lt z, h.ne⟩
theorem WBox.app {w w' : World} {g : Nat} {c0 c1 v v' : Value} (h : WBox w g c0 c1 v) (hg : w.grownBy w' v.ownBlock) (hl : ∀ b, v'.ownBlock = some b → v.ownBlock = some b ∨ b = w.heap.size) : WBox w' g c0 c1 v' := by
  have hr : some g ≠ v.ownBlock := fun e => h.ne g e.symm rfl
  have hb := hg.block g h.lt hr
  refine ⟨Nat.lt_of_lt_of_le h.lt hg.size, by rw [World.cell?_of_block (w := w) (a := ⟨g, 0, none⟩) hb]; exact h.a0, by rw [World.cell?_of_block (w := w) (a := ⟨g, 1, none⟩) hb]; exact h.a1, fun b hb => ?_⟩
  rcases hl b hb with h1 | h1
  · exact h.ne b h1
  · have := h.lt; omega
/-- a block that is known whole -/
def Blk (w : World) (g : Nat) (o : Obj) : Prop := w.heap[g]? = some o
theorem Blk.new (w : World) (o : Obj) : Blk (w.alloc o) w.heap.size o := by show (w.heap.push _)[w.heap.size]? = _; simp
theorem Blk.to {w W : World} {g : Nat} {o : Obj} (h : Blk w g o) (hW : ∃ z : Since w, W = z.w) : Blk W g o := by
  obtain ⟨z, rfl⟩ := hW; exact (z.b.block g (Array.getElem?_eq_some_iff.1 h).1).trans h
theorem Blk.grown {w w' : World} {row : Option Nat} {g : Nat} {o : Obj} (hg : w.grownBy w' row) (h : Blk w g o) (hne : some g ≠ row) : Blk w' g o :=
  (hg.block g (Array.getElem?_eq_some_iff.1 h).1 hne).trans h
theorem Blk.cells {w : World} {g : Nat} {cs : List Value} {e : TypeId} (h : Blk w g (.cells cs.toArray e)) : ∀ j u, cs[j]? = some u → w.cell? ((⟨g, 0, none⟩ : Addr).add j) = some u := fun j u hu => by
  unfold Blk at h
  rw [Addr.add_lit]
  simp only [World.cell?, h, Nat.zero_add]
  simpa using hu
theorem own_empty' {k : Nat} {w : World} {g base : Nat} {e : TypeId} (h : Blk w g (.cells #[] e)) (hb : base ≤ g) : w.ownsRow base e k (.slice (some ⟨g, 0, none⟩) 0 0) 0 [] := own_empty h hb
theorem blk_at {w : World} {o : Obj} {g : Nat} (hg : w.heap.size = g) : Blk (w.alloc o) g o := by subst hg; exact Blk.new w o
theorem blk_up {w : World} {o o' : Obj} {g : Nat} (h : Blk w g o) : Blk (w.alloc o') g o := h.to (IsSince.alloc (IsSince.self _) _)
theorem blk_drew {w : World} {o : Obj} {g : Nat} (h : Blk w g o) : Blk w.drew g o := h
theorem own_up {w : World} {base : Nat} {e : TypeId} {s : Nat} {v : Value} {n : Nat} {xs : List Value} {o : Obj} (h : w.ownsRow base e s v n xs) : (w.alloc o).ownsRow base e s v n xs := own_to h (IsSince.alloc (IsSince.self _) _)
end Go.Proofs.YtnkmngkinjjbfaaDoor
