/- The frame: opening slices of structs of numbers, and arrays of numbers: generic, no program in sight. -/
import Derived.Test.YtnkmngkinjjbfaaDoorFrameS
import Derived.Test.YtnkmngkinjjbfaaDoorEls
set_option linter.all false
namespace Go.Proofs.YtnkmngkinjjbfaaDoor
open Go.ChangeShapes Go.WideShapes Go.ChangeAt Go.RowKit

section
variable {H : Type} {enc : TypeId × Value → H} {P : Program}
theorem addr_add (b off i : Nat) : Addr.add ⟨b, off, none⟩ i = ⟨b, off + i, none⟩ := by
  unfold Addr.add; split
  · rename_i h; subst h; rfl
  · rfl
theorem list_pick {α : Type} {n : Nat} {R : Nat → α → Prop} (h : ∀ i, i < n → ∃ x, R i x) : ∃ l : List α, l.length = n ∧ ∀ i x, l[i]? = some x → R i x := by
  induction n with
  | zero => exact ⟨[], rfl, fun i x hx => by simp at hx⟩
  | succ n ih =>
    obtain ⟨l, hl, hr⟩ := ih (fun i hi => h i (by omega))
    obtain ⟨x, hx⟩ := h n (by omega)
    refine ⟨l ++ [x], by simp [hl], fun i y hy => ?_⟩
    by_cases hi : i < l.length
    · rw [List.getElem?_append_left hi] at hy; exact hr i y hy
    · rw [List.getElem?_append_right (by omega)] at hy
      have : i = n := by
        rcases Nat.lt_or_ge (i - l.length) 1 with h1 | h1
        · omega
        · rw [List.getElem?_eq_none (by simpa using h1)] at hy; cases hy
      subst this
      rw [hl, Nat.sub_self] at hy
      simp at hy; subst hy; exact hx
/-- a slice of structs of numbers that came in as an argument; 'dec' makes an element of its numbers -/
theorem open_els {α : Type} {encA : α → List Value} {dec : List Int → α} {w : World} {base b0 : Nat} {r : Reach} {spare : Nat → Bool} {held : Bool} {t e : TypeId} {fs : Array Field} {v : Value} {d : DataW H} {p : List MemPlace} (ht : P.underlying t = some (.slice e)) (he : P.underlying e = some (.struct fs)) (hf : IntFields P fs) (hc : P.cellsOf e = fs.size) (h0 : 0 < fs.size)
    (hdec : ∀ ns : List Int, ns.length = fs.size → encA (dec ns) = ns.map (Value.int .i64)) (hv : Value.okWide P w r b0 t v) (h : DataW.Trod enc P w base spare held t v d p) :
    ∃ (a : Option Addr) (l : List α) (cap : Nat), v = .slice a l.length cap ∧ l.length ≤ cap ∧ cap ≤ 9223372036854775807 ∧ (a = none → cap = 0) ∧ Els encA fs.size w a l ∧ ∀ x ∈ l, ∃ ns : List Int, ns.length = fs.size ∧ x = dec ns ∧ ∀ z ∈ ns, I64 z := by
  obtain ⟨a0, n0, c0, rfl⟩ := okWide_slice ht hv
  obtain ⟨fuel, hfu⟩ := h
  rcases DataW.trod_slice ht (show DataW.trod enc P w base spare held fuel t [.slice a0 n0 c0] = some (d, p) from hfu) with ⟨hcs, _⟩ | ⟨a, len, cap, elems, rest, n, _, hcs, _, _, hl, hm, hlen, hel, _, _⟩
  · simp at hcs
    obtain ⟨rfl, rfl, rfl⟩ := hcs
    exact ⟨none, [], 0, rfl, Nat.le_refl _, by decide, fun _ => rfl, els_nil _ _, fun x hx => (by cases hx)⟩
  · simp at hcs
    obtain ⟨rfl, rfl, rfl⟩ := hcs
    by_cases hn0 : n0 = 0
    · subst hn0
      exact ⟨some a, [], c0, rfl, by simp, hm, fun hh => (by cases hh), els_nil _ _, fun x hx => (by cases hx)⟩
    have hspot : a.spot = none := by
      have h1 := hel 0 (by omega)
      rw [hc, Nat.zero_mul] at h1
      have hx : elems[0]? = some (elems[0]'(by omega)) := List.getElem?_eq_getElem (by omega)
      rw [hx, Option.bind_eq_some_iff] at h1
      obtain ⟨cs, h2, h3⟩ := h1
      obtain ⟨_, hcl, hg⟩ := World.cells?_some h2
      have := hg 0 h0
      rw [List.getElem?_eq_getElem (by omega)] at this
      have := World.cell?_spot this
      simpa [Addr.add] using this
    obtain ⟨b, off, spot⟩ := a
    simp only at hspot
    subst hspot
    have hcell : ∀ i, i < n0 → ∃ x : α, (∀ j u, (encA x)[j]? = some u → w.cell? ⟨b, off + i * fs.size + j, none⟩ = some u) ∧ ∃ ns : List Int, ns.length = fs.size ∧ x = dec ns ∧ ∀ z ∈ ns, I64 z := fun i hi => by
      have h1 := hel i hi
      rw [hc] at h1
      have hx : elems[i]? = some (elems[i]'(by omega)) := List.getElem?_eq_getElem (by omega)
      rw [hx, Option.bind_eq_some_iff] at h1
      obtain ⟨cs, h2, h3⟩ := h1
      obtain ⟨_, hcl, hg⟩ := World.cells?_some h2
      obtain ⟨ns, hns, hnl, hni⟩ := trod_ints he hf hc h3
      refine ⟨dec ns, fun j u hu => ?_, ns, hnl, rfl, hni⟩
      rw [hdec ns hnl, ← hns] at hu
      have hj : j < fs.size := by have := (List.getElem?_eq_some_iff.1 hu).1; omega
      have := hg j hj
      rw [hu, addr_add, addr_add] at this
      exact this
    obtain ⟨l, hll, hr⟩ := list_pick hcell
    subst hll
    refine ⟨some ⟨b, off, none⟩, l, c0, rfl, hl, hm, fun hh => (by cases hh), fun i x hx => ?_, fun x hx => ?_⟩
    · have hcs := (hr i x hx).1
      obtain ⟨ns, hnl, rfl, _⟩ := (hr i x hx).2
      have hsome : ∃ u, (encA (dec ns))[0]? = some u := by
        rw [hdec ns hnl]; exact ⟨_, List.getElem?_eq_getElem (by simp; omega)⟩
      obtain ⟨u, hu⟩ := hsome
      exact ⟨b, off, rfl, World.block_lt_of_cell? w _ (hcs 0 u hu), fun j v hj => hcs j v hj⟩
    · obtain ⟨i, hi⟩ := List.mem_iff_getElem?.1 hx
      exact (hr i x hi).2
theorem okWide_array {w : World} {r : Reach} {base n : Nat} {t e : TypeId} {v : Value} (ht : P.underlying t = some (.array n e)) (h : Value.okWide P w r base t v) : ∃ cs, v = .agg cs := by
  simp only [Value.okWide, ht] at h
  cases v <;> first | exact ⟨_, rfl⟩ | (exfalso; simp at h)
/-- an array of numbers that came in as an argument -/
theorem open_array {w : World} {base : Nat} {spare : Nat → Bool} {held : Bool} {t e : TypeId} {k : IntKind} {n : Nat} {v : Value} {d : DataW H} {p : List MemPlace} (ht : P.underlying t = some (.array n e)) (he : P.underlying e = some (.int k)) (hc : P.cellsOf e = 1) (hct : P.cellsOf t = n)
    (hv : ∃ cs, v = .agg cs) (h : DataW.Trod enc P w base spare held t v d p) :
    ∃ ns : List Int, v = .agg (ns.map (Value.int k)).toArray ∧ ns.length = n ∧ ∀ z ∈ ns, (Lit.int k z).wf = true := by
  obtain ⟨⟨l⟩, rfl⟩ := hv
  obtain ⟨fuel, hf⟩ := h
  obtain ⟨xs, m, _, _, hlen, hxl, hel⟩ := DataW.trod_array ht (show DataW.trod enc P w base spare held fuel t l = some (d, p) from hf)
  rw [hct] at hlen
  have hk : ∀ i, i < n → ∃ z : Int, l[i]? = some (.int k z) ∧ (Lit.int k z).wf = true := fun i hi => by
    have := hel i hi
    rw [hc, Nat.mul_one, List.getElem?_eq_getElem (by omega)] at this
    obtain ⟨z, hcs, _, hwf⟩ := DataW.trod_int he this
    refine ⟨z, ?_, hwf⟩
    have h0 : ((l.drop i).take 1)[0]? = some (.int k z) := by rw [hcs]; rfl
    simpa using h0
  obtain ⟨ns, hnl, hr⟩ := list_pick hk
  refine ⟨ns, ?_, hnl, fun z hz => ?_⟩
  · congr 1
    have : l = ns.map (Value.int k) := by
      apply List.ext_getElem? 
      intro i
      by_cases hi : i < n
      · have hn : ns[i]? = some (ns[i]'(by omega)) := List.getElem?_eq_getElem (by omega)
        rw [(hr i _ hn).1, List.getElem?_map, hn]; rfl
      · rw [List.getElem?_eq_none (by omega), List.getElem?_eq_none (by simp; omega)]
    rw [this]
  · obtain ⟨i, hi⟩ := List.mem_iff_getElem?.1 hz
    exact (hr i z hi).2
end
end Go.Proofs.YtnkmngkinjjbfaaDoor
