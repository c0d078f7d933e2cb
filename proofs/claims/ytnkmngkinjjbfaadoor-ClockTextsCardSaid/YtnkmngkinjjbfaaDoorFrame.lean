/- The frame of a law's proof: opening arguments, the post of a call that returns true and turns nothing that was there: generic, no program in sight. -/
import Derived.Test.YtnkmngkinjjbfaaDoorLib
import Derived.ProofKit
import Derived.LaidMore
import Derived.OpenShut
import Derived.ShutString
import Derived.ChangeOld
import Derived.MakeChecks
set_option linter.all false
namespace Go.Proofs.YtnkmngkinjjbfaaDoor
open Go.ChangeShapes Go.WideShapes Go.ChangeAt Go.RowKit

section
variable {H : Type} {enc : TypeId × Value → H} {P : Program}

theorem trodAll_below (hl : laidOutB P = true) {W W' : World} (hb : Below W.heap.size W W') : ∀ (ts : List TypeId) (vs : List Value) (ds : List (DataW H)) (ps : List MemPlace),
    (ts.all fun t => P.readableRec t && decide (t < P.types.size)) = true → DataW.TrodAll enc P W 0 (fun _ => true) true ts vs ds ps → DataW.TrodAll enc P W' 0 (fun b => decide (b < W.heap.size)) true ts vs ds ps
  | [], vs, ds, ps, _, h => by
    obtain ⟨rfl, rfl, rfl⟩ := trodAll_nil h
    exact trodAll_mk0
  | t :: ts, vs, ds, ps, hr, h => by
    obtain ⟨v, vs', d, ds', p, q, rfl, rfl, rfl, h0, r0⟩ := trodAll_cons h
    simp only [List.all_cons, Bool.and_eq_true, decide_eq_true_eq] at hr
    have lt0 : ∀ x ∈ p, x.block < W.heap.size := by obtain ⟨m, hm⟩ := h0; exact DataW.trod_lt m _ _ _ hm
    exact trodAll_cons_mk (Below.trod hl hr.1.1 hr.1.2 h0 hb lt0) (trodAll_below hl hb ts vs' ds' q hr.2 r0)

/-- The post of a law: true; the input reads as it did. -/
theorem law_post {fn : Func} {s : ChangeSpec} {W W' : World} {args : Array Value} {ds gs : List (DataW H)} {before : List MemPlace} {e : Ending} {T : TypeId} (hl : laidOutB P = true)
    (hrd : (fn.params.toList.all fun t => P.readableRec t && decide (t < P.types.size)) = true) (hT : fn.resultTypes = #[T]) (hTb : P.underlying T = some .bool) (hvars : s.vars = [])
    (hW : DataW.Whole enc P fn.params.toList s.vars false W args.toList ds gs before) (hs : s.fn H (ds ++ gs) = { results := [.lit (.bool true)], args := ds }) (hy : e = .returned (.bool true) ∧ ∃ y : Since W, W' = y.w) :
    ∃ v, e = .returned v ∧ s.post enc P fn false true false false W args v W' := by
  obtain ⟨rfl, y, rfl⟩ := hy
  have hW' := hW
  obtain ⟨p, q, hA, hV, rfl, hfz, hnd⟩ := hW
  rw [hvars] at hV
  obtain ⟨rfl, rfl⟩ := trodVars_none hV
  refine ⟨_, rfl, ds, [], _, [], p, [], hW', ?_, ?_, ?_, y.b.frame _, fun h => by cases h⟩
  · rw [hs, hT]
    exact trodAll_mk1 (shut_bool hTb _)
  · rw [hs]
    exact trodAll_below hl y.b _ _ _ _ hrd hA
  · rw [hs, hvars]
    rfl

/-- a struct with one field of one cell -/
theorem open_one {w : World} {base : Nat} {b0 : Nat} {r : Reach} {spare : Nat → Bool} {held : Bool} {t : TypeId} {f : Field} {v : Value} {d : DataW H} {p : List MemPlace} (ht : P.underlying t = some (.struct #[f])) (hc : P.cellsOf t = 1) (hc' : P.cellsOf f.type = 1) (ho : f.offset = 0)
    (hv : Value.okWide P w r b0 t v) (h : DataW.Trod enc P w base spare held t v d p) : ∃ c n y, v = .agg #[c] ∧ DataW.trod enc P w base spare held n f.type [c] = some y := by
  obtain ⟨cs, rfl, hsz⟩ := okWide_struct ht hv
  obtain ⟨l⟩ := cs
  match l, hsz.trans hc with
  | [c], _ =>
    obtain ⟨fuel, hf⟩ := h
    obtain ⟨xs, n, _, _, _, hlen, hel⟩ := DataW.trod_struct ht hf
    have := hel 0 f rfl
    rw [ho, hc'] at this
    match xs, hlen with
    | [x], _ => exact ⟨c, n, x, rfl, by simpa [Value.cells] using this⟩

/-- a slice of numbers -/
theorem open_row {w : World} {base n : Nat} {spare : Nat → Bool} {held : Bool} {t e : TypeId} {k : IntKind} {c : Value} {y : DataW H × List MemPlace} (ht : P.underlying t = some (.slice e)) (he : P.underlying e = some (.int k)) (hc : P.cellsOf e = 1)
    (h : DataW.trod enc P w base spare held n t [c] = some y) :
    ∃ a l cap, c = .slice a l.length cap ∧ l.length ≤ cap ∧ cap ≤ 9223372036854775807 ∧ (Row w a l.length fun i => .int k (at0 l i)) ∧ ∀ z ∈ l, (Lit.int k z).wf = true := by
  rcases open_ints ht he hc h with ⟨hcs, _⟩ | ⟨x, len, cap, zs, hcs, _, hl, hm, hz, _, hcell, hwz⟩
  · simp at hcs; subst hcs
    exact ⟨none, [], 0, rfl, Nat.le_refl _, by decide, fun i hi => (by simp at hi), fun z hz => (by simp at hz)⟩
  · simp at hcs; subst hcs
    have hlz : len ≤ zs.length := by rw [hz]; split <;> omega
    have hlen : (zs.take len).length = len := by simp; omega
    refine ⟨some x, zs.take len, cap, by rw [hlen], by rw [hlen]; exact hl, hm, ?_, fun z hz => hwz z (List.mem_of_mem_take hz)⟩
    intro i hi
    rw [hlen] at hi
    obtain ⟨b, off, spot⟩ := x
    have hc0 := hcell i (by omega)
    have hs0 := hcell 0 (by omega)
    have hspot : spot = none := by simpa [Addr.add] using World.cell?_spot hs0
    subst hspot
    have hblk := World.block_lt_of_cell? w _ hc0
    have hadd : Addr.add ⟨b, off, none⟩ i = ⟨b, off + i, none⟩ := by
      unfold Addr.add; split
      · rename_i h; subst h; rfl
      · rfl
    rw [hadd] at hc0 hblk
    refine ⟨b, off, rfl, hblk, ?_⟩
    rw [hc0]
    have : zs.getD i 0 = at0 (zs.take len) i := by
      unfold at0; simp [List.getD_eq_getElem?_getD, hi]
    rw [this]
end

theorem at0_mem {l : List Int} {p : Int → Prop} (h0 : p 0) (h : ∀ z ∈ l, p z) (i : Nat) : p (at0 l i) := by
  unfold at0
  rw [List.getD_eq_getElem?_getD]
  cases hi : l[i]? with
  | none => exact h0
  | some z => exact h z (List.mem_of_getElem? hi)
theorem wf_i64 {n : Int} (h : (Lit.int .i64 n).wf = true) : I64 n := by
  have h1 : (decide ((-9223372036854775808 : Int) ≤ n) && decide (n ≤ 9223372036854775807)) = true := h
  simpa [I64] using h1
theorem wf_u64 {n : Int} (h : (Lit.int .u64 n).wf = true) : 0 ≤ n ∧ n < 18446744073709551616 := by
  have h1 : (decide ((0 : Int) ≤ n) && decide (n ≤ 18446744073709551615)) = true := h
  simp at h1
  omega
end Go.Proofs.YtnkmngkinjjbfaaDoor
