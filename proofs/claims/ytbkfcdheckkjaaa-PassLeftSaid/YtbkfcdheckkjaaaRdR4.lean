/- The walks of the reference's check of a ride, fourth part: the ends are in order. -/
import Derived.Test.YtbkfcdheckkjaaaRdR3
set_option linter.all false
namespace Go.Proofs.Ytbkfcdheckkjaaa
open Go.RowKit

/-- mark i is in order -/
def markB (op : Bool) (s0 e0 : Int) (l : List Int) (i : Nat) : Bool :=
  (if i = 0 then decide (s0 ≤ at0 l 0) else decide (at0 l (i - 1) ≤ at0 l i)) && (op || decide (at0 l i ≤ e0))
def monoL (op : Bool) (e : Int) : Int → List Int → Bool
  | _, [] => true
  | last, x :: l => decide (last ≤ x) && (op || decide (x ≤ e)) && monoL op e x l
theorem monoL_all (op : Bool) (e : Int) : ∀ (l : List Int) (a : Int), monoL op e a l = true ↔ ∀ i, i < l.length → markB op a e l i = true
  | [], a => by simp [monoL]
  | x :: l, a => by
    rw [monoL, Bool.and_eq_true, monoL_all op e l x]
    constructor
    · rintro ⟨h1, h2⟩ i hi
      cases i with
      | zero => unfold markB; simpa [at0] using h1
      | succ i =>
        have := h2 i (by simpa using hi)
        unfold markB at this ⊢
        cases i with
        | zero => simpa [at0] using this
        | succ i => simpa [at0] using this
    · intro h
      refine ⟨by have := h 0 (by simp); unfold markB at this; simpa [at0] using this, fun i hi => ?_⟩
      have := h (i + 1) (by simpa using hi)
      unfold markB at this ⊢
      cases i with
      | zero => simpa [at0] using this
      | succ i => simpa [at0] using this
theorem marks_cons {op : Bool} {p q : Pse} {l : List Pse} : marksL op (p :: q :: l) = p.f0 :: p.t0 :: marksL op (q :: l) := by
  unfold marksL
  have h1 : lastZ (p :: q :: l) = lastZ (q :: l) := by unfold lastZ; rw [List.getLast?_cons_cons]
  rw [h1]
  split
  · have : (flatM (q :: l)) ≠ [] := by simp [flatM]
    show (p.f0 :: p.t0 :: flatM (q :: l)).dropLast = _
    rw [List.dropLast_cons_of_ne_nil (by simp), List.dropLast_cons_of_ne_nil this]
  · rfl
theorem marks_one (op : Bool) (p : Pse) : marksL op [p] = if op && decide (p.t0 = 0) then [p.f0] else [p.f0, p.t0] := by
  unfold marksL lastZ
  simp [flatM]
theorem pses_last : ∀ (l : List Pse) (a e : Int), psesO false e a l = true → a ≤ e
  | [], a, e, h => by simpa [psesO] using h
  | p :: l, a, e, h => by
    simp only [psesO, Bool.false_and, Bool.false_or, Bool.and_eq_true, decide_eq_true_eq] at h
    have := pses_last l p.t0 e h.2.2
    omega
/-- the two ways to say that the pauses are in order -/
theorem mono_pses (op : Bool) (e : Int) : ∀ (l : List Pse) (a : Int), l ≠ [] → monoL op e a (marksL op l) = psesO op e a l
  | [], _, h => (h rfl).elim
  | [p], a, _ => by
    rw [marks_one]
    cases op
    · simp only [Bool.false_and, Bool.false_eq_true, if_false, monoL, psesO, Bool.false_or, Bool.and_true]
      rw [Bool.eq_iff_iff]
      simp only [Bool.and_eq_true, decide_eq_true_eq]
      omega
    · by_cases h : p.t0 = 0
      · simp [monoL, psesO, h]
      · simp [monoL, psesO, h]
  | p :: q :: l, a, _ => by
    rw [marks_cons]
    have ih := mono_pses op e (q :: l) p.t0 (by simp)
    show (decide (a ≤ p.f0) && (op || decide (p.f0 ≤ e)) && (decide (p.f0 ≤ p.t0) && (op || decide (p.t0 ≤ e)) && monoL op e p.t0 (marksL op (q :: l)))) = (decide (a ≤ p.f0) && ((op && (q :: l).isEmpty && decide (p.t0 = 0)) || (decide (p.f0 ≤ p.t0) && psesO op e p.t0 (q :: l))))
    rw [ih]
    cases op
    · rw [Bool.eq_iff_iff]
      simp only [Bool.false_and, Bool.false_or, Bool.and_eq_true, decide_eq_true_eq]
      constructor
      · rintro ⟨⟨h1, h2⟩, ⟨h3, h4⟩, h5⟩; exact ⟨h1, h3, h5⟩
      · rintro ⟨h1, h3, h5⟩
        have := pses_last _ _ _ h5
        exact ⟨⟨h1, by omega⟩, ⟨h3, by omega⟩, h5⟩
    · simp
theorem marks_empty (op : Bool) : marksL op [] = [] := by unfold marksL; split <;> rfl
theorem ordered_iff (r : Ride) : orderedB r = true ↔ legsO r.op r.legs = true ∧ ∀ i, i < (marksL r.op r.pauses).length → markB r.op r.s0 r.e0 (marksL r.op r.pauses) i = true := by
  unfold orderedB
  rw [Bool.and_eq_true, ← monoL_all]
  cases h : r.pauses with
  | nil => simp [marks_empty, monoL]
  | cons p l => rw [mono_pses _ _ _ _ (by simp)]; simp
/-- the end of leg i is in order -/
def legB (op : Bool) (l : List Leg) (i : Nat) : Bool := match l[i]? with | some x => decide (x.f0 ≤ x.t0) || (op && decide (i + 1 = l.length)) | none => true
theorem legsO_all (op : Bool) : ∀ l : List Leg, legsO op l = true ↔ ∀ i, i < l.length → legB op l i = true
  | [] => by simp [legsO]
  | x :: l => by
    rw [legsO, Bool.and_eq_true, legsO_all op l]
    have he : l.isEmpty = decide (0 + 1 = (x :: l).length) := by rw [Bool.eq_iff_iff]; simp
    constructor
    · rintro ⟨h1, h2⟩ i hi
      cases i with
      | zero => unfold legB; rw [he] at h1; simpa using h1
      | succ i => have := h2 i (by simpa using hi); unfold legB at this ⊢; simpa using this
    · intro h
      refine ⟨by have := h 0 (by simp); unfold legB at this; rw [he]; simpa using this, fun i hi => ?_⟩
      have := h (i + 1) (by simpa using hi)
      unfold legB at this ⊢; simpa using this
end Go.Proofs.Ytbkfcdheckkjaaa
