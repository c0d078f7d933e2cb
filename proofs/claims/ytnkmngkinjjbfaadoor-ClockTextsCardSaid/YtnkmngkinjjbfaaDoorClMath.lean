/- Common parts and differences of lists of windows, as they are made: plain mathematics, no program in sight. -/
import Derived.Test.YtnkmngkinjjbfaaDoorClSpec
set_option linter.all false
namespace Go.Proofs.YtnkmngkinjjbfaaDoor
open Go.RowKit

/-- the common part of two windows -/
def cutW (a b : Win) : Win := ⟨max a.f b.f, min a.t b.t⟩
theorem inW_cut (a b : Win) (t : Int) : inW t (cutW a b) = (inW t a && inW t b) := by
  rw [Bool.eq_iff_iff, Bool.and_eq_true, inW_iff, inW_iff, inW_iff]
  show max a.f b.f ≤ t ∧ t < min a.t b.t ↔ _
  omega
theorem inW_no {x : Win} (h : ¬ x.f < x.t) (t : Int) : inW t x = false := by
  cases hi : inW t x
  · rfl
  · have := (inW_iff _ _).1 hi; omega
/-- w is put behind a list unless it is empty -/
def addW (out : List Win) (w : Win) : List Win := if w.f < w.t then out ++ [w] else out
theorem addW_yes {out : List Win} {w : Win} (h : w.f < w.t) : addW out w = out ++ [w] := if_pos h
theorem addW_no {out : List Win} {w : Win} (h : ¬ w.f < w.t) : addW out w = out := if_neg h
theorem hasW_add (out : List Win) (w : Win) (t : Int) : hasW (addW out w) t = (hasW out t || inW t w) := by
  unfold addW
  split
  · rw [hasW_append, hasW_one]
  · rename_i h; rw [inW_no h, Bool.or_false]
theorem norm_add {out : List Win} {w : Win} (h : Norm out) (h1 : 0 ≤ w.f) (h2 : w.t ≤ 4294944000) (hs : ∀ v ∈ out, v.t < w.f) : Norm (addW out w) := by
  unfold addW
  split
  · rename_i h3; exact h.snoc ⟨h1, h3, h2⟩ hs
  · exact h
theorem mem_add {out : List Win} {w v : Win} (h : v ∈ addW out w) : v ∈ out ∨ v = w := by
  unfold addW at h
  split at h
  · rcases List.mem_append.1 h with h | h
    · exact .inl h
    · simp at h; exact .inr h
  · exact .inl h
theorem norm_before {x : Win} {l : List Win} (h : Norm (x :: l)) {t : Int} (ht : t ≤ x.t) : hasW l t = false := by
  cases hh : hasW l t
  · rfl
  · obtain ⟨z, hz, h1, h2⟩ := hasW_iff.1 hh
    have := h.hd z hz; omega

/-- two lists are walked together: x and y are what is left of X and Y -/
structure Com (X Y x y out : List Win) : Prop where
  n : Norm out
  h : ∀ t, (hasW X t && hasW Y t) = (hasW out t || (hasW x t && hasW y t))
  s : ∀ v ∈ out, ∀ a ∈ x, ∀ b ∈ y, v.t < max a.f b.f
  nx : Norm x
  ny : Norm y
theorem com_start {X Y : List Win} (hX : Norm X) (hY : Norm Y) : Com X Y X Y [] :=
  ⟨norm_nil, fun t => by rw [hasW_nil, Bool.false_or], fun v h => (by cases h), hX, hY⟩
theorem Com.done {X Y x y out : List Win} (h : Com X Y x y out) (he : x = [] ∨ y = []) : IsSet out (fun t => hasW X t && hasW Y t) :=
  ⟨h.n, fun t => by
    rw [h.h t]
    rcases he with rfl | rfl
    · rw [hasW_nil, Bool.false_and, Bool.or_false]
    · rw [hasW_nil, Bool.and_false, Bool.or_false]⟩
theorem Com.both {X Y x y out : List Win} {a b : Win} (h : Com X Y (a :: x) (b :: y) out) : Norm (addW out (cutW a b)) := by
  have ha := h.nx.v a (by simp)
  have hb := h.ny.v b (by simp)
  exact norm_add h.n (by show 0 ≤ max a.f b.f; omega) (by show min a.t b.t ≤ _; omega) fun v hv => h.s v hv a (by simp) b (by simp)
theorem Com.left {X Y x y out : List Win} {a b : Win} (h : Com X Y (a :: x) (b :: y) out) (hlt : a.t < b.t) : Com X Y x (b :: y) (addW out (cutW a b)) := by
  refine ⟨h.both, fun t => ?_, fun v hv a' ha' b' hb' => ?_, h.nx.tail, h.ny⟩
  · rw [h.h t, hasW_add, inW_cut, hasW_cons a x]
    cases ha : inW t a
    · simp
    · have h1 := (inW_iff _ _).1 ha
      have h2 : hasW y t = false := norm_before h.ny (by omega)
      rw [hasW_cons b y, h2]
      cases inW t b <;> simp
  · rcases mem_add hv with hv | rfl
    · exact h.s v hv a' (by simp [ha']) b' hb'
    · have := h.nx.hd a' ha'
      show min a.t b.t < _
      omega
theorem Com.right {X Y x y out : List Win} {a b : Win} (h : Com X Y (a :: x) (b :: y) out) (hle : b.t ≤ a.t) : Com X Y (a :: x) y (addW out (cutW a b)) := by
  refine ⟨h.both, fun t => ?_, fun v hv a' ha' b' hb' => ?_, h.nx, h.ny.tail⟩
  · rw [h.h t, hasW_add, inW_cut, hasW_cons b y]
    cases hb : inW t b
    · simp
    · have h1 := (inW_iff _ _).1 hb
      have h2 : hasW x t = false := norm_before h.nx (by omega)
      rw [hasW_cons a x, h2]
      cases inW t a <;> simp
  · rcases mem_add hv with hv | rfl
    · exact h.s v hv a' ha' b' (by simp [hb'])
    · have := h.ny.hd b' hb'
      show min a.t b.t < _
      omega
/-- all pairs: window a against those of V, vd have been seen, vr are left -/
structure ComI (P : Int → Bool) (a : Win) (vd vr out : List Win) : Prop where
  n : Norm out
  h : ∀ t, hasW out t = (P t || (inW t a && hasW vd t))
  s : ∀ v ∈ out, v.t < a.f ∨ ((∀ b ∈ vr, v.t < b.f) ∧ v.t ≤ a.t)
theorem ComI.step {P : Int → Bool} {a b : Win} {vd vr out : List Win} (h : ComI P a vd (b :: vr) out) (ha : 0 ≤ a.f ∧ a.t ≤ 4294944000) (hV : Norm (b :: vr)) : ComI P a (vd ++ [b]) vr (addW out (cutW a b)) := by
  refine ⟨norm_add h.n (by show 0 ≤ max a.f b.f; omega) (by show min a.t b.t ≤ _; omega) fun v hv => ?_, fun t => ?_, fun v hv => ?_⟩
  · show v.t < max a.f b.f
    rcases h.s v hv with h1 | ⟨h1, _⟩
    · omega
    · have := h1 b (by simp); omega
  · rw [hasW_add, h.h, inW_cut, hasW_append, hasW_one]
    cases P t <;> cases inW t a <;> cases hasW vd t <;> simp
  · rcases mem_add hv with hv | rfl
    · rcases h.s v hv with h1 | ⟨h1, h2⟩
      · exact .inl h1
      · exact .inr ⟨fun c hc => h1 c (by simp [hc]), h2⟩
    · refine .inr ⟨fun c hc => ?_, by show min a.t b.t ≤ _; omega⟩
      have := hV.hd c hc
      show min a.t b.t < _
      omega
structure ComO (V ud ur out : List Win) : Prop where
  n : Norm out
  h : ∀ t, hasW out t = (hasW ud t && hasW V t)
  s : ∀ v ∈ out, ∀ a ∈ ur, v.t < a.f
theorem comO_start (V U : List Win) : ComO V [] U [] := ⟨norm_nil, fun t => by rw [hasW_nil]; rfl, fun v h => (by cases h)⟩
theorem ComO.enter {V ud ur out : List Win} {a : Win} (h : ComO V ud (a :: ur) out) : ComI (fun t => hasW ud t && hasW V t) a [] V out :=
  ⟨h.n, fun t => by rw [h.h, hasW_nil, Bool.and_false, Bool.or_false], fun v hv => .inl (h.s v hv a (by simp))⟩
theorem ComI.leave {V ud ur out : List Win} {a : Win} (h : ComI (fun t => hasW ud t && hasW V t) a V [] out) (hU : Norm (a :: ur)) : ComO V (ud ++ [a]) ur out := by
  refine ⟨h.n, fun t => ?_, fun v hv c hc => ?_⟩
  · rw [h.h, hasW_append, hasW_one]
    cases hasW ud t <;> cases inW t a <;> cases hasW V t <;> simp
  · have h1 := hU.hd c hc
    have h2 := hU.v a (by simp)
    rcases h.s v hv with h3 | ⟨_, h3⟩ <;> omega
theorem ComO.set {V U out : List Win} (h : ComO V U [] out) : IsSet out (fun t => hasW U t && hasW V t) := ⟨h.n, h.h⟩

/-- window w without the moments B: what is before 'at' is done -/
structure MinI (P B : Int → Bool) (w : Win) (at_ : Int) (out : List Win) : Prop where
  n : Norm out
  h : ∀ t, hasW out t = (P t || (decide (w.f ≤ t) && decide (t < min at_ w.t) && !B t))
  s : ∀ v ∈ out, v.t < at_ ∧ v.t ≤ w.t
  c : w.f ≤ at_
/-- the holes are done with, or do not reach the window -/
def Past (w : Win) (at_ : Int) (l : List Win) : Prop := ∀ c ∈ l, c.t ≤ at_ ∨ w.t ≤ c.f
theorem Past.mono {w : Win} {a b : Int} {l : List Win} (h : Past w a l) (hab : a ≤ b) : Past w b l := fun c hc => by
  rcases h c hc with h1 | h1
  · exact .inl (by omega)
  · exact .inr h1
theorem Past.snoc {w : Win} {a : Int} {l : List Win} {b : Win} (h : Past w a l) (hb : b.t ≤ a ∨ w.t ≤ b.f) : Past w a (l ++ [b]) := fun c hc => by
  rcases List.mem_append.1 hc with h1 | h1
  · exact h c h1
  · simp at h1; subst h1; exact hb
/-- no hole between 'at' and the next one -/
theorem past_free {w : Win} {at_ t : Int} {vd vr : List Win} (hp : Past w at_ vd) (h1 : at_ ≤ t) (h2 : t < w.t) (h3 : ∀ c ∈ vr, t < c.f) : hasW (vd ++ vr) t = false := by
  cases hh : hasW (vd ++ vr) t
  · rfl
  · obtain ⟨z, hz, z1, z2⟩ := hasW_iff.1 hh
    rcases List.mem_append.1 hz with hz | hz
    · rcases hp z hz with h4 | h4 <;> omega
    · have := h3 z hz; omega
theorem MinI.hole {P : Int → Bool} {w b : Win} {at_ : Int} {vd vr out : List Win} (h : MinI P (hasW (vd ++ b :: vr)) w at_ out) (hp : Past w at_ vd) (hw : 0 ≤ w.f ∧ w.t ≤ 4294944000) (hV : Norm (b :: vr)) (h1 : b.f < w.t) : MinI P (hasW (vd ++ b :: vr)) w (max at_ b.t) (addW out ⟨at_, b.f⟩) ∧ Past w (max at_ b.t) (vd ++ [b]) := by
  have hb := hV.v b (by simp)
  refine ⟨⟨norm_add h.n (by have := h.c; show 0 ≤ at_; omega) (by show b.f ≤ _; omega) fun v hv => (h.s v hv).1, fun t => ?_, fun v hv => ?_, by have := h.c; omega⟩, (hp.mono (by omega)).snoc (.inl (by omega))⟩
  · rw [hasW_add, h.h]
    have key : inW t ⟨at_, b.f⟩ = (decide (at_ ≤ t) && decide (t < min (max at_ b.t) w.t) && !hasW (vd ++ b :: vr) t) := by
      rw [Bool.eq_iff_iff, inW_iff]
      simp only [Bool.and_eq_true, decide_eq_true_eq, Bool.not_eq_true']
      constructor
      · rintro ⟨k1, k2⟩
        have k2' : t < b.f := k2
        have k1' : at_ ≤ t := k1
        refine ⟨⟨k1', by omega⟩, past_free hp k1' (by omega) fun c hc => ?_⟩
        rcases List.mem_cons.1 hc with rfl | hc
        · exact k2'
        · have := hV.hd c hc; omega
      · rintro ⟨⟨k1, k2⟩, k3⟩
        refine ⟨k1, ?_⟩
        show t < b.f
        rcases Int.lt_or_le t b.f with k4 | k4
        · exact k4
        · exfalso
          have : hasW (vd ++ b :: vr) t = true := hasW_iff.2 ⟨b, by simp, k4, by omega⟩
          rw [this] at k3; cases k3
    rw [key]
    have hc := h.c
    by_cases k : at_ ≤ t
    · rw [decide_eq_true k, decide_eq_true (show w.f ≤ t by omega)]
      have k2 : ¬ t < min at_ w.t := by omega
      rw [decide_eq_false k2]
      cases P t <;> simp
    · rw [decide_eq_false k]
      have k2 : decide (t < min at_ w.t) = decide (t < min (max at_ b.t) w.t) := by rw [decide_eq_decide]; omega
      rw [k2]
      cases P t <;> simp
  · rcases mem_add hv with hv | rfl
    · have := h.s v hv; omega
    · show b.f < _ ∧ b.f ≤ _
      omega
theorem MinI.fin {P : Int → Bool} {w : Win} {at_ : Int} {V out : List Win} (h : MinI P (hasW V) w at_ out) (hp : Past w at_ V) (hw : 0 ≤ w.f ∧ w.t ≤ 4294944000) : Norm (addW out ⟨at_, w.t⟩) ∧ (∀ t, hasW (addW out ⟨at_, w.t⟩) t = (P t || (inW t w && !hasW V t))) ∧ ∀ v ∈ addW out ⟨at_, w.t⟩, v.t ≤ w.t := by
  refine ⟨norm_add h.n (by have := h.c; show 0 ≤ at_; omega) (by exact hw.2) fun v hv => (h.s v hv).1, fun t => ?_, fun v hv => ?_⟩
  · rw [hasW_add, h.h]
    have hc := h.c
    have hi : inW t w = (decide (w.f ≤ t) && decide (t < w.t)) := rfl
    have hj : inW t ⟨at_, w.t⟩ = (decide (at_ ≤ t) && decide (t < w.t)) := rfl
    rw [hi, hj]
    by_cases k : at_ ≤ t
    · by_cases k2 : t < w.t
      · have hf := past_free (vr := []) hp k k2 (fun c hc => by cases hc)
        rw [List.append_nil] at hf
        rw [hf, decide_eq_true k, decide_eq_true k2, decide_eq_true (show w.f ≤ t by omega)]
        cases P t <;> simp
      · rw [decide_eq_false k2, decide_eq_false (show ¬ t < min at_ w.t by omega)]
        cases P t <;> simp
    · rw [decide_eq_false k, show decide (t < min at_ w.t) = decide (t < w.t) by rw [decide_eq_decide]; omega]
      cases P t <;> simp
  · rcases mem_add hv with hv | rfl
    · exact (h.s v hv).2
    · exact Int.le_refl _
structure MinO (V ud ur out : List Win) : Prop where
  n : Norm out
  h : ∀ t, hasW out t = (hasW ud t && !hasW V t)
  s : ∀ v ∈ out, ∀ a ∈ ur, v.t < a.f
theorem minO_start (V U : List Win) : MinO V [] U [] := ⟨norm_nil, fun t => by rw [hasW_nil]; rfl, fun v h => (by cases h)⟩
theorem MinO.enter {V ud ur out : List Win} {w : Win} (h : MinO V ud (w :: ur) out) (hw : w.f < w.t) : MinI (fun t => hasW ud t && !hasW V t) (hasW V) w w.f out := by
  refine ⟨h.n, fun t => ?_, fun v hv => ?_, Int.le_refl _⟩
  · rw [h.h]
    have : (decide (w.f ≤ t) && decide (t < min w.f w.t)) = false := by
      rw [Bool.and_eq_false_iff, decide_eq_false_iff_not, decide_eq_false_iff_not]; omega
    rw [this, Bool.false_and, Bool.or_false]
  · have := h.s v hv w (by simp); omega
theorem MinI.leave {V ud ur out : List Win} {w : Win} {at_ : Int} (h : MinI (fun t => hasW ud t && !hasW V t) (hasW V) w at_ out) (hp : Past w at_ V) (hU : Norm (w :: ur)) : MinO V (ud ++ [w]) ur (addW out ⟨at_, w.t⟩) := by
  have hw := hU.v w (by simp)
  obtain ⟨h1, h2, h3⟩ := h.fin hp ⟨hw.1, hw.2.2⟩
  refine ⟨h1, fun t => ?_, fun v hv a ha => ?_⟩
  · rw [h2, hasW_append, hasW_one]
    cases hasW ud t <;> cases inW t w <;> cases hasW V t <;> simp
  · have := h3 v hv
    have := hU.hd a ha
    omega
theorem MinO.set {V U out : List Win} (h : MinO V U [] out) : IsSet out (fun t => hasW U t && !hasW V t) := ⟨h.n, h.h⟩
end Go.Proofs.YtnkmngkinjjbfaaDoor
