/- Common parts and differences of lists of windows, as they are made: plain mathematics, no program in sight. -/
import Derived.Test.YtefodfpnedcodaaIvMb
import Derived.Deep.QuietTactic
import Derived.BigQuiet
import Derived.Shelf.SlSortCmp.NoneTotal
import Derived.Test.YtefodfpnedcodaaProg
import Derived.Deep.RegionHeld3
import Derived.OwnWalk
set_option linter.all false
namespace Go.Proofs.Ytefodfpnedcodaa
open Go.RowKit

/-- the common part of two windows -/
def cutW (a b : Win) : Win := ⟨max a.f b.f, min a.t b.t⟩
theorem inW_cut (a b : Win) (t : Int) : inW t (cutW a b) = (inW t a && inW t b) := by
  rw [Bool.eq_iff_iff, Bool.and_eq_true, inW_iff, inW_iff, inW_iff]
  show max a.f b.f ≤ t ∧ t < min a.t b.t ↔ _
  omega
theorem inW_no {x : Win} (h : ¬ x.f < x.t) (t : Int) : inW t x = false := by
  cases hi : inW t x
  · rfl
  · have := (inW_iff _ _).1 hi; omega
/-- w is put behind a list unless it is empty -/
def addW (out : List Win) (w : Win) : List Win := if w.f < w.t then out ++ [w] else out
theorem addW_yes {out : List Win} {w : Win} (h : w.f < w.t) : addW out w = out ++ [w] := if_pos h
theorem addW_no {out : List Win} {w : Win} (h : ¬ w.f < w.t) : addW out w = out := if_neg h
theorem hasW_add (out : List Win) (w : Win) (t : Int) : hasW (addW out w) t = (hasW out t || inW t w) := by
  unfold addW
  split
  · rw [hasW_append, hasW_one]
  · rename_i h; rw [inW_no h, Bool.or_false]
theorem norm_add {out : List Win} {w : Win} (h : Norm out) (h1 : 0 ≤ w.f) (h2 : w.t ≤ 4294944000) (hs : ∀ v ∈ out, v.t < w.f) : Norm (addW out w) := by
  unfold addW
  split
  · rename_i h3; exact h.snoc ⟨h1, h3, h2⟩ hs
  · exact h
theorem mem_add {out : List Win} {w v : Win} (h : v ∈ addW out w) : v ∈ out ∨ v = w := by
  unfold addW at h
  split at h
  · rcases List.mem_append.1 h with h | h
    · exact .inl h
    · simp at h; exact .inr h
  · exact .inl h
theorem norm_before {x : Win} {l : List Win} (h : Norm (x :: l)) {t : Int} (ht : t ≤ x.t) : hasW l t = false := by
  cases hh : hasW l t
  · rfl
  · obtain ⟨z, hz, h1, h2⟩ := hasW_iff.1 hh
    have := h.hd z hz; omega

/-- two lists are walked together: x and y are what is left of X and Y -/
structure Com (X Y x y out : List Win) : Prop where
  n : Norm out
  h : ∀ t, (hasW X t && hasW Y t) = (hasW out t || (hasW x t && hasW y t))
  s : ∀ v ∈ out, ∀ a ∈ x, ∀ b ∈ y, v.t < max a.f b.f
  nx : Norm x
  ny : Norm y
theorem com_start {X Y : List Win} (hX : Norm X) (hY : Norm Y) : Com X Y X Y [] :=
  ⟨norm_nil, fun t => by rw [hasW_nil, Bool.false_or], fun v h => (by cases h), hX, hY⟩
theorem Com.done {X Y x y out : List Win} (h : Com X Y x y out) (he : x = [] ∨ y = []) : IsSet out (fun t => hasW X t && hasW Y t) :=
  ⟨h.n, fun t => by
    rw [h.h t]
    rcases he with rfl | rfl
    · rw [hasW_nil, Bool.false_and, Bool.or_false]
    · rw [hasW_nil, Bool.and_false, Bool.or_false]⟩
theorem Com.both {X Y x y out : List Win} {a b : Win} (h : Com X Y (a :: x) (b :: y) out) : Norm (addW out (cutW a b)) := by
  have ha := h.nx.v a (by simp)
  have hb := h.ny.v b (by simp)
  exact norm_add h.n (by show 0 ≤ max a.f b.f; omega) (by show min a.t b.t ≤ _; omega) fun v hv => h.s v hv a (by simp) b (by simp)
theorem Com.left {X Y x y out : List Win} {a b : Win} (h : Com X Y (a :: x) (b :: y) out) (hlt : a.t < b.t) : Com X Y x (b :: y) (addW out (cutW a b)) := by
  refine ⟨h.both, fun t => ?_, fun v hv a' ha' b' hb' => ?_, h.nx.tail, h.ny⟩
  · rw [h.h t, hasW_add, inW_cut, hasW_cons a x]
    cases ha : inW t a
    · simp
    · have h1 := (inW_iff _ _).1 ha
      have h2 : hasW y t = false := norm_before h.ny (by omega)
      rw [hasW_cons b y, h2]
      cases inW t b <;> simp
  · rcases mem_add hv with hv | rfl
    · exact h.s v hv a' (by simp [ha']) b' hb'
    · have := h.nx.hd a' ha'
      show min a.t b.t < _
      omega
theorem Com.right {X Y x y out : List Win} {a b : Win} (h : Com X Y (a :: x) (b :: y) out) (hle : b.t ≤ a.t) : Com X Y (a :: x) y (addW out (cutW a b)) := by
  refine ⟨h.both, fun t => ?_, fun v hv a' ha' b' hb' => ?_, h.nx, h.ny.tail⟩
  · rw [h.h t, hasW_add, inW_cut, hasW_cons b y]
    cases hb : inW t b
    · simp
    · have h1 := (inW_iff _ _).1 hb
      have h2 : hasW x t = false := norm_before h.nx (by omega)
      rw [hasW_cons a x, h2]
      cases inW t a <;> simp
  · rcases mem_add hv with hv | rfl
    · exact h.s v hv a' ha' b' (by simp [hb'])
    · have := h.ny.hd b' hb'
      show min a.t b.t < _
      omega
/-- all pairs: window a against those of V, vd have been seen, vr are left -/
structure ComI (P : Int → Bool) (a : Win) (vd vr out : List Win) : Prop where
  n : Norm out
  h : ∀ t, hasW out t = (P t || (inW t a && hasW vd t))
  s : ∀ v ∈ out, v.t < a.f ∨ ((∀ b ∈ vr, v.t < b.f) ∧ v.t ≤ a.t)
theorem ComI.step {P : Int → Bool} {a b : Win} {vd vr out : List Win} (h : ComI P a vd (b :: vr) out) (ha : 0 ≤ a.f ∧ a.t ≤ 4294944000) (hV : Norm (b :: vr)) : ComI P a (vd ++ [b]) vr (addW out (cutW a b)) := by
  refine ⟨norm_add h.n (by show 0 ≤ max a.f b.f; omega) (by show min a.t b.t ≤ _; omega) fun v hv => ?_, fun t => ?_, fun v hv => ?_⟩
  · show v.t < max a.f b.f
    rcases h.s v hv with h1 | ⟨h1, _⟩
    · omega
    · have := h1 b (by simp); omega
  · rw [hasW_add, h.h, inW_cut, hasW_append, hasW_one]
    cases P t <;> cases inW t a <;> cases hasW vd t <;> simp
  · rcases mem_add hv with hv | rfl
    · rcases h.s v hv with h1 | ⟨h1, h2⟩
      · exact .inl h1
      · exact .inr ⟨fun c hc => h1 c (by simp [hc]), h2⟩
    · refine .inr ⟨fun c hc => ?_, by show min a.t b.t ≤ _; omega⟩
      have := hV.hd c hc
      show min a.t b.t < _
      omega
structure ComO (V ud ur out : List Win) : Prop where
  n : Norm out
  h : ∀ t, hasW out t = (hasW ud t && hasW V t)
  s : ∀ v ∈ out, ∀ a ∈ ur, v.t < a.f
theorem comO_start (V U : List Win) : ComO V [] U [] := ⟨norm_nil, fun t => by rw [hasW_nil]; rfl, fun v h => (by cases h)⟩
theorem ComO.enter {V ud ur out : List Win} {a : Win} (h : ComO V ud (a :: ur) out) : ComI (fun t => hasW ud t && hasW V t) a [] V out :=
  ⟨h.n, fun t => by rw [h.h, hasW_nil, Bool.and_false, Bool.or_false], fun v hv => .inl (h.s v hv a (by simp))⟩
theorem ComI.leave {V ud ur out : List Win} {a : Win} (h : ComI (fun t => hasW ud t && hasW V t) a V [] out) (hU : Norm (a :: ur)) : ComO V (ud ++ [a]) ur out := by
  refine ⟨h.n, fun t => ?_, fun v hv c hc => ?_⟩
  · rw [h.h, hasW_append, hasW_one]
    cases hasW ud t <;> cases inW t a <;> cases hasW V t <;> simp
  · have h1 := hU.hd c hc
    have h2 := hU.v a (by simp)
    rcases h.s v hv with h3 | ⟨_, h3⟩ <;> omega
theorem ComO.set {V U out : List Win} (h : ComO V U [] out) : IsSet out (fun t => hasW U t && hasW V t) := ⟨h.n, h.h⟩

/-- window w without the moments B: what is before 'at' is done -/
structure MinI (P B : Int → Bool) (w : Win) (at_ : Int) (out : List Win) : Prop where
  n : Norm out
  h : ∀ t, hasW out t = (P t || (decide (w.f ≤ t) && decide (t < min at_ w.t) && !B t))
  s : ∀ v ∈ out, v.t < at_ ∧ v.t ≤ w.t
  c : w.f ≤ at_
/-- the holes are done with, or do not reach the window -/
def Past (w : Win) (at_ : Int) (l : List Win) : Prop := ∀ c ∈ l, c.t ≤ at_ ∨ w.t ≤ c.f
theorem Past.mono {w : Win} {a b : Int} {l : List Win} (h : Past w a l) (hab : a ≤ b) : Past w b l := fun c hc => by
  rcases h c hc with h1 | h1
  · exact .inl (by omega)
  · exact .inr h1
theorem Past.snoc {w : Win} {a : Int} {l : List Win} {b : Win} (h : Past w a l) (hb : b.t ≤ a ∨ w.t ≤ b.f) : Past w a (l ++ [b]) := fun c hc => by
  rcases List.mem_append.1 hc with h1 | h1
  · exact h c h1
  · simp at h1; subst h1; exact hb
/-- no hole between 'at' and the next one -/
theorem past_free {w : Win} {at_ t : Int} {vd vr : List Win} (hp : Past w at_ vd) (h1 : at_ ≤ t) (h2 : t < w.t) (h3 : ∀ c ∈ vr, t < c.f) : hasW (vd ++ vr) t = false := by
  cases hh : hasW (vd ++ vr) t
  · rfl
  · obtain ⟨z, hz, z1, z2⟩ := hasW_iff.1 hh
    rcases List.mem_append.1 hz with hz | hz
    · rcases hp z hz with h4 | h4 <;> omega
    · have := h3 z hz; omega
theorem MinI.hole {P : Int → Bool} {w b : Win} {at_ : Int} {vd vr out : List Win} (h : MinI P (hasW (vd ++ b :: vr)) w at_ out) (hp : Past w at_ vd) (hw : 0 ≤ w.f ∧ w.t ≤ 4294944000) (hV : Norm (b :: vr)) (h1 : b.f < w.t) : MinI P (hasW (vd ++ b :: vr)) w (max at_ b.t) (addW out ⟨at_, b.f⟩) ∧ Past w (max at_ b.t) (vd ++ [b]) := by
  have hb := hV.v b (by simp)
  refine ⟨⟨norm_add h.n (by have := h.c; show 0 ≤ at_; omega) (by show b.f ≤ _; omega) fun v hv => (h.s v hv).1, fun t => ?_, fun v hv => ?_, by have := h.c; omega⟩, (hp.mono (by omega)).snoc (.inl (by omega))⟩
  · rw [hasW_add, h.h]
    have key : inW t ⟨at_, b.f⟩ = (decide (at_ ≤ t) && decide (t < min (max at_ b.t) w.t) && !hasW (vd ++ b :: vr) t) := by
      rw [Bool.eq_iff_iff, inW_iff]
      simp only [Bool.and_eq_true, decide_eq_true_eq, Bool.not_eq_true']
      constructor
      · rintro ⟨k1, k2⟩
        have k2' : t < b.f := k2
        have k1' : at_ ≤ t := k1
        refine ⟨⟨k1', by omega⟩, past_free hp k1' (by omega) fun c hc => ?_⟩
        rcases List.mem_cons.1 hc with rfl | hc
        · exact k2'
        · have := hV.hd c hc; omega
      · rintro ⟨⟨k1, k2⟩, k3⟩
        refine ⟨k1, ?_⟩
        show t < b.f
        rcases Int.lt_or_le t b.f with k4 | k4
        · exact k4
        · exfalso
          have : hasW (vd ++ b :: vr) t = true := hasW_iff.2 ⟨b, by simp, k4, by omega⟩
          rw [this] at k3; cases k3
    rw [key]
    have hc := h.c
    by_cases k : at_ ≤ t
    · rw [decide_eq_true k, decide_eq_true (show w.f ≤ t by omega)]
      have k2 : ¬ t < min at_ w.t := by omega
      rw [decide_eq_false k2]
      cases P t <;> simp
    · rw [decide_eq_false k]
      have k2 : decide (t < min at_ w.t) = decide (t < min (max at_ b.t) w.t) := by rw [decide_eq_decide]; omega
      rw [k2]
      cases P t <;> simp
  · rcases mem_add hv with hv | rfl
    · have := h.s v hv; omega
    · show b.f < _ ∧ b.f ≤ _
      omega
theorem MinI.fin {P : Int → Bool} {w : Win} {at_ : Int} {V out : List Win} (h : MinI P (hasW V) w at_ out) (hp : Past w at_ V) (hw : 0 ≤ w.f ∧ w.t ≤ 4294944000) : Norm (addW out ⟨at_, w.t⟩) ∧ (∀ t, hasW (addW out ⟨at_, w.t⟩) t = (P t || (inW t w && !hasW V t))) ∧ ∀ v ∈ addW out ⟨at_, w.t⟩, v.t ≤ w.t := by
  refine ⟨norm_add h.n (by have := h.c; show 0 ≤ at_; omega) (by exact hw.2) fun v hv => (h.s v hv).1, fun t => ?_, fun v hv => ?_⟩
  · rw [hasW_add, h.h]
    have hc := h.c
    have hi : inW t w = (decide (w.f ≤ t) && decide (t < w.t)) := rfl
    have hj : inW t ⟨at_, w.t⟩ = (decide (at_ ≤ t) && decide (t < w.t)) := rfl
    rw [hi, hj]
    by_cases k : at_ ≤ t
    · by_cases k2 : t < w.t
      · have hf := past_free (vr := []) hp k k2 (fun c hc => by cases hc)
        rw [List.append_nil] at hf
        rw [hf, decide_eq_true k, decide_eq_true k2, decide_eq_true (show w.f ≤ t by omega)]
        cases P t <;> simp
      · rw [decide_eq_false k2, decide_eq_false (show ¬ t < min at_ w.t by omega)]
        cases P t <;> simp
    · rw [decide_eq_false k, show decide (t < min at_ w.t) = decide (t < w.t) by rw [decide_eq_decide]; omega]
      cases P t <;> simp
  · rcases mem_add hv with hv | rfl
    · exact (h.s v hv).2
    · exact Int.le_refl _
structure MinO (V ud ur out : List Win) : Prop where
  n : Norm out
  h : ∀ t, hasW out t = (hasW ud t && !hasW V t)
  s : ∀ v ∈ out, ∀ a ∈ ur, v.t < a.f
theorem minO_start (V U : List Win) : MinO V [] U [] := ⟨norm_nil, fun t => by rw [hasW_nil]; rfl, fun v h => (by cases h)⟩
theorem MinO.enter {V ud ur out : List Win} {w : Win} (h : MinO V ud (w :: ur) out) (hw : w.f < w.t) : MinI (fun t => hasW ud t && !hasW V t) (hasW V) w w.f out := by
  refine ⟨h.n, fun t => ?_, fun v hv => ?_, Int.le_refl _⟩
  · rw [h.h]
    have : (decide (w.f ≤ t) && decide (t < min w.f w.t)) = false := by
      rw [Bool.and_eq_false_iff, decide_eq_false_iff_not, decide_eq_false_iff_not]; omega
    rw [this, Bool.false_and, Bool.or_false]
  · have := h.s v hv w (by simp); omega
theorem MinI.leave {V ud ur out : List Win} {w : Win} {at_ : Int} (h : MinI (fun t => hasW ud t && !hasW V t) (hasW V) w at_ out) (hp : Past w at_ V) (hU : Norm (w :: ur)) : MinO V (ud ++ [w]) ur (addW out ⟨at_, w.t⟩) := by
  have hw := hU.v w (by simp)
  obtain ⟨h1, h2, h3⟩ := h.fin hp ⟨hw.1, hw.2.2⟩
  refine ⟨h1, fun t => ?_, fun v hv a ha => ?_⟩
  · rw [h2, hasW_append, hasW_one]
    cases hasW ud t <;> cases inW t w <;> cases hasW V t <;> simp
  · have := h3 v hv
    have := hU.hd a ha
    omega
theorem MinO.set {V U out : List Win} (h : MinO V U [] out) : IsSet out (fun t => hasW U t && !hasW V t) := ⟨h.n, h.h⟩
end Go.Proofs.Ytefodfpnedcodaa
/- The frame of the laws of the certain and the possible time: opening lists of short numbers. -/
namespace Go.Proofs.Ytefodfpnedcodaa
open Go.ChangeShapes Go.WideShapes Go.ChangeAt Go.RowKit

theorem cU16 : Try.prog.cellsOf 57 = 1 := by kernel_rfl
theorem wf_u16 {n : Int} (h : (Lit.int .u16 n).wf = true) : 0 ≤ n ∧ n ≤ 65535 := by
  have h1 : (decide ((0 : Int) ≤ n) && decide (n ≤ 65535)) = true := h
  simpa using h1
end Go.Proofs.Ytefodfpnedcodaa
/- The certain and the possible time of a ride as plain data, and how many moments a set has: no program in sight. -/
namespace Go.Proofs.Ytefodfpnedcodaa
open Go.RowKit

/-- the error of a ride that must have ended -/
def ivE (r : Ride) : Int := if rideE r = 0 then (if r.op then 26 else 0) else rideE r
theorem rideE_zero (r : Ride) : rideE r = 0 ↔ rangedB r = true ∧ joinedB r = true ∧ orderedB r = true ∧ stateB r = false := by
  unfold rideE
  cases rangedB r <;> cases joinedB r <;> cases orderedB r <;> cases stateB r <;> simp
theorem ivE_zero (r : Ride) : ivE r = 0 ↔ rideE r = 0 ∧ r.op = false := by
  unfold ivE
  split
  · rename_i h; cases r.op <;> simp [h]
  · rename_i h; simp [h]
/-- the pauses of a ride that has ended are in order -/
structure PseOk (last e : Int) (l : List Pse) : Prop where
  le : last ≤ e
  p : ∀ p ∈ l, last ≤ p.f0 ∧ p.f0 ≤ p.t0 ∧ p.t0 ≤ e
  s : l.Pairwise fun p q => p.t0 ≤ q.f0
theorem pseOk_of : ∀ (l : List Pse) (last e : Int), psesO false e last l = true → PseOk last e l
  | [], last, e, h => ⟨by simpa [psesO] using h, fun p hp => (by cases hp), List.Pairwise.nil⟩
  | x :: l, last, e, h => by
    simp only [psesO, Bool.false_and, Bool.false_or, Bool.and_eq_true, decide_eq_true_eq] at h
    obtain ⟨h1, h2, h3⟩ := h
    have ih := pseOk_of l x.t0 e h3
    refine ⟨by have := ih.le; omega, fun p hp => ?_, List.pairwise_cons.2 ⟨fun q hq => (ih.p q hq).1, ih.s⟩⟩
    rcases List.mem_cons.1 hp with rfl | hp
    · exact ⟨h1, h2, ih.le⟩
    · have := ih.p p hp; omega
theorem chain_le : ∀ (l : List Leg) (a0 a1 e0 e1 : Int), chainL a0 a1 l e0 e1 = true → legsO false l = true → a0 ≤ e0
  | [], a0, a1, e0, e1, h, _ => by simp [chainL] at h; omega
  | x :: l, a0, a1, e0, e1, h, ho => by
    simp only [chainL, Bool.and_eq_true, decide_eq_true_eq] at h
    simp only [legsO, Bool.false_and, Bool.or_false, Bool.and_eq_true, decide_eq_true_eq] at ho
    have := chain_le l x.t0 x.t1 e0 e1 h.2 ho.2
    omega
/-- what is known of a ride that is accepted and has ended -/
structure RideOk (r : Ride) : Prop where
  s : 0 ≤ r.s0 ∧ r.s0 ≤ r.s1 ∧ r.s1 ≤ 4294943999
  e : 0 ≤ r.e0 ∧ r.e0 ≤ r.e1 ∧ r.e1 ≤ 4294943999
  se : r.s0 ≤ r.e0
  p : ∀ p ∈ r.pauses, 0 ≤ p.f0 ∧ p.f0 ≤ p.f1 ∧ p.f1 ≤ 4294943999 ∧ 0 ≤ p.t0 ∧ p.t0 ≤ p.t1 ∧ p.t1 ≤ 4294943999 ∧ r.s0 ≤ p.f0 ∧ p.f0 ≤ p.t0 ∧ p.t0 ≤ r.e0
  o : r.pauses.Pairwise fun p q => p.t0 ≤ q.f0
  pn : r.pauses.length ≤ 512
  ln : 1 ≤ r.legs.length ∧ r.legs.length ≤ 512
theorem rideOk_of {r : Ride} (h : ivE r = 0) : RideOk r := by
  obtain ⟨h, hop⟩ := (ivE_zero r).1 h
  obtain ⟨h1, h2, h3, h4⟩ := (rideE_zero r).1 h
  simp only [rangedB, headV, Bool.and_eq_true, decide_eq_true_eq, List.all_eq_true] at h1
  obtain ⟨⟨⟨⟨_, hs⟩, he⟩, hl⟩, hp⟩ := h1
  simp only [joinedB, Bool.and_eq_true, decide_eq_true_eq] at h2
  simp only [orderedB, hop, Bool.and_eq_true, Bool.or_eq_true] at h3
  have hs' := (vldS_iff _ _).1 hs
  have he' := (vldS_iff _ _).1 he
  have hse := chain_le _ _ _ _ _ h2.2 h3.1
  have hpo : PseOk r.s0 r.e0 r.pauses := by
    rcases h3.2 with h5 | h5
    · have : r.pauses = [] := by simpa using h5
      rw [this]; exact ⟨hse, fun p hp => (by cases hp), List.Pairwise.nil⟩
    · exact pseOk_of _ _ _ h5
  refine ⟨hs', he', hse, fun p hpp => ?_, hpo.s, h2.1.2, ⟨h2.1.1.1, h2.1.1.2⟩⟩
  have h6 := hp p hpp
  simp only [pseV, Bool.and_eq_true] at h6
  have h7 := (vldS_iff _ _).1 h6.1
  have h8 := (vldS_iff _ _).1 h6.2
  have h9 := hpo.p p hpp
  omega
/-- the certain window of a ride, its possible one -/
def sureW (r : Ride) : Win := if ivE r = 0 then ⟨r.s1, max r.s1 r.e0⟩ else ⟨0, 0⟩
def possW (r : Ride) : Win := if ivE r = 0 then ⟨r.s0, r.e1⟩ else ⟨0, 0⟩
def doubtV (r : Ride) : Int := if ivE r = 0 then r.e1 - r.s0 - (max r.s1 r.e0 - r.s1) else 0
/-- the windows in which a ride certainly, possibly paused: by the program, by the reference -/
def sureP (p : Pse) : Win := ⟨p.f1, max p.f1 p.t0⟩
def possP (p : Pse) : Win := ⟨p.f0, max p.f0 p.t1⟩
def sureQ (l : List Pse) : List Win := (l.filter fun p => decide (p.f1 < p.t0)).map fun p => ⟨p.f1, p.t0⟩
def possQ (l : List Pse) : List Win := l.map fun p => ⟨p.f0, p.t1⟩
theorem sureW_vld {r : Ride} (h : RideOk r) : vldW (⟨r.s1, max r.s1 r.e0⟩ : Win) = true := (vldW_iff _).2 (by
  have := h.s; have := h.e
  show 0 ≤ r.s1 ∧ r.s1 ≤ max r.s1 r.e0 ∧ max r.s1 r.e0 ≤ _
  omega)
theorem badW_one {x : Win} (h : vldW x = true) : badW [x] = false := badW_false.2 fun y hy => by simp at hy; subst hy; exact h
theorem sureP_good {r : Ride} (h : RideOk r) : badW (r.pauses.map sureP) = false := badW_false.2 fun x hx => by
  obtain ⟨p, hp, rfl⟩ := List.mem_map.1 hx
  have := h.p p hp
  refine (vldW_iff _).2 ?_
  show 0 ≤ p.f1 ∧ p.f1 ≤ max p.f1 p.t0 ∧ max p.f1 p.t0 ≤ _
  omega
theorem possP_good {r : Ride} (h : RideOk r) : badW (r.pauses.map possP) = false := badW_false.2 fun x hx => by
  obtain ⟨p, hp, rfl⟩ := List.mem_map.1 hx
  have := h.p p hp
  refine (vldW_iff _).2 ?_
  show 0 ≤ p.f0 ∧ p.f0 ≤ max p.f0 p.t1 ∧ max p.f0 p.t1 ≤ _
  omega
theorem sureQ_good {r : Ride} (h : RideOk r) : badW (sureQ r.pauses) = false := badW_false.2 fun x hx => by
  obtain ⟨p, hp, rfl⟩ := List.mem_map.1 hx
  have hp' := List.mem_filter.1 hp
  have h1 := h.p p hp'.1
  have h2 : p.f1 < p.t0 := by simpa using hp'.2
  refine (vldW_iff _).2 ?_
  show 0 ≤ p.f1 ∧ p.f1 ≤ p.t0 ∧ p.t0 ≤ _
  omega
theorem possQ_eq {r : Ride} (h : RideOk r) : possQ r.pauses = r.pauses.map possP := List.map_congr_left fun p hp => by
  have := h.p p hp
  show (⟨p.f0, p.t1⟩ : Win) = ⟨p.f0, max p.f0 p.t1⟩
  rw [show max p.f0 p.t1 = p.t1 by omega]
theorem hasW_map {α : Type} (l : List α) (f : α → Win) (t : Int) : hasW (l.map f) t = l.any (fun p => inW t (f p)) := by
  unfold hasW; rw [List.any_map]; rfl
theorem hasW_sureQ (l : List Pse) (t : Int) : hasW (sureQ l) t = hasW (l.map sureP) t := by
  unfold sureQ
  rw [Bool.eq_iff_iff, hasW_iff, hasW_iff]
  constructor
  · rintro ⟨x, hx, h1, h2⟩
    obtain ⟨p, hp, rfl⟩ := List.mem_map.1 hx
    have hp' := List.mem_filter.1 hp
    refine ⟨sureP p, List.mem_map.2 ⟨p, hp'.1, rfl⟩, h1, ?_⟩
    have h2' : t < p.t0 := h2
    show t < max p.f1 p.t0
    omega
  · rintro ⟨x, hx, h1, h2⟩
    obtain ⟨p, hp, rfl⟩ := List.mem_map.1 hx
    have h1' : p.f1 ≤ t := h1
    have h2' : t < max p.f1 p.t0 := h2
    exact ⟨⟨p.f1, p.t0⟩, List.mem_map.2 ⟨p, List.mem_filter.2 ⟨hp, decide_eq_true (by omega)⟩, rfl⟩, h1, by show t < p.t0; omega⟩
/-- the moments of Pausing, of Riding -/
def pauS (r : Ride) (t : Int) : Bool := inW t (sureW r) && hasW (r.pauses.map sureP) t
def ridS (r : Ride) (t : Int) : Bool := inW t (sureW r) && !hasW (r.pauses.map possP) t
/-- what Pausing, Riding return -/
structure SetOk (e : Int) (S : Int → Bool) (n : Nat) (c : List Win) : Prop where
  ok : e = 0 → IsSet c S
  no : e ≠ 0 → c = []
  n : c.length ≤ n
theorem SetOk.unique {e : Int} {S : Int → Bool} {n m : Nat} {u v : List Win} (h : SetOk e S n u) (k : SetOk e S m v) : u = v := by
  by_cases he : e = 0
  · exact (h.ok he).unique (k.ok he)
  · rw [h.no he, k.no he]
/-- how many moments below n a set has -/
def cnt (S : Int → Bool) : Nat → Int
  | 0 => 0
  | n + 1 => cnt S n + if S n then 1 else 0
theorem cnt_congr {S T : Int → Bool} : ∀ n : Nat, (∀ t : Int, 0 ≤ t → t < n → S t = T t) → cnt S n = cnt T n
  | 0, _ => rfl
  | n + 1, h => by
    have h1 := cnt_congr n fun t h0 h1 => h t h0 (by omega)
    have h2 := h n (by omega) (by omega)
    simp only [cnt, h1, h2]
theorem cnt_add {S A B : Int → Bool} : ∀ n : Nat, (∀ t : Int, 0 ≤ t → t < n → (S t = (A t || B t)) ∧ (A t && B t) = false) → cnt S n = cnt A n + cnt B n
  | 0, _ => rfl
  | n + 1, h => by
    have h1 := cnt_add (S := S) (A := A) (B := B) n fun t h0 h1 => h t h0 (by omega)
    obtain ⟨h2, h3⟩ := h n (by omega) (by omega)
    simp only [cnt, h1, h2]
    revert h3
    cases A n <;> cases B n <;> simp <;> omega
theorem cnt_le {S T : Int → Bool} : ∀ n : Nat, (∀ t : Int, 0 ≤ t → t < n → S t = true → T t = true) → cnt S n ≤ cnt T n
  | 0, _ => by simp [cnt]
  | n + 1, h => by
    have h1 := cnt_le (S := S) (T := T) n fun t h0 h1 => h t h0 (by omega)
    have h2 := h n (by omega) (by omega)
    simp only [cnt]
    revert h2
    cases S n <;> cases T n <;> simp <;> omega
theorem cnt_none {S : Int → Bool} : ∀ n : Nat, (∀ t : Int, 0 ≤ t → t < n → S t = false) → cnt S n = 0
  | 0, _ => rfl
  | n + 1, h => by
    have h1 := cnt_none (S := S) n fun t h0 h1 => h t h0 (by omega)
    have h2 := h n (by omega) (by omega)
    simp only [cnt, h1, h2]
    simp
theorem cnt_win (x : Win) (h0 : 0 ≤ x.f) (h1 : x.f ≤ x.t) : ∀ n : Nat, cnt (fun t => inW t x) n = min x.t n - min x.f n
  | 0 => by simp [cnt]; omega
  | n + 1 => by
    have ih := cnt_win x h0 h1 n
    simp only [cnt, ih]
    by_cases hi : inW n x = true
    · rw [if_pos hi]
      have := (inW_iff _ _).1 hi
      omega
    · rw [if_neg hi]
      have : ¬ (x.f ≤ (n : Int) ∧ (n : Int) < x.t) := fun h => hi ((inW_iff _ _).2 h)
      omega
/-- the length of a list in normal form is the number of its moments -/
theorem lenW_cnt : ∀ {u : List Win}, Norm u → lenW u = cnt (hasW u) 4294944000
  | [], _ => (cnt_none _ fun t _ _ => rfl).symm
  | x :: u, hn => by
    have hx := hn.v x (by simp)
    have e1 : lenW (x :: u) = (x.t - x.f) + lenW u := by simp [lenW]
    have h1 := cnt_win x hx.1 (by omega) 4294944000
    rw [e1, lenW_cnt hn.tail, cnt_add (S := hasW (x :: u)) (A := fun t => inW t x) (B := hasW u) _ fun t _ _ => ⟨rfl, by
      cases hi : inW t x
      · rfl
      · have := (inW_iff _ _).1 hi
        rw [norm_before hn (show t ≤ x.t by omega)]; rfl⟩, h1]
    omega
theorem IsSet.len {u : List Win} {S : Int → Bool} (h : IsSet u S) : lenW u = cnt S 4294944000 := by
  rw [lenW_cnt h.n]; exact cnt_congr _ fun t _ _ => h.h t
end Go.Proofs.Ytefodfpnedcodaa
/- Worlds with new blocks and draws, no more; comparing numbers: what the library's sort asks of a comparison. -/
namespace Go.Proofs.Ytefodfpnedcodaa
open Go.RowKit Go.Sort

/-- new blocks and draws, no more -/
def Gr (w w' : World) : Prop := ∃ (q : Nat) (os : Array Obj), w' = grow (w.drewN q) os
theorem Gr.refl (w : World) : Gr w w := ⟨0, #[], by simp [grow, World.drewN]⟩
theorem Gr.trans {a b c : World} (h : Gr a b) (k : Gr b c) : Gr a c := by
  obtain ⟨q, os, rfl⟩ := h
  obtain ⟨q', os', rfl⟩ := k
  exact ⟨q + q', os ++ os', by simp [grow, World.drewN, Nat.add_assoc, Array.append_assoc]⟩
theorem Gr.alloc (w : World) (o : Obj) : Gr w (w.alloc o) := ⟨0, #[o], by rw [alloc_eq_grow]; rfl⟩
theorem Gr.drewN (w : World) (q : Nat) : Gr w (w.drewN q) := ⟨q, #[], by rw [grow_empty]⟩
theorem Gr.since {w w' : World} (h : Gr w w') : ∃ y : Since w, w' = y.w := by
  obtain ⟨q, os, rfl⟩ := h
  exact ⟨⟨grow (w.drewN q) os, ⟨rfl, rfl, rfl, by simp [grow, World.drewN], fun b hb => by simp [grow, World.drewN, Array.getElem?_append, hb]⟩⟩, rfl⟩

structure GrW (w0 : World) where
  w : World
  g : Gr w0 w
instance (w0 : World) : Nonempty (GrW w0) := ⟨⟨w0, Gr.refl _⟩⟩
theorem wp_region_gr {P : Program} {id : Nat} {Q : Exit → Act → World → Prop} {a : Act} {w0 : World} {x : GrW w0} {l : List Oper} (hm : P.follows .mixedOrders = true) (hB : Region.lexB .any l.toArray = true)
    (h : wpQuiet P l.toArray (fun w' => ∃ y : GrW w0, w' = y.w) (fun a' => ∀ w', (∃ y : GrW w0, w' = y.w) → Q .normal a' w') l a) : (Code.region id l.toArray true).wp P Q a x.w :=
  wp_region_quiet (C := fun w' => ∃ y : GrW w0, w' = y.w) hm hB ⟨⟨_, x.g.trans (Gr.drewN x.w 1)⟩, rfl⟩ (by simpa using h)
theorem GrW.refl (w0 : World) : ∃ y : GrW w0, w0 = y.w := ⟨⟨w0, Gr.refl _⟩, rfl⟩
theorem GrW.step {w0 : World} (x : GrW w0) {w : World} (h : Gr x.w w) : ∃ y : GrW w0, w = y.w := ⟨⟨w, x.g.trans h⟩, rfl⟩
theorem GrW.cell {w0 : World} {a : Addr} {v : Value} (h : w0.cell? a = some v) (y : GrW w0) : y.w.cell? a = some v := by
  obtain ⟨z, e⟩ := y.g.since
  rw [e]
  have hb := World.block_lt_of_cell? w0 _ h
  rw [z.b.cell (p := a) hb]; exact h
theorem Gr.drew' {a b : World} (h : Gr a b) : Gr a b.drew := h.trans (Gr.drewN b 1)
theorem Gr.alloc' {a b : World} (h : Gr a b) (o : Obj) : Gr a (b.alloc o) := h.trans (Gr.alloc b o)
theorem Gr.cell {W w : World} {a : Addr} {v : Value} (h : W.cell? a = some v) (hw : Gr W w) : w.cell? a = some v := GrW.cell h ⟨w, hw⟩
/-- a number before another one -/
def ccmp (x y : Int) : Int := if x < y then -1 else if y < x then 1 else 0
theorem nan_calls (x : Int) (w : World) : Calls Try.prog 70 #[.int .i64 x] w fun e w' => e = .returned (.bool false) ∧ w = w' := by
  have h : (x != x) = false := by simp
  go_enter Try.func70, Try.ntmps70
  go_wp2_with fail
  go_ret
  exact ⟨rfl, rfl⟩
theorem ccmp_calls (x y : Int) (w : World) : Calls Try.prog 66 #[.int .i64 x, .int .i64 y] w fun e w' => e = .returned (.int .i64 (ccmp x y)) ∧ w = w' := by
  rcases (by omega : x < y ∨ (¬ x < y ∧ y < x) ∨ (¬ x < y ∧ ¬ y < x)) with h | ⟨h, h'⟩ | ⟨h, h'⟩
  · have hc := Lib.hid (show ccmp x y = -1 from by unfold ccmp; rw [if_pos h])
    go_enter Try.func66, Try.ntmps66
    go_wp2_with (go_at_call 70; refine (nan_calls _ _).mono ?_; rintro _ _ ⟨rfl, rfl⟩)
    go_ret
    exact ⟨ret_int hc.out.symm, rfl⟩
  · have hc := Lib.hid (show ccmp x y = 1 from by unfold ccmp; rw [if_neg h, if_pos h'])
    have h2 : y ≤ x := by omega
    go_enter Try.func66, Try.ntmps66
    go_wp2_with (go_at_call 70; refine (nan_calls _ _).mono ?_; rintro _ _ ⟨rfl, rfl⟩)
    go_ret
    exact ⟨ret_int hc.out.symm, rfl⟩
  · have hc := Lib.hid (show ccmp x y = 0 from by unfold ccmp; rw [if_neg h, if_neg h'])
    have h2 : y ≤ x := by omega
    have h3 : x ≤ y := by omega
    go_enter Try.func66, Try.ntmps66
    go_wp2_with (go_at_call 70; refine (nan_calls _ _).mono ?_; rintro _ _ ⟨rfl, rfl⟩)
    go_ret
    exact ⟨ret_int hc.out.symm, rfl⟩

end Go.Proofs.Ytefodfpnedcodaa
/- The walks of windows, first part: validity, comparison, search, sort. -/
namespace Go.Proofs.Ytefodfpnedcodaa
open Go.RowKit Go.Sort Go.Shelf Go.Lib

theorem vw_calls (w : World) (x : Since w) (e : Win) :
    Calls Try.prog 63 #[.agg #[.int .i64 e.f, .int .i64 e.t]] x.w fun o w' => o = .returned (.bool (vldW e)) ∧ ∃ y : Since w, w' = y.w := by
  have HG := Lib.hid (vldW_iff e)
  go_enter Try.func63, Try.ntmps63
  go_upto_region 1 with fail
  have hb0_0 : ∀ y : Since (x.w.alloc (.cells #[.int .i64 e.f, .int .i64 e.t] 31)), y.w.cell? ⟨x.w.heap.size, 0, none⟩ = some (.int .i64 e.f) := fun y => Since.cell (by simp [go_sem]) (by first | (simp; done) | (simp; omega)) y
  have hb0_1 : ∀ y : Since (x.w.alloc (.cells #[.int .i64 e.f, .int .i64 e.t] 31)), y.w.cell? ⟨x.w.heap.size, 1, none⟩ = some (.int .i64 e.t) := fun y => Since.cell (by simp [go_sem]) (by first | (simp; done) | (simp; omega)) y
  have hf0 : ∀ (y : Since (x.w.alloc (.cells #[.int .i64 e.f, .int .i64 e.t] 31))) (o : Nat), y.w.frozen? ⟨x.w.heap.size, o, none⟩ = false := fun y o => Since.free (by simp [go_sem]) (by first | (simp; done) | (simp; omega)) y
  have hWup : ∃ z : Since w, (x.w.alloc (.cells #[.int .i64 e.f, .int .i64 e.t] 31)) = z.w := x.alloc _
  obtain ⟨y0, hy0⟩ := Since.refl (x.w.alloc (.cells #[.int .i64 e.f, .int .i64 e.t] 31))
  have Hbx := Lib.hid (And.intro x.b.size (show x.w.heap.size + 1 = (x.w.alloc (.cells #[.int .i64 e.f, .int .i64 e.t] 31)).heap.size from by simp))
  generalize hW : (x.w.alloc (.cells #[.int .i64 e.f, .int .i64 e.t] 31)) = W at *
  clear hW
  generalize x.w.heap.size = bx at *
  have Hup := Lib.hid (Since.up hWup)
  rw [hy0]
  clear hy0
  clear hWup hf0
  rcases (by omega : e.f < 0 ∨ (0 ≤ e.f ∧ e.t < e.f) ∨ (0 ≤ e.f ∧ e.f ≤ e.t ∧ 4294944000 < e.t) ∨ (0 ≤ e.f ∧ e.f ≤ e.t ∧ e.t ≤ 4294944000)) with h | ⟨h, h'⟩ | ⟨h, h', h''⟩ | ⟨h, h', h''⟩
  case inr.inr.inr =>
    have Hr := Lib.hid (show vldW e = true from HG.out.2 (by omega))
    clear HG
    go_wp2_with fail
    go_ret
    exact ⟨ret_bool (by first | exact Hr.out.symm | (rw [Hr.out]; simp; omega)), Hup.out _⟩
  all_goals
    have Hr := Lib.hid (show vldW e = false by
      cases hg : vldW e
      · rfl
      · have := HG.out.1 hg; omega)
    clear HG
    go_wp2_with fail
    go_ret
    exact ⟨ret_bool (by first | exact Hr.out.symm | (rw [Hr.out]; simp; omega)), Hup.out _⟩
theorem nvw_calls (w : World) (x : Since w) (e : Win) :
    Calls Try.prog 62 #[.agg #[.int .i64 e.f, .int .i64 e.t]] x.w fun o w' => o = .returned (.bool (!vldW e)) ∧ ∃ y : Since w, w' = y.w := by
  go_enter Try.func62, Try.ntmps62
  go_upto_region 1 with fail
  have hb0_0 : ∀ y : Since (x.w.alloc (.cells #[.int .i64 e.f, .int .i64 e.t] 31)), y.w.cell? ⟨x.w.heap.size, 0, none⟩ = some (.int .i64 e.f) := fun y => Since.cell (by simp [go_sem]) (by first | (simp; done) | (simp; omega)) y
  have hb0_1 : ∀ y : Since (x.w.alloc (.cells #[.int .i64 e.f, .int .i64 e.t] 31)), y.w.cell? ⟨x.w.heap.size, 1, none⟩ = some (.int .i64 e.t) := fun y => Since.cell (by simp [go_sem]) (by first | (simp; done) | (simp; omega)) y
  have hf0 : ∀ (y : Since (x.w.alloc (.cells #[.int .i64 e.f, .int .i64 e.t] 31))) (o : Nat), y.w.frozen? ⟨x.w.heap.size, o, none⟩ = false := fun y o => Since.free (by simp [go_sem]) (by first | (simp; done) | (simp; omega)) y
  have hWup : ∃ z : Since w, (x.w.alloc (.cells #[.int .i64 e.f, .int .i64 e.t] 31)) = z.w := x.alloc _
  obtain ⟨y0, hy0⟩ := Since.refl (x.w.alloc (.cells #[.int .i64 e.f, .int .i64 e.t] 31))
  have Hbx := Lib.hid (And.intro x.b.size (show x.w.heap.size + 1 = (x.w.alloc (.cells #[.int .i64 e.f, .int .i64 e.t] 31)).heap.size from by simp))
  generalize hW : (x.w.alloc (.cells #[.int .i64 e.f, .int .i64 e.t] 31)) = W at *
  clear hW
  generalize x.w.heap.size = bx at *
  have Hup := Lib.hid (Since.up hWup)
  rw [hy0]
  clear hy0
  clear hWup hf0
  have Hc := Lib.hid (fun y : Since W => vw_calls W y e)
  cases hv : vldW e
  all_goals
    have Hv := Lib.hid hv
    rw [hv] at Hc
    clear hv
    go_wp2_with (go_at_call 63; ((with_reducible refine (Hc.out _).mono ?_); rintro _ _ ⟨rfl, y1, rfl⟩))
    go_ret
    exact ⟨ret_bool (by rw [Hv.out]; rfl), Hup.out _⟩
def wcmp (a b : Win) : Int := ccmp a.f b.f
theorem wcmp_calls (a b : Win) (w : World) : Calls Try.prog 65 #[.agg #[.int .i64 a.f, .int .i64 a.t], .agg #[.int .i64 b.f, .int .i64 b.t]] w fun e w' => e = .returned (.int .i64 (wcmp a b)) ∧ Gr w w' := by
  have Hv := Lib.hid (show wcmp a b = ccmp a.f b.f from rfl)
  have Hg := Lib.hid ((Gr.alloc w (.cells #[.int .i64 a.f, .int .i64 a.t] 31)).trans (Gr.alloc _ (.cells #[.int .i64 b.f, .int .i64 b.t] 31)))
  go_enter Try.func65, Try.ntmps65
  go_wp2_with (go_at_call 66; refine (ccmp_calls _ _ _).mono ?_; rintro _ _ ⟨rfl, rfl⟩)
  go_ret
  exact ⟨ret_int Hv.out.symm, Hg.out⟩
theorem ltOf_wcmp : ltOf wcmp = fun a b : Win => decide (a.f < b.f) := by
  funext a b
  show decide (wcmp a b < 0) = _
  unfold wcmp ccmp
  rw [decide_eq_decide]
  split
  · omega
  · split <;> omega
theorem swo_w : SWO (ltOf wcmp) := by
  rw [ltOf_wcmp]
  refine ⟨fun x => by simp, fun x y z h1 h2 => ?_, fun x y z h1 h2 => ?_⟩
  · simp at h1 h2 ⊢; omega
  · simp at h1 h2 ⊢; omega
end Go.Proofs.Ytefodfpnedcodaa
/- The walks of windows, second part: the search for a window that is not valid, the sort. -/
namespace Go.Proofs.Ytefodfpnedcodaa
open Go.RowKit Go.Sort Go.Shelf Go.Lib

theorem idxW_neg : ∀ (l : List Win) (i : Int), 0 ≤ i → (0 ≤ Lib.idxBy (fun _ (y : Win) => !vldW y) l default ↔ badW l = true) := by
  intro l _ _
  have hb : ∀ j, j < l.length → l[j]! = l.getD j default := fun j hj => by
    rw [getElem!_pos l j hj, List.getD_eq_getElem?_getD, List.getElem?_eq_getElem hj]; rfl
  by_cases hbad : badW l = true
  · refine ⟨fun _ => hbad, fun _ => ?_⟩
    have : ∀ n, n ≤ l.length → (∃ k : Nat, k < n ∧ vldW (l.getD k default) = false ∧ ∀ j, j < k → vldW (l.getD j default) = true) ∨ ∀ j, j < n → vldW (l.getD j default) = true := by
      intro n
      induction n with
      | zero => intro _; exact .inr fun j hj => by omega
      | succ n ih =>
        intro hn
        rcases ih (by omega) with ⟨k, h1, h2, h3⟩ | h
        · exact .inl ⟨k, by omega, h2, h3⟩
        · cases hv : vldW (l.getD n default)
          · exact .inl ⟨n, by omega, hv, h⟩
          · exact .inr fun j hj => by
              by_cases hjn : j < n
              · exact h j hjn
              · obtain rfl : j = n := by omega
                exact hv
    rcases this l.length (Nat.le_refl _) with ⟨k, h1, h2, h3⟩ | h
    · have := Lib.idxBy_hit (fun _ (y : Win) => !vldW y) l l.length k default h1 (Nat.le_refl _) (by rw [hb k h1, h2]; rfl) (fun j hj => by rw [hb j (by omega), h3 j hj]; rfl)
      rw [List.take_length] at this
      rw [this]; omega
    · exfalso
      have : badW l = false := badW_false.2 fun x hx => by
        obtain ⟨j, hj⟩ := List.mem_iff_getElem?.1 hx
        have := h j (List.getElem?_eq_some_iff.1 hj).1
        rw [List.getD_eq_getElem?_getD, hj] at this; exact this
      rw [this] at hbad; cases hbad
  · have hf : badW l = false := by cases h : badW l; rfl; exact (hbad h).elim
    have := Lib.idxBy_miss (fun _ (y : Win) => !vldW y) l l.length default (fun j hj => by
      rw [hb j hj, badW_false.1 hf _ (by rw [List.getD_eq_getElem?_getD, List.getElem?_eq_getElem hj]; exact List.getElem_mem _)]; rfl)
    rw [List.take_length] at this
    rw [this, hf]; simp
def idxW (l : List Win) : Int := Lib.idxBy (fun _ (y : Win) => !vldW y) l default
set_option maxHeartbeats 4000000 in
theorem idxW_calls (w : World) (x : Since w) (pa : Option Addr) (lp : List Win) (pc : Nat) (hp : WinRow w pa lp) (hpl : lp.length ≤ 9223372036854775807) :
    Calls Try.prog 67 #[.slice pa lp.length pc, .func (.func 62) #[] #[]] x.w fun o w' => o = .returned (.int .i64 (idxW lp)) ∧ ∃ y : Since w, w' = y.w := by
  by_cases hn : lp.length = 0
  · have hl : lp = [] := List.eq_nil_of_length_eq_zero hn
    subst hl
    have Hi := Lib.hid (show idxW [] = -1 from rfl)
    clear hn hp
    go_enter Try.func67, Try.ntmps67
    go_wp2_with fail
    go_loopw [8] (fun i wr => i = .int .i64 0 ∧ wr = x.w) (fun _ _ => 0)
    case atStart => exact ⟨rfl, rfl⟩
    case round =>
      obtain ⟨rfl, rfl⟩ := hrel
      go_wp2_with fail
      go_ret
      exact ⟨ret_int Hi.out.symm, _, rfl⟩
  · have eg : ∀ args w, (callFunc 62 args).run Try.prog w = .ok (.enter 62 args) w := enters_of Try.func62 (by kernel_rfl) rfl
    obtain ⟨e0, he0⟩ : ∃ e, lp[0]? = some e := ⟨_, List.getElem?_eq_getElem (by omega)⟩
    obtain ⟨b, off, rfl, hb, _⟩ := Since.els hp x 0 e0 he0
    have hc := AnyQ.slices_IndexFunc Try.idxWin 2 Try.isAgg31 Try.sizeOf31 Win.cs Win.len (fun p => !vldW p) 62 #[] eg b off lp.length pc lp x.w (fun W p hW => by
      obtain ⟨y, hy⟩ := x.step hW
      subst hy
      refine (nvw_calls x.w ⟨_, hW⟩ p).mono ?_
      rintro _ w' ⟨rfl, z, rfl⟩
      exact ⟨rfl, z.b⟩) (Nat.le_refl _) hpl hb (fun j hj i v hv => by
      rw [getElem!_pos lp j hj] at hv
      obtain ⟨b', off', he, _, hcell⟩ := Since.els hp x j _ (List.getElem?_eq_getElem hj)
      simp at he
      obtain ⟨rfl, rfl⟩ := he
      exact hcell i v hv)
    change Calls Try.prog 67 _ _ _ at hc
    refine hc.mono ?_
    rintro _ w' ⟨rfl, hb⟩
    obtain ⟨y, rfl⟩ := x.step hb
    refine ⟨?_, y, rfl⟩
    rw [List.take_length]; rfl
theorem anyW_calls (w : World) (x : Since w) (pa : Option Addr) (lp : List Win) (pc : Nat) (hp : WinRow w pa lp) (hpl : lp.length ≤ 9223372036854775807) :
    Calls Try.prog 61 #[.slice pa lp.length pc, .func (.func 62) #[] #[]] x.w fun o w' => o = .returned (.bool (badW lp)) ∧ ∃ y : Since w, w' = y.w := by
  have Hc := Lib.hid (idxW_calls w x pa lp pc hp hpl)
  have Hi := Lib.hid (show 0 ≤ idxW lp ↔ badW lp = true from idxW_neg lp 0 (by omega))
  generalize idxW lp = i at *
  by_cases h : 0 ≤ i
  · have Hr := Lib.hid (Hi.out.1 h)
    go_enter Try.func61, Try.ntmps61
    go_wp2_with fail
    refine Hc.out.mono ?_
    rintro _ _ ⟨rfl, y1, rfl⟩
    go_wp2_with fail
    go_ret
    exact ⟨ret_bool (by first | exact Hr.out.symm | (rw [Hr.out]; simp; omega)), _, rfl⟩
  · have Hr := Lib.hid (show badW lp = false by cases hb : badW lp; rfl; exact (h (Hi.out.2 hb)).elim)
    have h' : i < 0 := by omega
    clear h
    go_enter Try.func61, Try.ntmps61
    go_wp2_with fail
    refine Hc.out.mono ?_
    rintro _ _ ⟨rfl, y1, rfl⟩
    go_wp2_with fail
    go_ret
    exact ⟨ret_bool (by first | exact Hr.out.symm | (rw [Hr.out]; simp; omega)), _, rfl⟩
/-- what the sort leaves of a slice of the call's own -/
def SortWPost (w : World) (v : Value) (l : List Win) (e : Ending) (w' : World) : Prop :=
  e = .returned (.tuple #[]) ∧ w.grownBy w' v.ownBlock ∧ ∃ a cap l', v = .slice a l.length cap ∧ l.length ≤ cap ∧ l'.Perm l ∧ l'.Pairwise (fun x y : Win => x.f ≤ y.f) ∧ WinRow w' a l'
theorem sortW_calls (w : World) (base : Nat) (v : Value) (n : Nat) (l : List Win) (hown : w.ownsRow base 31 2 v n (flat Win.cs l)) (hl : l.length < 4611686018427387904) :
    Calls Try.prog 64 #[v, .func (.func 65) #[] #[]] w (SortWPost w v l) := by
  obtain ⟨rfl, a, cap, rfl, hcap, hels, hbase, hblk⟩ := own_els Win.len (by decide) hown
  by_cases h0 : l.length = 0
  · have hl0 : l = [] := List.eq_nil_of_length_eq_zero h0
    subst hl0
    have hc := AnyF.slices_SortFunc_none { Try.sortWin with } a cap (.func (.func 65) #[] #[]) w
    change Calls Try.prog 64 _ _ _ at hc
    refine hc.mono ?_
    rintro _ _ ⟨rfl, rfl⟩
    exact ⟨rfl, World.grownBy.refl _ _, a, cap, [], rfl, hcap, .nil, .nil, els_nil _ _⟩
  · obtain ⟨x, hx⟩ : ∃ x, l[0]? = some x := ⟨l[0]'(by omega), List.getElem?_eq_getElem (by omega)⟩
    obtain ⟨g, off, ha, hg, _⟩ := hels 0 x hx
    subst ha
    obtain rfl : off = 0 := by
      obtain ⟨_, ⟨hbad, _⟩ | ⟨g', cap', cur, he, _⟩⟩ := hown
      · cases hbad
      · simp at he; exact he.1.2
    have hH := own_holdsK (l := l) Win.len (by decide) hown
    have eg : ∀ args w, (callFunc 65 args).run Try.prog w = .ok (.enter 65 args) w := enters_of Try.func65 (by kernel_rfl) rfl
    have hcmp : CmpLays Try.prog 65 #[] Win.cs 2 wcmp g 0 l.toArray.size w := fun m os dk _ u v => by
      have := wcmp_calls u v (sortWorldK Win.cs 2 w g 0 m dk os)
      exact this
    have hc := AnyQ.slices_SortFunc Try.sortWin 2 Try.isAgg31 Try.sizeOf31 Win.cs Win.len win_one wcmp swo_w 65 #[] g 0 cap l.toArray w eg hcmp hH hg (by simpa using hl)
    change Calls Try.prog 64 _ _ _ at hc
    refine hc.mono ?_
    rintro _ _ ⟨rfl, d', n, os, hP, hS, rfl⟩
    obtain ⟨hsz, _, hperm⟩ := hP
    have hh := holdsK_sortWorldK_c Win.cs 2 w g 0 l.toArray d' n os hH hg hsz
    have hsz' : d'.size = l.length := by simpa using hsz
    refine ⟨rfl, grownBy_sortK _ _ _ _ _ _ _, _, cap, d'.toList, rfl, hcap, ?_, ?_, els_of_holdsK Win.len hh (Nat.lt_of_lt_of_le hg (grownBy_sortK _ _ _ _ _ _ _).size)⟩
    · have h1 : (d'.extract 0 l.toArray.size) = d' := by rw [← hsz]; exact Array.extract_size
      have h2 : (l.toArray.extract 0 l.toArray.size) = l.toArray := Array.extract_size
      rw [h1, h2] at hperm
      simpa using hperm
    · rw [List.pairwise_iff_getElem]
      intro i j hi hj hij
      have hi' : i < d'.size := by simpa using hi
      have hj' : j < d'.size := by simpa using hj
      have := hS i j (Nat.zero_le _) hij (by simp; omega)
      rw [ltOf_wcmp, getElem!_pos d' j hj', getElem!_pos d' i hi'] at this
      simp at this
      simpa using this
end Go.Proofs.Ytefodfpnedcodaa
/- The walks of windows, third part: the union. -/
namespace Go.Proofs.Ytefodfpnedcodaa
open Go.RowKit

theorem sWin : SliceOf Try.prog 35 31 (.agg #[.int .i64 0, .int .i64 0]) 2 16 := SliceOf.mk' Try.underlying35 (by kernel_rfl) rfl (by decide)
def unE (l : List Win) : Int := if badW l then 1 else 0
/-- what a union is -/
structure UnOk (l u : List Win) : Prop where
  ok : badW l = false → IsSet u (hasW l)
  no : badW l = true → u = []
  n : u.length ≤ l.length
theorem UnOk.unique {l u v : List Win} (h : UnOk l u) (k : UnOk l v) : u = v := by
  cases hb : badW l
  · exact (h.ok hb).unique (k.ok hb)
  · rw [h.no hb, k.no hb]
/-- a list of windows of the call's own and an error -/
def SetRes (w : World) (Q : List Win → Prop) (e : Int) (o : Ending) (w' : World) : Prop :=
  ∃ (a : Option Addr) (cap : Nat) (u : List Win) (y : Since w), o = .returned (.tuple #[.slice a u.length cap, .int .i64 e]) ∧ w' = y.w ∧ WinRow y.w a u ∧ u.length ≤ cap ∧ Q u
theorem setRes_nil {w : World} {Q : List Win → Prop} {e : Int} (h : Q []) (y : Since w) : SetRes w Q e (.returned (.tuple #[.slice none 0 0, .int .i64 e])) y.w := ⟨none, 0, [], y, rfl, rfl, els_nil _ _, Nat.le_refl _, h⟩
theorem win_set (o : List Win) (l : Win) (t : Int) : (flat Win.cs (o ++ [l])).set (o.length * 2 + 1) (.int .i64 t) = flat Win.cs (o ++ [⟨l.f, t⟩]) := by
  rw [flat_append, flat_append, flat_one, flat_one]
  have hl : (flat Win.cs o).length = o.length * 2 := flat_length Win.len o
  rw [List.set_append_right _ _ (by omega), hl, show o.length * 2 + 1 - o.length * 2 = 1 by omega]
  rfl
theorem snoc_of {α : Type} {l : List α} (h : l ≠ []) : ∃ o x, l = o ++ [x] := ⟨l.dropLast, l.getLast h, (List.dropLast_concat_getLast h).symm⟩
set_option maxRecDepth 100000 in
set_option maxHeartbeats 8000000 in
theorem union_calls (w : World) (x : Since w) (a : Option Addr) (l : List Win) (c : Nat) (h : WinRow w a l) (hl : l.length ≤ 100000) :
    Calls Try.prog 56 #[.slice a l.length c] x.w (SetRes w (UnOk l) (unE l)) := by
  have HL := Lib.hid h
  clear h
  obtain ⟨i0, hi0, hz0, hsz0, hby0⟩ := sWin.e
  go_enter Try.func56, Try.ntmps56
  go_wp2_with (at_make; refine wpList_make_full _ rfl _ _ 35 rfl w.heap.size 31 i0 (.agg #[.int .i64 0, .int .i64 0]) 2 Try.underlying35 hi0 hz0 hsz0 .i64 .i64 (l.length : Int) (l.length : Int) l.length rfl rfl rfl rfl (by rw [hby0]; omega) (by unfold maxLen; omega) x.b.size ?_; intro w1 hown hg1)
  obtain ⟨y1, hy1⟩ := x.grown hg1 (fun k hk => by cases hk)
  subst hy1
  have Hown := Lib.hid hown
  have Hgs := Lib.hid x.b.size
  clear hown hg1
  generalize x.w.heap.size = g0 at *
  obtain ⟨q1, hcp, hown2, hg2⟩ := copyEls_run (P := Try.prog) y1 Win.len (by decide) win_one 35 3 w.heap.size (Nat.le_refl _) 31 (.agg #[.int .i64 0, .int .i64 0]) 16 sWin (.slice (some ⟨g0, 0, none⟩) l.length l.length) l.length _ Hown.out a l c (Since.els HL.out y1) rfl
  have Hown2 := Lib.hid hown2
  clear Hown hown2 hg2
  go_upto_region 3 with fail
  rw [hcp]
  go_upto_region 3 with fail
  clear hcp hi0 hz0 hsz0 hby0
  obtain ⟨_, a1, c1, hv1, hc1, he1, _, _⟩ := own_els Win.len (by decide) Hown2.out
  obtain ⟨rfl, rfl⟩ : a1 = some ⟨g0, 0, none⟩ ∧ c1 = l.length := by simp at hv1; exact ⟨hv1.1.symm, hv1.2.symm⟩
  have Hany := Lib.hid (anyW_calls q1.w (Since.self _) (some ⟨g0, 0, none⟩) l l.length he1 (by omega))
  have Hue := Lib.hid (show unE l = if badW l then 1 else 0 from rfl)
  clear hv1 hc1 he1
  have Hst := Lib.hid (fun q : Since q1.w => q1.trans q)
  go_wp2_with fail
  refine Hany.out.mono ?_
  rintro _ _ ⟨rfl, z1, rfl⟩
  clear Hany
  have Hown3 := Lib.hid (own_to Hown2.out ⟨z1, rfl⟩)
  obtain ⟨y2, h2⟩ := Hst.out z1
  rw [h2] at Hown3 ⊢
  clear h2 Hst Hown2
  cases hb : badW l with
  | true =>
    have HP := Lib.hid (show SetRes w (UnOk l) (unE l) (.returned (.tuple #[.slice none 0 0, .int .i64 1])) y2.w by
      rw [Hue.out, hb]; exact setRes_nil ⟨fun h => by rw [hb] at h; (cases h), fun _ => rfl, by simp⟩ y2)
    generalize SetRes w (UnOk l) (unE l) = PO at *
    clear hb Hue
    go_wp2_with fail
    exact HP.out
  | false =>
    have HP := Lib.hid (show ∀ (a : Option Addr) (cap : Nat) (u : List Win) (y : Since w), WinRow y.w a u → u.length ≤ cap → IsSet u (hasW l) → u.length ≤ l.length → SetRes w (UnOk l) (unE l) (.returned (.tuple #[.slice a u.length cap, .int .i64 0])) y.w from fun a cap u y h1 h2 h3 h4 => by
      rw [Hue.out, hb]; exact ⟨a, cap, u, y, rfl, rfl, h1, h2, ⟨fun _ => h3, fun h => by rw [hb] at h; (cases h), h4⟩⟩)
    have Hgood := Lib.hid (badW_false.1 hb)
    generalize SetRes w (UnOk l) (unE l) = PO at *
    clear hb Hue
    go_wp2_with fail
    refine (sortW_calls y2.w w.heap.size _ l.length l Hown3.out (by omega)).mono ?_
    rintro _ w3 ⟨rfl, hg, a3, c3, s, hv3, hc3, hp3, hs3, he3⟩
    obtain ⟨rfl, rfl⟩ : a3 = some ⟨g0, 0, none⟩ ∧ c3 = l.length := by simp at hv3; exact ⟨hv3.1.symm, hv3.2.symm⟩
    have hHg := Hgs.out
    obtain ⟨y3, rfl⟩ := y2.grown hg (fun k hk => by simp [Value.ownBlock] at hk; omega)
    have HS := Lib.hid he3
    have Hp := Lib.hid hp3
    have Hsl := Lib.hid (show s.length = l.length from hp3.length_eq)
    have Hss := Lib.hid hs3
    clear hg hv3 hc3 hp3 hs3 he3 Hown3 hHg
    obtain ⟨n, hn⟩ : ∃ n, n = l.length := ⟨_, rfl⟩
    rw [← hn]
    have Hn := Lib.hid hn
    have hn2 : n ≤ 100000 := by omega
    clear hn
    go_wp2_with fail
    go_loopw [5, 21] (fun v i wr => ∃ (k : Nat) (out : List Win) (y : Since y3.w), k ≤ n ∧ i = .int .i64 k ∧ wr = y.w ∧ y.w.ownsRow y3.w.heap.size 31 2 v out.length (flat Win.cs out) ∧ Mrg (s.take k) out ∧ out.length ≤ k) (fun _ i _ => n - (intOf i).toNat)
    case atStart => exact ⟨0, [], Since.self _, by omega, rfl, rfl, ⟨rfl, .inl ⟨rfl, rfl⟩⟩, by rw [List.take_zero]; exact mrg_nil, by simp⟩
    case round =>
      obtain ⟨k, out, y, hk, rfl, rfl, hown, hM, hok⟩ := hrel
      have Hown := Lib.hid hown; have HM := Lib.hid hM
      clear hown hM
      by_cases hlt : k < n
      · obtain ⟨e, he⟩ : ∃ e, s[k]? = some e := ⟨_, List.getElem?_eq_getElem (by have := Hsl.out; have := Hn.out; omega)⟩
        have hk0 : (0 : Int) ≤ (k : Int) := by omega
        have hkl : (k : Int) < (n : Int) := by omega
        obtain ⟨b1, off1, hbo, h1'⟩ := Els.win HS.out he
        simp only [Option.some.injEq, Addr.mk.injEq, and_true] at hbo
        obtain ⟨rfl, rfl⟩ := hbo
        have ra0 := h1'.c0
        have ra1 := h1'.c1
        simp only [Nat.zero_add] at ra0 ra1
        have Htk := Lib.hid (show s.take (k + 1) = s.take k ++ [e] by rw [List.take_add_one, he]; rfl)
        have Hev := Lib.hid (Hgood.out e (Hp.out.mem_iff.1 (List.mem_of_getElem? he)))
        obtain ⟨ev1, ev2, ev3⟩ := (vldW_iff e).1 Hev.out
        have Hpre := Lib.hid (show ∀ x ∈ s.take k, x.f ≤ e.f from fun x hx => by
          obtain ⟨j, hj⟩ := List.mem_iff_getElem?.1 hx
          rw [List.getElem?_take] at hj
          split at hj
          · have h1 := List.getElem?_eq_some_iff.1 hj
            have h2 := List.getElem?_eq_some_iff.1 he
            have := List.pairwise_iff_getElem.1 Hss.out j k h1.1 h2.1 (by omega)
            rw [h1.2, h2.2] at this; exact this
          · cases hj)
        clear h1' he
        go_upto_region 10 with fail
        have hx0 : (y.w.alloc (.cells #[.int .i64 e.f, .int .i64 e.t] 31)).cell? ⟨y.w.heap.size, 0, none⟩ = some (.int .i64 e.f) := by simp [go_sem]
        have hx1 : (y.w.alloc (.cells #[.int .i64 e.f, .int .i64 e.t] 31)).cell? ⟨y.w.heap.size, 1, none⟩ = some (.int .i64 e.t) := by simp [go_sem]
        have hxf : ∀ o, (y.w.alloc (.cells #[.int .i64 e.f, .int .i64 e.t] 31)).frozen? ⟨y.w.heap.size, o, none⟩ = false := fun o => by simp [go_sem]
        have hlt0 : y.w.heap.size < (y.w.alloc (.cells #[.int .i64 e.f, .int .i64 e.t] 31)).heap.size := by simp
        have hst0 : ∃ zz : Since y.w, (y.w.alloc (.cells #[.int .i64 e.f, .int .i64 e.t] 31)) = zz.w := IsSince.alloc (IsSince.self _) _
        have hsz0 := y.b.size
        obtain ⟨y5, e2⟩ := IsSince.alloc (IsSince.of y) (.cells #[.int .i64 e.f, .int .i64 e.t] 31)
        rw [e2] at hx0 hx1 hxf hlt0 hst0 ⊢
        (replace Hown := Lib.hid (own_to Hown.out hst0))
        clear e2 hst0
        generalize y.w.heap.size = gw at *
        have Hhx0 : ∀ q : Since y5.w, q.w.cell? ⟨gw, 0, none⟩ = some (.int .i64 e.f) := fun q => Since.cell hx0 (by omega) q
        have Hhx1 : ∀ q : Since y5.w, q.w.cell? ⟨gw, 1, none⟩ = some (.int .i64 e.t) := fun q => Since.cell hx1 (by omega) q
        have Hhxf : ∀ (q : Since y5.w) (o : Nat), q.w.frozen? ⟨gw, o, none⟩ = false := fun q o => Since.free (hxf o) (by omega) q
        have Hhxg := Lib.hid (And.intro hsz0 hlt0)
        clear hlt0 hsz0
        clear hx0 hx1 hxf ra0 ra1
        by_cases hee : e.f = e.t
        · have heb : (e.f == e.t) = true := by simpa using hee
          have HM2 := Lib.hid (show Mrg (s.take (k + 1)) out by rw [Htk.out]; exact HM.out.skip hee)
          clear hee HM
          have hol : ((out.length : Nat) : Int) ≤ 100000 := by omega
          obtain ⟨hlen, a5, c5, rfl, _⟩ := own_els Win.len (by decide) Hown.out
          obtain ⟨q5, hq0⟩ := Since.refl y5.w
          rw [hq0]
          clear hq0
          go_wp2_with fail
          obtain ⟨y6, h6⟩ := y5.trans q5
          have Hown6 := Lib.hid (own_to Hown.out ⟨q5, rfl⟩)
          rw [h6] at Hown6 ⊢
          go_roundw
          case rel => exact ⟨k + 1, out, y6, by omega, by go_num, rfl, Hown6.out, HM2.out, by omega⟩
          case measure => simp [intOf] <;> omega
        · have heb : (e.f == e.t) = false := by simpa using hee
          have hlt2 : e.f < e.t := by omega
          clear hee
          by_cases hoe : out = []
          · subst hoe
            have HM2 := Lib.hid (show Mrg (s.take (k + 1)) ([] ++ [e]) by rw [Htk.out]; exact HM.out.new Hev.out hlt2 (fun v hv => by cases hv))
            clear HM
            obtain ⟨_, a5, c5, hv5, _⟩ := own_els Win.len (by decide) Hown.out
            have hv5' : u5 = .slice a5 0 c5 := hv5
            subst hv5'
            clear hv5
            obtain ⟨q5, hq0⟩ := Since.refl y5.w
            rw [hq0]
            clear hq0
            go_wp2_with fail
            refine wp_region_since (by kernel_rfl) (by kernel_rfl) ?_
            repeat (go_big_quiet_step (fail))
            refine wpQuiet_nil ?_
            rintro _ ⟨z, rfl⟩
            go_wp2_with (at_builtin; (refine wpList_appendK (w0 := y3.w) ?hw rfl _ _ 35 rfl y3.w.heap.size (Nat.le_refl _) ?hb 31 (.agg #[.int .i64 0, .int .i64 0]) 16 sWin (.slice a5 0 c5) 0 (flat Win.cs []) rfl ?hown ⟨z.w.heap.size, 0, none⟩ 1 1 e.cs rfl rfl ?hc (win_one e) ?h63 ?hbytes ?_; rotate_right 1; intro v2 q2 hown4 _ hg4))
            case hw => obtain ⟨yz, hyz⟩ := y5.trans z; rw [hyz]; exact IsSince.alloc (IsSince.of yz) _
            case hb => have := y5.b.size; have := z.b.size; simp; omega
            case hown => exact own_to (own_to Hown.out ⟨z, rfl⟩) (IsSince.alloc (IsSince.self _) _)
            case hc => exact cell_new_at z.w e.cs _
            case h63 => unfold maxLen; omega
            case hbytes => omega
            rw [← flat_one Win.cs e, ← flat_append] at hown4
            have Hown4 := Lib.hid hown4
            clear hown4 hg4
            go_wp2_with fail
            go_roundw
            case rel => exact ⟨k + 1, [] ++ [e], q2, by omega, by go_num, rfl, by rw [List.length_append, List.length_singleton]; exact Hown4.out, HM2.out, by (try simp at *) <;> omega⟩
            case measure => simp [intOf] <;> omega
          · obtain ⟨o, lw, rfl⟩ := snoc_of hoe
            clear hoe
            have hm : (o ++ [lw]).length = o.length + 1 := by simp
            rw [hm] at Hown hok
            obtain ⟨g5, c5, rfl, hg5, hc5⟩ := own_some Hown.out (by omega)
            obtain ⟨kl, fl, _⟩ := own_cell Hown.out (flat_at Win.len (o ++ [lw]) o.length lw 1 (.int .i64 lw.t) (by simp) rfl)
            have hm0 : (0 : Int) ≤ (o.length : Int) := by omega
            have hmb : decide (0 ≤ (o.length : Int)) = true := decide_eq_true hm0
            have hm1 : (o.length : Int) ≤ 100000 := by omega
            have hlf := HM.out.b e.f Hpre.out lw (by simp)
            by_cases hle : e.f ≤ lw.t
            · have hleb : decide (e.f ≤ lw.t) = true := decide_eq_true hle
              have HM2 := Lib.hid (show Mrg (s.take (k + 1)) (o ++ [⟨lw.f, max lw.t e.t⟩]) by rw [Htk.out]; exact HM.out.join Hev.out hlf hle Hpre.out)
              clear hle hlf HM
              obtain ⟨q5, hq0⟩ := Since.refl y5.w
              rw [hq0]
              clear hq0
              go_wp2_with fail
              refine wp_region_since (by kernel_rfl) (by kernel_rfl) ?_
              repeat (go_big_quiet_step (fail))
              refine wpQuiet_nil ?_
              rintro _ ⟨z, rfl⟩
              go_upto_region 14 with fail
              have kl2 := Since.cellTo (⟨z, rfl⟩ : ∃ zz : Since y5.w, z.w = zz.w) kl
              have ke2 := Since.cellTo (⟨z, rfl⟩ : ∃ zz : Since y5.w, z.w = zz.w) Hhx1
              have fl2 : ∀ q : Since z.w, q.w.frozen? ⟨g5, o.length * 2 + 1, none⟩ = false := fun q => by
                obtain ⟨u, hu⟩ := z.trans q
                rw [hu]; exact fl u
              have Hown6 := Lib.hid (own_to Hown.out (⟨z, rfl⟩ : ∃ zz : Since y5.w, z.w = zz.w))
              obtain ⟨yz, hyz⟩ := y5.trans z
              have Hyz := Lib.hid hyz
              clear kl fl Hhx0 Hhx1 Hhxf hyz
              refine wp_region_tail (fun w' => ∃ q : Since (z.w), w' = q.w) [] [0, 1, 2, 3, 4, 5, 6, 7, 8, 9, 10, 11] 12 (by kernel_rfl) (by kernel_rfl) (fun _ _ _ _ _ h => h) (Since.drawn _) ?_
              simp only [List.nil_append, picks_cons, picks_nil, List.getD_cons_zero, List.getD_cons_succ]
              repeat (go_big_quiet_step (fail))
              refine wpQuiet_nil ?_
              rintro _ ⟨q, rfl⟩
              simp only [List.drop_succ_cons, List.drop_zero]
              obtain ⟨z2, hz2⟩ := z.trans q
              obtain ⟨yq, hyq⟩ := y5.trans z2
              have hsets := own_setcell (own_to Hown6.out (⟨q, rfl⟩ : ∃ zz : Since z.w, q.w = zz.w)) (j := o.length * 2 + 1) (by rw [flat_length Win.len]; simp; omega) (.int .i64 (max lw.t e.t))
              rw [win_set] at hsets
              have Hset := Lib.hid hsets
              obtain ⟨y6, h6⟩ := yq.set ⟨g5, o.length * 2 + 1, none⟩ (by show _ ≤ g5; exact hg5) (.int .i64 (max lw.t e.t))
              rw [← hyq, ← hz2] at h6
              have H6 := Lib.hid h6
              clear hsets h6 hz2 hyq
              go_wp2_with fail
              go_roundw
              case rel => exact ⟨k + 1, o ++ [⟨lw.f, max lw.t e.t⟩], y6, by omega, by go_num, H6.out, by rw [← H6.out, show (o ++ [(⟨lw.f, max lw.t e.t⟩ : Win)]).length = o.length + 1 by simp]; exact Hset.out, HM2.out, by simp; omega⟩
              case measure => simp [intOf] <;> omega
            · have hleb : decide (e.f ≤ lw.t) = false := decide_eq_false hle
              have HM2 := Lib.hid (show Mrg (s.take (k + 1)) ((o ++ [lw]) ++ [e]) by rw [Htk.out]; exact HM.out.new Hev.out hlt2 (norm_last HM.out.n (by omega)))
              clear hle hlf HM
              obtain ⟨q5, hq0⟩ := Since.refl y5.w
              rw [hq0]
              clear hq0
              go_wp2_with fail
              refine wp_region_since (by kernel_rfl) (by kernel_rfl) ?_
              repeat (go_big_quiet_step (fail))
              refine wpQuiet_nil ?_
              rintro _ ⟨z, rfl⟩
              go_wp2_with (at_builtin; (refine wpList_appendK (w0 := y3.w) ?hw rfl _ _ 35 rfl y3.w.heap.size (Nat.le_refl _) ?hb 31 (.agg #[.int .i64 0, .int .i64 0]) 16 sWin (.slice (some ⟨g5, 0, none⟩) (o.length + 1) c5) (o.length + 1) (flat Win.cs (o ++ [lw])) rfl ?hown ⟨z.w.heap.size, 0, none⟩ 1 1 e.cs rfl rfl ?hc (win_one e) ?h63 ?hbytes ?_; rotate_right 1; intro v2 q2 hown4 _ hg4))
              case hw => obtain ⟨yz, hyz⟩ := y5.trans z; rw [hyz]; exact IsSince.alloc (IsSince.of yz) _
              case hb => have := y5.b.size; have := z.b.size; simp; omega
              case hown => exact own_to (own_to Hown.out ⟨z, rfl⟩) (IsSince.alloc (IsSince.self _) _)
              case hc => exact cell_new_at z.w e.cs _
              case h63 => unfold maxLen; omega
              case hbytes => omega
              rw [← flat_one Win.cs e, ← flat_append] at hown4
              have Hown4 := Lib.hid hown4
              clear hown4 hg4
              go_wp2_with fail
              go_roundw
              case rel => exact ⟨k + 1, (o ++ [lw]) ++ [e], q2, by omega, by go_num, rfl, by rw [show ((o ++ [lw]) ++ [e]).length = o.length + 1 + 1 by simp]; exact Hown4.out, HM2.out, by (try simp at *) <;> omega⟩
              case measure => simp [intOf] <;> omega
      · obtain rfl : k = n := by omega
        have Hset := Lib.hid (show IsSet out (hasW l) from ⟨HM.out.n, fun t => by
          rw [HM.out.h, List.take_of_length_le (by have := Hsl.out; have := Hn.out; omega)]; exact hasW_perm Hp.out t⟩)
        obtain ⟨hlen, a5, c5, rfl, hc5, he5, _, _⟩ := own_els Win.len (by decide) Hown.out
        obtain ⟨y5, h5⟩ := y3.trans y
        have H5 := Lib.hid (HP.out a5 c5 out y5 (h5 ▸ he5) hc5 Hset.out (by have := Hn.out; omega))
        rw [h5]
        clear hlen hc5 he5 h5
        go_wp2_with fail
        exact H5.out
end Go.Proofs.Ytefodfpnedcodaa
/- The walks of windows, fourth part: two lists, their common part. -/
namespace Go.Proofs.Ytefodfpnedcodaa
open Go.RowKit

/-- a new block of two cells, behind a draw -/
theorem box2 (W : World) (u v : Value) (T : TypeId) : ∃ y : Since W, (W.alloc (.cells #[u, v] T)).drew = y.w ∧ (∀ q : Since y.w, q.w.cell? ⟨W.heap.size, 0, none⟩ = some u) ∧ (∀ q : Since y.w, q.w.cell? ⟨W.heap.size, 1, none⟩ = some v) := by
  have h0 : (W.alloc (.cells #[u, v] T)).drew.cell? ⟨W.heap.size, 0, none⟩ = some u := by simp [go_sem]
  have h1 : (W.alloc (.cells #[u, v] T)).drew.cell? ⟨W.heap.size, 1, none⟩ = some v := by simp [go_sem]
  have hl : W.heap.size < (W.alloc (.cells #[u, v] T)).drew.heap.size := by simp
  obtain ⟨y, hy⟩ := IsSince.drew' (IsSince.alloc (IsSince.self W) (.cells #[u, v] T))
  rw [hy] at h0 h1 hl
  exact ⟨y, hy, fun q => Since.cell h0 hl q, fun q => Since.cell h1 hl q⟩
def setE (a b : List Win) : Int := if badW a || badW b then 1 else 0
/-- the normal forms of two lists -/
structure BothOk (a b u v : List Win) : Prop where
  ok : (badW a || badW b) = false → IsSet u (hasW a) ∧ IsSet v (hasW b)
  no : (badW a || badW b) = true → u = [] ∧ v = []
  n : u.length ≤ a.length ∧ v.length ≤ b.length
def BothRes (w : World) (a b : List Win) (o : Ending) (w' : World) : Prop :=
  ∃ (ax : Option Addr) (cx : Nat) (u : List Win) (ay : Option Addr) (cy : Nat) (v : List Win) (y : Since w), o = .returned (.tuple #[.slice ax u.length cx, .slice ay v.length cy, .int .i64 (setE a b)]) ∧ w' = y.w ∧ WinRow y.w ax u ∧ WinRow y.w ay v ∧ u.length ≤ cx ∧ v.length ≤ cy ∧ BothOk a b u v
set_option maxRecDepth 100000 in
set_option maxHeartbeats 4000000 in
theorem both_calls (w : World) (x : Since w) (pa : Option Addr) (a : List Win) (ca : Nat) (pb : Option Addr) (b : List Win) (cb : Nat) (ha : WinRow w pa a) (hb : WinRow w pb b) (hla : a.length ≤ 100000) (hlb : b.length ≤ 100000) :
    Calls Try.prog 55 #[.slice pa a.length ca, .slice pb b.length cb] x.w (BothRes w a b) := by
  have HA := Lib.hid (union_calls w x pa a ca ha hla)
  have HB := Lib.hid (fun y : Since w => union_calls y.w (Since.self _) pb b cb (Since.els hb y) hlb)
  have Hno := Lib.hid (show ∀ y : Since w, (badW a || badW b) = true → BothRes w a b (.returned (.tuple #[.slice none 0 0, .slice none 0 0, .int .i64 1])) y.w from fun y h =>
    ⟨none, 0, [], none, 0, [], y, by unfold setE; rw [h]; rfl, rfl, els_nil _ _, els_nil _ _, Nat.le_refl _, Nat.le_refl _, ⟨fun h' => by rw [h] at h'; (cases h'), fun _ => ⟨rfl, rfl⟩, by simp, by simp⟩⟩)
  clear ha hb
  cases hba : badW a with
  | true =>
    have H1 := Lib.hid (fun y : Since w => Hno.out y (by rw [hba]; rfl))
    have Hu := Lib.hid (show unE a = 1 by unfold unE; rw [hba]; rfl)
    generalize BothRes w a b = PO at *
    clear hba Hno HB
    go_enter Try.func55, Try.ntmps55
    go_wp2_with fail
    refine HA.out.mono ?_
    rintro _ _ ⟨ax, cx, u, y1, rfl, rfl, _, _, _⟩
    rw [Hu.out]
    go_wp2_with fail
    go_ret3
    exact H1.out y1
  | false =>
    have Hu := Lib.hid (show unE a = 0 by unfold unE; rw [hba]; rfl)
    cases hbb : badW b with
    | true =>
      have H1 := Lib.hid (fun y : Since w => Hno.out y (by rw [hbb]; simp))
      have Hv := Lib.hid (show unE b = 1 by unfold unE; rw [hbb]; rfl)
      generalize BothRes w a b = PO at *
      clear hba hbb Hno
      go_enter Try.func55, Try.ntmps55
      go_wp2_with fail
      refine HA.out.mono ?_
      rintro _ _ ⟨ax, cx, u, y1, rfl, rfl, _, _, _⟩
      rw [Hu.out]
      go_wp2_with fail
      refine (HB.out y1).mono ?_
      rintro _ _ ⟨ay, cy, v, z1, rfl, rfl, _, _, _⟩
      obtain ⟨y2, h2⟩ := y1.trans z1
      rw [Hv.out, h2]
      clear h2
      go_wp2_with fail
      go_ret3
      exact H1.out y2
    | false =>
      have Hv := Lib.hid (show unE b = 0 by unfold unE; rw [hbb]; rfl)
      have Hb0 := Lib.hid (And.intro hba hbb)
      have Hse := Lib.hid (show setE a b = 0 by unfold setE; rw [hba, hbb]; rfl)
      clear hba hbb Hno
      go_enter Try.func55, Try.ntmps55
      go_wp2_with fail
      refine HA.out.mono ?_
      rintro _ _ ⟨ax, cx, u, y1, rfl, rfl, hu1, hu2, hu3⟩
      have HU := Lib.hid (And.intro hu1 (And.intro hu2 hu3))
      clear hu1 hu2 hu3
      rw [Hu.out]
      go_wp2_with fail
      refine (HB.out y1).mono ?_
      rintro _ _ ⟨ay, cy, v, z1, rfl, rfl, hv1, hv2, hv3⟩
      have HV := Lib.hid (And.intro hv1 (And.intro hv2 hv3))
      have HU1 := Lib.hid (Since.els HU.out.1 z1)
      clear hv1 hv2 hv3
      obtain ⟨y2, h2⟩ := y1.trans z1
      rw [h2] at HV HU1
      rw [Hv.out, h2]
      clear h2
      go_wp2_with fail
      go_ret3
      exact ⟨ax, cx, u, ay, cy, v, y2, by rw [Hse.out]; rfl, rfl, HU1.out, HV.out.1, HU.out.2.1, HV.out.2.1, ⟨fun _ => ⟨HU.out.2.2.ok Hb0.out.1, HV.out.2.2.ok Hb0.out.2⟩, fun h => by rw [Hb0.out.1, Hb0.out.2] at h; (cases h), HU.out.2.2.n, HV.out.2.2.n⟩⟩
/-- what the common part of two lists is -/
structure ComOk (a b c : List Win) : Prop where
  ok : (badW a || badW b) = false → IsSet c (fun t => hasW a t && hasW b t)
  no : (badW a || badW b) = true → c = []
  n : c.length ≤ a.length + b.length
theorem ComOk.unique {a b u v : List Win} (h : ComOk a b u) (k : ComOk a b v) : u = v := by
  cases hb : badW a || badW b
  · exact (h.ok hb).unique (k.ok hb)
  · rw [h.no hb, k.no hb]
set_option maxRecDepth 100000 in
set_option maxHeartbeats 8000000 in
theorem common_calls (w : World) (x : Since w) (pa : Option Addr) (a : List Win) (ca : Nat) (pb : Option Addr) (b : List Win) (cb : Nat) (ha : WinRow w pa a) (hb : WinRow w pb b) (hla : a.length ≤ 100000) (hlb : b.length ≤ 100000) :
    Calls Try.prog 39 #[.slice pa a.length ca, .slice pb b.length cb] x.w (SetRes w (ComOk a b) (setE a b)) := by
  have HB := Lib.hid (both_calls w x pa a ca pb b cb ha hb hla hlb)
  have Hse := Lib.hid (show setE a b = if badW a || badW b then 1 else 0 from rfl)
  clear ha hb
  cases hbd : badW a || badW b with
  | true =>
    have H1 := Lib.hid (show ∀ y : Since w, SetRes w (ComOk a b) (setE a b) (.returned (.tuple #[.slice none 0 0, .int .i64 1])) y.w from fun y => by
      rw [Hse.out, hbd]; exact setRes_nil ⟨fun h => by rw [hbd] at h; (cases h), fun _ => rfl, by simp⟩ y)
    rw [hbd] at Hse
    generalize SetRes w (ComOk a b) (setE a b) = PO at *
    clear hbd
    go_enter Try.func39, Try.ntmps39
    go_wp2_with fail
    refine HB.out.mono ?_
    rintro _ _ ⟨ax, cx, u, ay, cy, v, y1, rfl, rfl, _⟩
    rw [Hse.out]
    go_wp2_with fail
    exact H1.out y1
  | false =>
    have HP := Lib.hid (show ∀ (p : Option Addr) (cap : Nat) (u : List Win) (y : Since w), WinRow y.w p u → u.length ≤ cap → IsSet u (fun t => hasW a t && hasW b t) → u.length ≤ a.length + b.length → SetRes w (ComOk a b) (setE a b) (.returned (.tuple #[.slice p u.length cap, .int .i64 0])) y.w from fun p cap u y h1 h2 h3 h4 => by
      rw [Hse.out, hbd]; exact ⟨p, cap, u, y, rfl, rfl, h1, h2, ⟨fun _ => h3, fun h => by rw [hbd] at h; (cases h), h4⟩⟩)
    have Hbd := Lib.hid hbd
    rw [hbd] at Hse
    generalize SetRes w (ComOk a b) (setE a b) = PO at *
    clear hbd
    go_enter Try.func39, Try.ntmps39
    go_wp2_with fail
    refine HB.out.mono ?_
    rintro _ _ ⟨ax, cx, U, ay, cy, V, y1, rfl, rfl, hU, hV, hcx, hcy, hB⟩
    obtain ⟨hsU, hsV⟩ := hB.ok Hbd.out
    have hlU := hB.n.1
    have hlV := hB.n.2
    have Hst := Lib.hid (show Com U V U V [] from com_start hsU.n hsV.n)
    have Hhas := Lib.hid (And.intro hsU.h hsV.h)
    have HU0 := Lib.hid hU; have HV0 := Lib.hid hV
    obtain ⟨N, hN⟩ : ∃ N, N = U.length + V.length := ⟨_, rfl⟩
    have HN := Lib.hid hN
    rw [Hse.out]
    clear hB hsU hsV hU hV hN
    go_wp2_with fail
    go_loopw [6, 7, 9] (fun sx sy so wr => ∃ (p : Option Addr) (nx dx : Nat) (q : Option Addr) (ny dy : Nat) (xs ys out : List Win) (y : Since y1.w), sx = .slice p nx dx ∧ nx = xs.length ∧ nx ≤ dx ∧ sy = .slice q ny dy ∧ ny = ys.length ∧ ny ≤ dy ∧ WinRow y1.w p xs ∧ WinRow y1.w q ys ∧ wr = y.w ∧ y.w.ownsRow y1.w.heap.size 31 2 so out.length (flat Win.cs out) ∧ Com U V xs ys out ∧ out.length + nx + ny ≤ N) (fun sx sy _ _ => (match sx, sy with | .slice _ m _, .slice _ k _ => m + k | _, _ => 0))
    case atStart => exact ⟨ax, U.length, cx, ay, V.length, cy, U, V, [], Since.self _, rfl, rfl, hcx, rfl, rfl, hcy, HU0.out, HV0.out, rfl, ⟨rfl, .inl ⟨rfl, rfl⟩⟩, Hst.out, by have := HN.out; simp; omega⟩
    case round =>
      clear Hst HU0 HV0 hcx hcy
      obtain ⟨p, nx, dx, q, ny, dy, xs, ys, out, y, rfl, hnx, hdx, rfl, hny, hdy, hxs, hys, rfl, hown, hC, hlen⟩ := hrel
      have Hnx := Lib.hid hnx; have Hny := Lib.hid hny; have Hxs := Lib.hid hxs; have Hys := Lib.hid hys; have Hown := Lib.hid hown; have HC := Lib.hid hC
      have hNb : N ≤ 200000 := by have := HN.out; omega
      clear hnx hny hxs hys hown hC
      by_cases h0 : 0 < nx ∧ 0 < ny
      · obtain ⟨h1, h2⟩ := h0
        obtain ⟨ea, xs', rfl⟩ : ∃ e l, xs = e :: l := by
          cases xs with
          | nil => have := Hnx.out; simp at this; omega
          | cons e l => exact ⟨e, l, rfl⟩
        obtain ⟨eb, ys', rfl⟩ : ∃ e l, ys = e :: l := by
          cases ys with
          | nil => have := Hny.out; simp at this; omega
          | cons e l => exact ⟨e, l, rfl⟩
        obtain ⟨b1, off1, rfl, h1'⟩ := Els.win (Since.els Hxs.out y) (k := 0) rfl
        obtain ⟨b2, off2, rfl, h2'⟩ := Els.win (Since.els Hys.out y) (k := 0) rfl
        have ka0 := fun w' (h : IsSince y.w w') => IsSince.cell h1'.c0 h
        have ka1 := fun w' (h : IsSince y.w w') => IsSince.cell h1'.c1 h
        have kb0 := fun w' (h : IsSince y.w w') => IsSince.cell h2'.c0 h
        have kb1 := fun w' (h : IsSince y.w w') => IsSince.cell h2'.c1 h
        simp only [Nat.zero_mul, Nat.add_zero] at ka0 ka1 kb0 kb1
        clear h1' h2'
        have hx0 : (0 : Int) < (nx : Int) := by omega
        have hy0 : (0 : Int) < (ny : Int) := by omega
        go_upto_region 6 with fail
        go_cut [10] (fun s10 wr => ∃ (gw : Nat) (y5 : Since y.w), s10 = .pointer (some ⟨gw, 0, none⟩) ∧ wr = y5.w ∧ (∀ q : Since y5.w, q.w.cell? ⟨gw, 0, none⟩ = some (.int .i64 (max ea.f eb.f))) ∧ (∀ q : Since y5.w, q.w.cell? ⟨gw, 1, none⟩ = some (.int .i64 (min ea.t eb.t))))
        case first =>
          go_region_held3 (fun w' => IsSince y.w w') (first | assumption | exact IsSince.drew' (IsSince.self _) | exact IsSince.alloc (by assumption) _ | exact IsSince.drew' (IsSince.alloc (IsSince.self _) _)) (fail)
          all_goals
            go_wp2_with fail
            go_meet
            obtain ⟨y5, h1, h2, h3⟩ := box2 y.w (.int .i64 (max ea.f eb.f)) (.int .i64 (min ea.t eb.t)) 31
            exact ⟨_, y5, rfl, h1, h2, h3⟩
        case rest =>
          obtain ⟨gw, y5, rfl, rfl, Hhx0, Hhx1⟩ := hcut
          replace Hown := Lib.hid (own_to Hown.out (⟨y5, rfl⟩ : ∃ zz : Since y.w, y5.w = zz.w))
          obtain ⟨y5', h5'⟩ := y.trans y5
          have H5' := Lib.hid h5'
          clear h5' ka0 ka1 kb0 kb1
          have hle : ea.t < eb.t ∨ eb.t ≤ ea.t := by omega
          have Hcut := Lib.hid (show cutW ea eb = ⟨max ea.f eb.f, min ea.t eb.t⟩ from rfl)
          generalize max ea.f eb.f = F at *
          generalize min ea.t eb.t = T at *
          have hol : out.length ≤ 200000 := by omega
          have Hx1 := Lib.hid (show nx - 1 = xs'.length by have := Hnx.out; simp at this; omega)
          have Hy1 := Lib.hid (show ny - 1 = ys'.length by have := Hny.out; simp at this; omega)
          have Hxc := Lib.hid ((Hxs.out.cut 1 dx (by have := Hnx.out; omega)))
          have Hyc := Lib.hid ((Hys.out.cut 1 dy (by have := Hny.out; omega)))
          rw [List.drop_succ_cons, List.drop_zero] at Hxc Hyc
          obtain ⟨q5, hq0⟩ := Since.refl y5.w
          rw [hq0]
          clear hq0
          have hft : F < T ∨ ¬ F < T := by omega
          rcases hft with hft | hft
          · have Hadd := Lib.hid (show addW out (cutW ea eb) = out ++ [⟨F, T⟩] by rw [Hcut.out]; exact addW_yes hft)
            go_upto_region 9 with (at_builtin; (refine wpList_appendK (w0 := y1.w) ?hw rfl _ _ 35 rfl y1.w.heap.size (Nat.le_refl _) ?hb 31 (.agg #[.int .i64 0, .int .i64 0]) 16 sWin u9 out.length (flat Win.cs out) rfl ?hown ⟨q5.w.heap.size, 0, none⟩ 1 1 (⟨F, T⟩ : Win).cs rfl rfl ?hc (win_one _) ?h63 ?hbytes ?_; rotate_right 1; intro v2 q2 hown4 _ hg4))
            case hw => obtain ⟨yz, hyz⟩ := y5.trans q5; rw [hyz]; obtain ⟨yq, hyq⟩ := y.trans yz; rw [hyq]; exact IsSince.alloc (IsSince.of yq) _
            case hb => have := y.b.size; have := y5.b.size; have := q5.b.size; simp; omega
            case hown => exact own_to (own_to Hown.out ⟨q5, rfl⟩) (IsSince.alloc (IsSince.self _) _)
            case hc => exact cell_new_at q5.w (⟨F, T⟩ : Win).cs _
            case h63 => unfold maxLen; omega
            case hbytes => omega
            rw [← flat_one Win.cs (⟨F, T⟩ : Win), ← flat_append] at hown4
            have Hown4 := Lib.hid (show q2.w.ownsRow y1.w.heap.size 31 2 v2 (out ++ [(⟨F, T⟩ : Win)]).length (flat Win.cs (out ++ [(⟨F, T⟩ : Win)])) by rw [List.length_append, List.length_singleton]; exact hown4)
            clear hown4 hg4 hft Hown
            obtain ⟨b3, off3, hbo3, hc3⟩ := Els.win Hxs.out (k := 0) rfl
            obtain ⟨b4, off4, hbo4, hc4⟩ := Els.win Hys.out (k := 0) rfl
            simp only [Option.some.injEq, Addr.mk.injEq, and_true] at hbo3 hbo4
            obtain ⟨rfl, rfl⟩ := hbo3
            obtain ⟨rfl, rfl⟩ := hbo4
            have ra1 := Since.cellTo (IsSince.of q2) hc3.c1
            have rb1 := Since.cellTo (IsSince.of q2) hc4.c1
            simp only [Nat.zero_mul, Nat.add_zero] at ra1 rb1
            clear hc3 hc4 Hhx0 Hhx1
            obtain ⟨q6, hq0⟩ := Since.refl q2.w
            rw [hq0]
            clear hq0
            rcases hle with hle | hle
            · have hleb : decide (ea.t < eb.t) = true := decide_eq_true hle
              have Hstep := Lib.hid (by have h := HC.out.left hle; rw [Hadd.out] at h; exact h)
              clear HC Hadd hle
              go_wp2_with fail
              refine wp_region_since (by kernel_rfl) (by kernel_rfl) ?_
              repeat (go_big_quiet_step (fail))
              refine wpQuiet_nil ?_
              rintro _ ⟨z, rfl⟩
              go_wp2_with fail
              obtain ⟨z2, hz2⟩ := (IsSince.of q2 : IsSince y1.w q2.w)
              have Hown6 := Lib.hid (own_to Hown4.out (⟨z, rfl⟩ : ∃ zz : Since q2.w, z.w = zz.w))
              obtain ⟨y6, h6⟩ := q2.trans z
              rw [h6] at Hown6 ⊢
              clear h6 hz2
              go_roundw
              case rel => exact ⟨_, nx - 1, dx - 1, _, ny, dy, xs', eb :: ys', out ++ [⟨F, T⟩], y6, rfl, Hx1.out, by omega, rfl, Hny.out, hdy, Hxc.out, Hys.out, rfl, Hown6.out, Hstep.out, by simp; omega⟩
              case measure => simp; omega
            · have hleb : decide (ea.t < eb.t) = false := decide_eq_false (by omega)
              have Hstep := Lib.hid (by have h := HC.out.right hle; rw [Hadd.out] at h; exact h)
              clear HC Hadd hle
              go_wp2_with fail
              refine wp_region_since (by kernel_rfl) (by kernel_rfl) ?_
              repeat (go_big_quiet_step (fail))
              refine wpQuiet_nil ?_
              rintro _ ⟨z, rfl⟩
              go_wp2_with fail
              obtain ⟨z2, hz2⟩ := (IsSince.of q2 : IsSince y1.w q2.w)
              have Hown6 := Lib.hid (own_to Hown4.out (⟨z, rfl⟩ : ∃ zz : Since q2.w, z.w = zz.w))
              obtain ⟨y6, h6⟩ := q2.trans z
              rw [h6] at Hown6 ⊢
              clear h6 hz2
              go_roundw
              case rel => exact ⟨_, nx, dx, _, ny - 1, dy - 1, ea :: xs', ys', out ++ [⟨F, T⟩], y6, rfl, Hnx.out, hdx, rfl, Hy1.out, by omega, Hxs.out, Hyc.out, rfl, Hown6.out, Hstep.out, by simp; omega⟩
              case measure => simp; omega
          · have Hadd := Lib.hid (show addW out (cutW ea eb) = out by rw [Hcut.out]; exact addW_no hft)
            go_upto_region 9 with fail
            obtain ⟨q1, hq1⟩ := y5.trans q5
            obtain ⟨q2, hq2⟩ := y.trans q1
            rw [← hq1] at hq2
            have Hown4 := Lib.hid (own_to Hown.out (⟨q5, rfl⟩ : ∃ zz : Since y5.w, q5.w = zz.w))
            rw [hq2] at Hown4 ⊢
            clear hq1 hq2 hft Hown
            obtain ⟨b3, off3, hbo3, hc3⟩ := Els.win Hxs.out (k := 0) rfl
            obtain ⟨b4, off4, hbo4, hc4⟩ := Els.win Hys.out (k := 0) rfl
            simp only [Option.some.injEq, Addr.mk.injEq, and_true] at hbo3 hbo4
            obtain ⟨rfl, rfl⟩ := hbo3
            obtain ⟨rfl, rfl⟩ := hbo4
            have ra1 := Since.cellTo (IsSince.of q2) hc3.c1
            have rb1 := Since.cellTo (IsSince.of q2) hc4.c1
            simp only [Nat.zero_mul, Nat.add_zero] at ra1 rb1
            clear hc3 hc4 Hhx0 Hhx1
            obtain ⟨q6, hq0⟩ := Since.refl q2.w
            rw [hq0]
            clear hq0
            rcases hle with hle | hle
            · have hleb : decide (ea.t < eb.t) = true := decide_eq_true hle
              have Hstep := Lib.hid (by have h := HC.out.left hle; rw [Hadd.out] at h; exact h)
              clear HC Hadd hle
              go_wp2_with fail
              refine wp_region_since (by kernel_rfl) (by kernel_rfl) ?_
              repeat (go_big_quiet_step (fail))
              refine wpQuiet_nil ?_
              rintro _ ⟨z, rfl⟩
              go_wp2_with fail
              obtain ⟨z2, hz2⟩ := (IsSince.of q2 : IsSince y1.w q2.w)
              have Hown6 := Lib.hid (own_to Hown4.out (⟨z, rfl⟩ : ∃ zz : Since q2.w, z.w = zz.w))
              obtain ⟨y6, h6⟩ := q2.trans z
              rw [h6] at Hown6 ⊢
              clear h6 hz2
              go_roundw
              case rel => exact ⟨_, nx - 1, dx - 1, _, ny, dy, xs', eb :: ys', out, y6, rfl, Hx1.out, by omega, rfl, Hny.out, hdy, Hxc.out, Hys.out, rfl, Hown6.out, Hstep.out, by omega⟩
              case measure => simp; omega
            · have hleb : decide (ea.t < eb.t) = false := decide_eq_false (by omega)
              have Hstep := Lib.hid (by have h := HC.out.right hle; rw [Hadd.out] at h; exact h)
              clear HC Hadd hle
              go_wp2_with fail
              refine wp_region_since (by kernel_rfl) (by kernel_rfl) ?_
              repeat (go_big_quiet_step (fail))
              refine wpQuiet_nil ?_
              rintro _ ⟨z, rfl⟩
              go_wp2_with fail
              obtain ⟨z2, hz2⟩ := (IsSince.of q2 : IsSince y1.w q2.w)
              have Hown6 := Lib.hid (own_to Hown4.out (⟨z, rfl⟩ : ∃ zz : Since q2.w, z.w = zz.w))
              obtain ⟨y6, h6⟩ := q2.trans z
              rw [h6] at Hown6 ⊢
              clear h6 hz2
              go_roundw
              case rel => exact ⟨_, nx, dx, _, ny - 1, dy - 1, ea :: xs', ys', out, y6, rfl, Hnx.out, hdx, rfl, Hy1.out, by omega, Hxs.out, Hyc.out, rfl, Hown6.out, Hstep.out, by omega⟩
              case measure => simp; omega
      · have Hdone := Lib.hid (show IsSet out (fun t => hasW a t && hasW b t) from by
          have h9 := HC.out.done (by
            rcases (by omega : nx = 0 ∨ ny = 0) with h | h
            · left; exact List.eq_nil_of_length_eq_zero (by rw [← Hnx.out]; exact h)
            · right; exact List.eq_nil_of_length_eq_zero (by rw [← Hny.out]; exact h))
          exact ⟨h9.n, fun t => by rw [h9.h]; show (hasW U t && hasW V t) = _; rw [Hhas.out.1, Hhas.out.2]⟩)
        obtain ⟨hlen1, a5, c5, rfl, hc5, he5, _, _⟩ := own_els Win.len (by decide) Hown.out
        obtain ⟨y5, h5⟩ := y1.trans y
        have H5 := Lib.hid (HP.out a5 c5 out y5 (h5 ▸ he5) hc5 Hdone.out (by have := HN.out; omega))
        rw [h5]
        clear hlen1 hc5 he5 h5
        rcases (by omega : nx = 0 ∨ (0 < nx ∧ ny = 0)) with h | ⟨h, h'⟩
        · subst h
          go_wp2_with fail
          exact H5.out
        · subst h'
          have hx0 : (0 : Int) < (nx : Int) := by omega
          go_wp2_with fail
          exact H5.out
end Go.Proofs.Ytefodfpnedcodaa
/- The walks of windows, fifth part: the difference. -/
namespace Go.Proofs.Ytefodfpnedcodaa
open Go.RowKit

/-- what the difference of two lists is -/
structure MinOk (a b c : List Win) : Prop where
  ok : (badW a || badW b) = false → IsSet c (fun t => hasW a t && !hasW b t)
  no : (badW a || badW b) = true → c = []
  n : c.length ≤ a.length * (b.length + 1)
theorem MinOk.unique {a b u v : List Win} (h : MinOk a b u) (k : MinOk a b v) : u = v := by
  cases hb : badW a || badW b
  · exact (h.ok hb).unique (k.ok hb)
  · rw [h.no hb, k.no hb]
theorem add_len (out : List Win) (w : Win) : (addW out w).length ≤ out.length + 1 := by unfold addW; split <;> simp
set_option maxRecDepth 100000 in
set_option maxHeartbeats 16000000 in
theorem minus_calls (w : World) (x : Since w) (pa : Option Addr) (a : List Win) (ca : Nat) (pb : Option Addr) (b : List Win) (cb : Nat) (ha : WinRow w pa a) (hb : WinRow w pb b) (hla : a.length ≤ 100000) (hlb : b.length ≤ 100000) :
    Calls Try.prog 41 #[.slice pa a.length ca, .slice pb b.length cb] x.w (SetRes w (MinOk a b) (setE a b)) := by
  have HB := Lib.hid (both_calls w x pa a ca pb b cb ha hb hla hlb)
  have Hse := Lib.hid (show setE a b = if badW a || badW b then 1 else 0 from rfl)
  clear ha hb
  cases hbd : badW a || badW b with
  | true =>
    have H1 := Lib.hid (show ∀ y : Since w, SetRes w (MinOk a b) (setE a b) (.returned (.tuple #[.slice none 0 0, .int .i64 1])) y.w from fun y => by
      rw [Hse.out, hbd]; exact setRes_nil ⟨fun h => by rw [hbd] at h; (cases h), fun _ => rfl, by simp⟩ y)
    rw [hbd] at Hse
    generalize SetRes w (MinOk a b) (setE a b) = PO at *
    clear hbd
    go_enter Try.func41, Try.ntmps41
    go_wp2_with fail
    refine HB.out.mono ?_
    rintro _ _ ⟨ax, cx, u, ay, cy, v, y1, rfl, rfl, _⟩
    rw [Hse.out]
    go_wp2_with fail
    exact H1.out y1
  | false =>
    have HP := Lib.hid (show ∀ (p : Option Addr) (cap : Nat) (u : List Win) (y : Since w), WinRow y.w p u → u.length ≤ cap → IsSet u (fun t => hasW a t && !hasW b t) → u.length ≤ a.length * (b.length + 1) → SetRes w (MinOk a b) (setE a b) (.returned (.tuple #[.slice p u.length cap, .int .i64 0])) y.w from fun p cap u y h1 h2 h3 h4 => by
      rw [Hse.out, hbd]; exact ⟨p, cap, u, y, rfl, rfl, h1, h2, ⟨fun _ => h3, fun h => by rw [hbd] at h; (cases h), h4⟩⟩)
    have Hbd := Lib.hid hbd
    rw [hbd] at Hse
    generalize SetRes w (MinOk a b) (setE a b) = PO at *
    clear hbd
    go_enter Try.func41, Try.ntmps41
    go_wp2_with fail
    refine HB.out.mono ?_
    rintro _ _ ⟨ax, cx, U, ay, cy, V, y1, rfl, rfl, hU, hV, hcx, hcy, hB⟩
    obtain ⟨hsU, hsV⟩ := hB.ok Hbd.out
    have hlU := hB.n.1
    have hlV := hB.n.2
    have Hhas := Lib.hid (And.intro hsU.h hsV.h)
    have HnU := Lib.hid hsU.n; have HnV := Lib.hid hsV.n
    have HU0 := Lib.hid hU; have HV0 := Lib.hid hV
    obtain ⟨nu, hnu⟩ : ∃ nu, nu = U.length := ⟨_, rfl⟩
    obtain ⟨M, hM⟩ : ∃ M, M = V.length := ⟨_, rfl⟩
    rw [← hnu, ← hM, Hse.out]
    rw [← hnu] at hlU
    rw [← hM] at hlV hcy
    have Hnu := Lib.hid hnu; have HM := Lib.hid hM
    have hnu2 : nu ≤ 100000 := by omega
    have hM2 : M ≤ 100000 := by omega
    clear hB hsU hsV hU hV hnu hM hcx
    go_wp2_with fail
    go_loopw [7, 9, 27] (fun sy so si wr => ∃ (k : Nat) (q : Option Addr) (ny dy : Nat) (yd ys out : List Win) (y : Since y1.w), si = .int .i64 k ∧ k ≤ nu ∧ sy = .slice q ny dy ∧ ny = ys.length ∧ ny ≤ dy ∧ ny ≤ M ∧ V = yd ++ ys ∧ WinRow y1.w q ys ∧ wr = y.w ∧ y.w.ownsRow y1.w.heap.size 31 2 so out.length (flat Win.cs out) ∧ MinO V (U.take k) (U.drop k) out ∧ (∀ c ∈ yd, ∀ e ∈ U.drop k, c.t ≤ e.f) ∧ out.length ≤ k * (M + 1)) (fun _ _ si _ => nu - (intOf si).toNat)
    case atStart => exact ⟨0, ay, M, cy, [], V, [], Since.self _, rfl, by omega, rfl, HM.out, hcy, Nat.le_refl _, rfl, HV0.out, rfl, ⟨rfl, .inl ⟨rfl, rfl⟩⟩, minO_start V U, fun c hc => (by cases hc), by simp⟩
    case round =>
      clear hcy
      obtain ⟨k, q, ny, dy, yd, ys, out, y, rfl, hk, rfl, hny, hdy, hnM, hV, hys, rfl, hown, hO, hyd, hlen⟩ := hrel
      have Hny := Lib.hid hny; have HV := Lib.hid hV; have Hys := Lib.hid hys; have Hown := Lib.hid hown; have HO := Lib.hid hO; have Hyd := Lib.hid hyd
      clear hny hV hys hown hO hyd
      by_cases hlt : k < nu
      · obtain ⟨e, he⟩ : ∃ e, U[k]? = some e := ⟨_, List.getElem?_eq_getElem (by have := Hnu.out; omega)⟩
        have hk0 : (0 : Int) ≤ (k : Int) := by omega
        have hkl : (k : Int) < (nu : Int) := by omega
        have hdk : U.drop k = e :: U.drop (k + 1) := by
          have h1 := List.getElem?_eq_some_iff.1 he
          rw [← h1.2, ← List.drop_eq_getElem_cons h1.1]
        have htk : U.take (k + 1) = U.take k ++ [e] := by rw [List.take_add_one, he]; rfl
        rw [hdk] at HO Hyd
        have Hev := Lib.hid (HnU.out.v e (List.mem_of_getElem? he))
        have HeU := Lib.hid (show Norm (e :: U.drop (k + 1)) by rw [← hdk]; exact HnU.out.drop k)
        have Htk := Lib.hid htk
        obtain ⟨b1, off1, rfl, h1'⟩ := Els.win HU0.out he
        have ra0 := h1'.c0
        have ra1 := h1'.c1
        obtain ⟨KB, hKB⟩ : ∃ KB, KB = k * (M + 1) := ⟨_, rfl⟩
        have hKB2 : KB ≤ 10000100000 := by
          rw [hKB]
          calc k * (M + 1) ≤ 100000 * 100001 := Nat.mul_le_mul (by omega) (by omega)
            _ = 10000100000 := rfl
        rw [← hKB] at hlen
        have HKB := Lib.hid hKB
        clear h1' he hdk htk hKB
        go_upto_region 8 with fail
        have hx0 : (y.w.alloc (.cells #[.int .i64 e.f, .int .i64 e.t] 31)).cell? ⟨y.w.heap.size, 0, none⟩ = some (.int .i64 e.f) := by simp [go_sem]
        have hx1 : (y.w.alloc (.cells #[.int .i64 e.f, .int .i64 e.t] 31)).cell? ⟨y.w.heap.size, 1, none⟩ = some (.int .i64 e.t) := by simp [go_sem]
        have hxf : ∀ o, (y.w.alloc (.cells #[.int .i64 e.f, .int .i64 e.t] 31)).frozen? ⟨y.w.heap.size, o, none⟩ = false := fun o => by simp [go_sem]
        have hlt0 : y.w.heap.size < (y.w.alloc (.cells #[.int .i64 e.f, .int .i64 e.t] 31)).heap.size := by simp
        have hst0 : ∃ zz : Since y.w, (y.w.alloc (.cells #[.int .i64 e.f, .int .i64 e.t] 31)) = zz.w := IsSince.alloc (IsSince.self _) _
        have hsz0 := y.b.size
        obtain ⟨y5, e2⟩ := IsSince.alloc (IsSince.of y) (.cells #[.int .i64 e.f, .int .i64 e.t] 31)
        rw [e2] at hx0 hx1 hxf hlt0 hst0 ⊢
        (have hne : ∀ b, u9.ownBlock = some b → b < y.w.heap.size := fun b hb => (World.ownsRow.lt Hown.out b hb).2; replace Hown := Lib.hid (own_to Hown.out hst0))
        clear e2 hst0
        generalize y.w.heap.size = gw at *
        have Hhx0 : ∀ q : Since y5.w, q.w.cell? ⟨gw, 0, none⟩ = some (.int .i64 e.f) := fun q => Since.cell hx0 (by omega) q
        have Hhx1 : ∀ q : Since y5.w, q.w.cell? ⟨gw, 1, none⟩ = some (.int .i64 e.t) := fun q => Since.cell hx1 (by omega) q
        have Hhxf : ∀ (q : Since y5.w) (o : Nat), q.w.frozen? ⟨gw, o, none⟩ = false := fun q o => Since.free (hxf o) (by omega) q
        have Hhxg := Lib.hid (And.intro hsz0 hlt0)
        clear hlt0 hsz0
        have Hbx := Lib.hid (⟨Hhxg.out.2, hx0, hx1, fun b hb => by have := hne b hb; omega⟩ : WBox y5.w gw (.int .i64 e.f) (.int .i64 e.t) u9)
        clear hx0 hx1 hxf hne ra0 ra1
        have Hyde := Lib.hid (show ∀ c ∈ yd, c.t ≤ e.f from fun c hc => Hyd.out c hc e (by simp))
        clear Hyd
        go_loopw [7] (fun sy wr => ∃ (q : Option Addr) (ny dy : Nat) (yd ys : List Win) (y6 : Since y5.w), sy = .slice q ny dy ∧ ny = ys.length ∧ ny ≤ dy ∧ ny ≤ M ∧ V = yd ++ ys ∧ WinRow y1.w q ys ∧ wr = y6.w ∧ (∀ c ∈ yd, c.t ≤ e.f)) (fun sy _ => (match sy with | .slice _ m _ => m | _ => 0))
        case atStart => exact ⟨q, ny, dy, yd, ys, Since.self _, rfl, Hny.out, hdy, hnM, HV.out, Hys.out, rfl, Hyde.out⟩
        case round =>
          clear Hny HV Hys Hyde hdy hnM
          obtain ⟨q, ny, dy, yd, ys, y6, rfl, hny, hdy, hnM, hV, hys, rfl, hyd⟩ := hrel
          have Hny := Lib.hid hny; have HV := Lib.hid hV; have Hys := Lib.hid hys; have Hyde := Lib.hid hyd
          clear hny hV hys hyd
          have hhead : (∃ b0 ys', ys = b0 :: ys' ∧ b0.t ≤ e.f) ∨ (∀ b0 ys', ys = b0 :: ys' → e.f < b0.t) := by
            cases ys with
            | nil => right; intro b0 ys' h; cases h
            | cons b0 ys' =>
              rcases (by omega : b0.t ≤ e.f ∨ e.f < b0.t) with h | h
              · exact .inl ⟨b0, ys', rfl, h⟩
              · right; intro b1 ys1 h1; cases h1; exact h
          rcases hhead with ⟨b0, ys', rfl, hb0⟩ | hstop
          · have hb0b : decide (b0.t ≤ e.f) = true := decide_eq_true hb0
            have h1 : 0 < ny := by have := Hny.out; simp at this; omega
            have hx0 : (0 : Int) < (ny : Int) := by omega
            have hx0b : decide ((0 : Int) < (ny : Int)) = true := decide_eq_true hx0
            have hx0c : decide (0 < ny) = true := decide_eq_true h1
            obtain ⟨yz, hyz⟩ := y5.trans y6
            obtain ⟨b2, off2, rfl, h2'⟩ := Els.win Hys.out (k := 0) rfl
            have kb1 : ∀ q : Since y6.w, q.w.cell? ⟨b2, off2 + 1, none⟩ = some (.int .i64 b0.t) := fun q => by
              obtain ⟨u, hu⟩ := y6.trans q
              obtain ⟨u2, hu2⟩ := y5.trans u
              rw [hu, hu2]
              have := h2'.c1 u2
              simpa using this
            have kw0 := Since.cellTo (⟨y6, rfl⟩ : ∃ zz : Since y5.w, y6.w = zz.w) Hhx0
            have Hx1 := Lib.hid (show ny - 1 = ys'.length by have := Hny.out; simp at this; omega)
            have Hxc := Lib.hid ((Hys.out.cut 1 dy (by have := Hny.out; omega)))
            rw [List.drop_succ_cons, List.drop_zero] at Hxc
            have Hyd3 := Lib.hid (show ∀ c ∈ yd ++ [b0], c.t ≤ e.f from fun c hc => by
              rcases List.mem_append.1 hc with h | h
              · exact Hyde.out c h
              · simp at h; subst h; exact hb0)
            clear h2' hyz hb0 Hhx0 Hhx1 Hhxf
            obtain ⟨q6, hq0⟩ := Since.refl y6.w
            rw [hq0]
            clear hq0
            go_wp2_with fail
            refine wp_region_since (by kernel_rfl) (by kernel_rfl) ?_
            repeat (go_big_quiet_step (fail))
            refine wpQuiet_nil ?_
            rintro _ ⟨z, rfl⟩
            go_wp2_with fail
            obtain ⟨y7, h7⟩ := y6.trans z
            rw [h7]
            clear h7
            go_roundw
            case rel => exact ⟨_, ny - 1, dy - 1, yd ++ [b0], ys', y7, rfl, Hx1.out, by omega, by omega, by rw [List.append_assoc]; exact HV.out, Hxc.out, rfl, Hyd3.out⟩
            case measure => simp <;> omega
          · go_upto_region 8 with fail
            go_cut [42] (fun s42 wr => s42 = .bool false ∧ ∃ z : Since y6.w, wr = z.w)
            case first =>
              have kw0 := Since.cellTo (⟨y6, rfl⟩ : ∃ zz : Since y5.w, y6.w = zz.w) Hhx0
              cases ys with
              | nil =>
                obtain rfl : ny = 0 := by have := Hny.out; simpa using this
                clear Hhx0 Hhx1 Hhxf
                obtain ⟨q6, hq0⟩ := Since.refl y6.w
                rw [hq0]
                clear hq0
                refine wp_region_since (by kernel_rfl) (by kernel_rfl) ?_
                repeat (go_big_quiet_step (fail))
                refine wpQuiet_nil ?_
                rintro _ ⟨z, rfl⟩
                go_wp2_with fail
                go_meet
                exact ⟨rfl, z, rfl⟩
              | cons b0 ys' =>
                have hb0b : decide (b0.t ≤ e.f) = false := decide_eq_false (by have := hstop b0 ys' rfl; omega)
                have h1 : 0 < ny := by have := Hny.out; simp at this; omega
                have hx0 : (0 : Int) < (ny : Int) := by omega
                have hx0b : decide ((0 : Int) < (ny : Int)) = true := decide_eq_true hx0
                have hx0c : decide (0 < ny) = true := decide_eq_true h1
                obtain ⟨b2, off2, rfl, h2'⟩ := Els.win Hys.out (k := 0) rfl
                have kb1 : ∀ q : Since y6.w, q.w.cell? ⟨b2, off2 + 1, none⟩ = some (.int .i64 b0.t) := fun q => by
                  obtain ⟨u, hu⟩ := y6.trans q
                  obtain ⟨u2, hu2⟩ := y5.trans u
                  rw [hu, hu2]
                  have := h2'.c1 u2
                  simpa using this
                clear h2' Hhx0 Hhx1 Hhxf hstop
                obtain ⟨q6, hq0⟩ := Since.refl y6.w
                rw [hq0]
                clear hq0
                refine wp_region_since (by kernel_rfl) (by kernel_rfl) ?_
                repeat (go_big_quiet_step (fail))
                refine wpQuiet_nil ?_
                rintro _ ⟨z, rfl⟩
                go_wp2_with fail
                go_meet
                exact ⟨rfl, z, rfl⟩
            case rest =>
              obtain ⟨rfl, z, rfl⟩ := hcut
              clear hstop Hhx0 Hhx1 Hhxf
              obtain ⟨y7, h7⟩ := y6.trans z
              obtain ⟨y8, h8⟩ := y5.trans y7
              rw [← h7] at h8
              have HB8 := Lib.hid (show WBox z.w gw (.int .i64 e.f) (.int .i64 e.t) u9 by rw [h7]; exact Hbx.out.to ⟨y7, rfl⟩)
              have Hown8 := Lib.hid (show z.w.ownsRow y1.w.heap.size 31 2 u9 out.length (flat Win.cs out) by rw [h7]; exact own_to Hown.out ⟨y7, rfl⟩)
              rw [h8] at HB8 Hown8 ⊢
              have kb0 := HB8.out.a0
              have Hyd2 := Lib.hid (show ∀ c ∈ yd, ∀ g ∈ U.drop (k + 1), c.t ≤ g.f from fun c hc g hg => by
                have h1 := Hyde.out c hc
                have h2 := HeU.out.hd g hg
                have h3 := Hev.out
                omega)
              have HI0 := Lib.hid (HO.out.enter Hev.out.2.1)
              have HP0 := Lib.hid (show Past e e.f (yd ++ ys.take 0) from fun c hc => .inl (Hyde.out c (by simpa using hc)))
              clear h7 h8 Hown Hbx HO
              go_wp2_with fail
              go_loopw [9, 12, 49] (fun so sa sj wr => ∃ (j : Nat) (at_ : Int) (out : List Win) (y9 : Since y1.w), sj = .int .i64 j ∧ j ≤ ny ∧ sa = .int .i64 at_ ∧ wr = y9.w ∧ y9.w.ownsRow y1.w.heap.size 31 2 so out.length (flat Win.cs out) ∧ WBox y9.w gw (.int .i64 e.f) (.int .i64 e.t) so ∧ MinI (fun t => hasW (U.take k) t && !hasW V t) (hasW V) e at_ out ∧ Past e at_ (yd ++ ys.take j) ∧ out.length ≤ KB + j) (fun _ _ sj _ => ny - (intOf sj).toNat)
              case atStart => exact ⟨0, e.f, out, y8, rfl, by omega, rfl, rfl, Hown8.out, HB8.out, HI0.out, HP0.out, by omega⟩
              case round =>
                clear HB8 Hown8 kb0 HI0 HP0
                obtain ⟨j, at_, out, y9, rfl, hj, rfl, rfl, hown, hbx, hI, hPs, hlen3'⟩ := hrel
                have hlen3 : out.length ≤ KB + M := by omega
                by_cases hjn : j < ny
                · obtain ⟨b0, hb0⟩ : ∃ b0, ys[j]? = some b0 := ⟨_, List.getElem?_eq_getElem (by have := Hny.out; omega)⟩
                  have hj0 : (0 : Int) ≤ (j : Int) := by omega
                  have hjl : (j : Int) < (ny : Int) := by omega
                  have hdj : V = (yd ++ ys.take j) ++ b0 :: ys.drop (j + 1) := by
                    have h1 := List.getElem?_eq_some_iff.1 hb0
                    rw [HV.out, List.append_assoc, ← h1.2, ← List.drop_eq_getElem_cons h1.1, List.take_append_drop]
                  have Htj := Lib.hid (show yd ++ ys.take (j + 1) = (yd ++ ys.take j) ++ [b0] by rw [List.take_add_one, hb0, List.append_assoc]; rfl)
                  have hnb : Norm (b0 :: ys.drop (j + 1)) := by
                    have := HnV.out
                    rw [hdj] at this
                    exact ⟨fun x hx => this.v x (List.mem_append_right _ hx), (List.pairwise_append.1 this.s).2.1⟩
                  obtain ⟨b2, off2, rfl, h2'⟩ := Els.win Hys.out hb0
                  have rh0 := h2'.c0
                  have rh1 := h2'.c1
                  have Hown3 := Lib.hid hown
                  have HBx := Lib.hid hbx
                  have HI := Lib.hid hI
                  have HPs := Lib.hid hPs
                  have Hdj := Lib.hid hdj
                  have Hnb := Lib.hid hnb
                  clear h2' hb0 hown hbx hI hPs hdj hnb
                  go_upto_region 14 with fail
                  have hx0 : (y9.w.alloc (.cells #[.int .i64 b0.f, .int .i64 b0.t] 31)).cell? ⟨y9.w.heap.size, 0, none⟩ = some (.int .i64 b0.f) := by simp [go_sem]
                  have hx1 : (y9.w.alloc (.cells #[.int .i64 b0.f, .int .i64 b0.t] 31)).cell? ⟨y9.w.heap.size, 1, none⟩ = some (.int .i64 b0.t) := by simp [go_sem]
                  have hxf : ∀ o, (y9.w.alloc (.cells #[.int .i64 b0.f, .int .i64 b0.t] 31)).frozen? ⟨y9.w.heap.size, o, none⟩ = false := fun o => by simp [go_sem]
                  have hlt0 : y9.w.heap.size < (y9.w.alloc (.cells #[.int .i64 b0.f, .int .i64 b0.t] 31)).heap.size := by simp
                  have hst0 : ∃ zz : Since y9.w, (y9.w.alloc (.cells #[.int .i64 b0.f, .int .i64 b0.t] 31)) = zz.w := IsSince.alloc (IsSince.self _) _
                  have hsz0 := y9.b.size
                  obtain ⟨y10, e2⟩ := IsSince.alloc (IsSince.of y9) (.cells #[.int .i64 b0.f, .int .i64 b0.t] 31)
                  rw [e2] at hx0 hx1 hxf hlt0 hst0 ⊢
                  (have hne : ∀ b, u9.ownBlock = some b → b < y9.w.heap.size := fun b hb => (World.ownsRow.lt Hown3.out b hb).2; replace Hown3 := Lib.hid (own_to Hown3.out hst0); replace HBx := Lib.hid (HBx.out.to hst0))
                  clear e2 hst0
                  generalize y9.w.heap.size = gh at *
                  have Hhx0 : ∀ q : Since y10.w, q.w.cell? ⟨gh, 0, none⟩ = some (.int .i64 b0.f) := fun q => Since.cell hx0 (by omega) q
                  have Hhx1 : ∀ q : Since y10.w, q.w.cell? ⟨gh, 1, none⟩ = some (.int .i64 b0.t) := fun q => Since.cell hx1 (by omega) q
                  have Hhxf : ∀ (q : Since y10.w) (o : Nat), q.w.frozen? ⟨gh, o, none⟩ = false := fun q o => Since.free (hxf o) (by omega) q
                  have Hhxg := Lib.hid (And.intro hsz0 hlt0)
                  clear hlt0 hsz0
                  have HGx := Lib.hid (⟨Hhxg.out.2, hx0, hx1, fun b hb => by have := hne b hb; omega⟩ : WBox y10.w gh (.int .i64 b0.f) (.int .i64 b0.t) u9)
                  have ka0 := HBx.out.a1
                  have kg0 := HGx.out.a0
                  have kg0' := HGx.out.a1
                  clear hx0 hx1 hxf hne rh0 rh1 Hhx0 Hhx1 Hhxf
                  rcases (by omega : e.t ≤ b0.f ∨ b0.f < e.t) with hbr | hbr
                  · have HPst := Lib.hid (show Past e at_ V from fun c hc => by
                      rw [Hdj.out] at hc
                      rcases List.mem_append.1 hc with h | h
                      · exact HPs.out c h
                      · right
                        rcases List.mem_cons.1 h with rfl | h
                        · exact hbr
                        · have := Hnb.out.hd c h
                          have := Hnb.out.v b0 (by simp)
                          omega)
                    clear HPs Hnb HGx Htj Hdj
                    have Hlv := Lib.hid (HI.out.leave HPst.out HeU.out)
                    have kb1 := HBx.out.a1
                    have HLen := Lib.hid (add_len out ⟨at_, e.t⟩)
                    rcases (by omega : at_ < e.t ∨ e.t ≤ at_) with hat | hat
                    · have Hadd := Lib.hid (show addW out ⟨at_, e.t⟩ = out ++ [⟨at_, e.t⟩] from addW_yes hat)
                      rw [Hadd.out] at Hlv HLen
                      go_upto_region 21 with (at_builtin; (refine wpList_appendL (w0 := y1.w) ?hw rfl _ _ 35 rfl y1.w.heap.size (Nat.le_refl _) ?hb 31 (.agg #[.int .i64 0, .int .i64 0]) 16 sWin u9 out.length (flat Win.cs out) rfl ?hown ⟨y10.w.heap.size, 0, none⟩ 1 1 (⟨at_, e.t⟩ : Win).cs rfl rfl ?hc (win_one _) (by decide) ?h63 ?hbytes ?_; rotate_right 1; intro v2 q2 hown4 hg4 hl4))
                      case hw => exact IsSince.alloc (IsSince.of y10) _
                      case hb => have := (IsSince.size (IsSince.of y10)); simp; omega
                      case hown => exact own_to (Hown3.out) (IsSince.alloc (IsSince.self _) _)
                      case hc => exact cell_new_at y10.w (⟨at_, e.t⟩ : Win).cs _
                      case h63 => unfold maxLen; omega
                      case hbytes => omega
                      rw [← flat_one Win.cs (⟨at_, e.t⟩ : Win), ← flat_append] at hown4
                      have Hown4 := Lib.hid (show q2.w.ownsRow y1.w.heap.size 31 2 v2 (out ++ [(⟨at_, e.t⟩ : Win)]).length (flat Win.cs (out ++ [(⟨at_, e.t⟩ : Win)])) by rw [List.length_append, List.length_singleton]; exact hown4)
                      clear hown4 hg4 hl4 hat HI HPst HBx
                      go_wp2_with fail
                      go_roundw
                      case rel => exact ⟨k + 1, _, ny, dy, yd, ys, out ++ [⟨at_, e.t⟩], q2, by go_num, by omega, rfl, Hny.out, hdy, hnM, HV.out, Hys.out, rfl, Hown4.out, by rw [Htk.out]; exact Hlv.out, Hyd2.out, by have h1 := HLen.out; have h2 := HKB.out; have h3 : (k + 1) * (M + 1) = k * (M + 1) + (M + 1) := Nat.succ_mul k (M + 1); omega⟩
                      case measure => simp [intOf] <;> omega
                    · have hatb : e.t ≤ at_ := hat
                      have Hadd := Lib.hid (show addW out ⟨at_, e.t⟩ = out from addW_no (by show ¬ at_ < e.t; omega))
                      rw [Hadd.out] at Hlv
                      clear HI HPst
                      go_wp2_with fail
                      go_roundw
                      case rel => exact ⟨k + 1, _, ny, dy, yd, ys, out, y10, by go_num, by omega, rfl, Hny.out, hdy, hnM, HV.out, Hys.out, rfl, Hown3.out, by rw [Htk.out]; exact Hlv.out, Hyd2.out, by have h2 := HKB.out; have h3 : (k + 1) * (M + 1) = k * (M + 1) + (M + 1) := Nat.succ_mul k (M + 1); omega⟩
                      case measure => simp [intOf] <;> omega
                  · have Hh := Lib.hid (show MinI (fun t => hasW (U.take k) t && !hasW V t) (hasW V) e (max at_ b0.t) (addW out ⟨at_, b0.f⟩) ∧ Past e (max at_ b0.t) (yd ++ ys.take (j + 1)) by
                      have hI := HI.out
                      have he := Hev.out
                      have key : ∀ W, W = (yd ++ ys.take j) ++ b0 :: ys.drop (j + 1) → MinI (fun t => hasW (U.take k) t && !hasW V t) (hasW W) e at_ out → MinI (fun t => hasW (U.take k) t && !hasW V t) (hasW W) e (max at_ b0.t) (addW out ⟨at_, b0.f⟩) ∧ Past e (max at_ b0.t) ((yd ++ ys.take j) ++ [b0]) := fun W hW h => by
                        subst hW
                        exact h.hole HPs.out ⟨he.1, he.2.2⟩ Hnb.out hbr
                      rw [Htj.out]
                      exact key V Hdj.out hI)
                    clear HI HPs Hnb Htj Hdj
                    rcases (by omega : at_ < b0.f ∨ b0.f ≤ at_) with hat | hat
                    · have Hadd := Lib.hid (show addW out ⟨at_, b0.f⟩ = out ++ [⟨at_, b0.f⟩] from addW_yes hat)
                      rw [Hadd.out] at Hh
                      go_upto_region 17 with (at_builtin; (refine wpList_appendL (w0 := y1.w) ?hw rfl _ _ 35 rfl y1.w.heap.size (Nat.le_refl _) ?hb 31 (.agg #[.int .i64 0, .int .i64 0]) 16 sWin u9 out.length (flat Win.cs out) rfl ?hown ⟨y10.w.heap.size, 0, none⟩ 1 1 (⟨at_, b0.f⟩ : Win).cs rfl rfl ?hc (win_one _) (by decide) ?h63 ?hbytes ?_; rotate_right 1; intro v2 q2 hown4 hg4 hl4))
                      case hw => exact IsSince.alloc (IsSince.of y10) _
                      case hb => have := y10.b.size; simp; omega
                      case hown => exact own_to Hown3.out (IsSince.alloc (IsSince.self _) _)
                      case hc => exact cell_new_at y10.w (⟨at_, b0.f⟩ : Win).cs _
                      case h63 => unfold maxLen; omega
                      case hbytes => omega
                      rw [← flat_one Win.cs (⟨at_, b0.f⟩ : Win), ← flat_append] at hown4
                      have Hown4 := Lib.hid (show q2.w.ownsRow y1.w.heap.size 31 2 v2 (out ++ [(⟨at_, b0.f⟩ : Win)]).length (flat Win.cs (out ++ [(⟨at_, b0.f⟩ : Win)])) by rw [List.length_append, List.length_singleton]; exact hown4)
                      have HB4 := Lib.hid ((HBx.out.to (IsSince.alloc (IsSince.self _) (.cells (⟨at_, b0.f⟩ : Win).cs.toArray 31))).app hg4 hl4)
                      have HG4 := Lib.hid ((HGx.out.to (IsSince.alloc (IsSince.self _) (.cells (⟨at_, b0.f⟩ : Win).cs.toArray 31))).app hg4 hl4)
                      have kg1 := HG4.out.a1
                      clear hown4 hg4 hl4 HBx HGx ka0 kg0
                      go_wp2_with fail
                      go_roundw
                      case rel => exact ⟨j + 1, max at_ b0.t, out ++ [⟨at_, b0.f⟩], q2, by go_num, by omega, rfl, rfl, Hown4.out, HB4.out, Hh.out.1, Hh.out.2, by simp; omega⟩
                      case measure => simp [intOf] <;> omega
                    · have Hadd := Lib.hid (show addW out ⟨at_, b0.f⟩ = out from addW_no (by show ¬ at_ < b0.f; omega))
                      rw [Hadd.out] at Hh
                      go_wp2_with fail
                      go_roundw
                      case rel => exact ⟨j + 1, max at_ b0.t, out, y10, by go_num, by omega, rfl, rfl, Hown3.out, HBx.out, Hh.out.1, Hh.out.2, by omega⟩
                      case measure => simp [intOf] <;> omega
                · obtain rfl : ny = j := by omega
                  have Hown3 := Lib.hid hown
                  have HBx := Lib.hid hbx
                  have HI := Lib.hid hI
                  have HPst := Lib.hid (show Past e at_ V by
                    rw [HV.out]
                    have h := hPs
                    rw [List.take_of_length_le (by have := Hny.out; omega)] at h
                    exact h)
                  clear hown hbx hI hPs
                  have Hlv := Lib.hid (HI.out.leave HPst.out HeU.out)
                  have kb1 := HBx.out.a1
                  have HLen := Lib.hid (add_len out ⟨at_, e.t⟩)
                  rcases (by omega : at_ < e.t ∨ e.t ≤ at_) with hat | hat
                  · have Hadd := Lib.hid (show addW out ⟨at_, e.t⟩ = out ++ [⟨at_, e.t⟩] from addW_yes hat)
                    rw [Hadd.out] at Hlv HLen
                    go_upto_region 21 with (at_builtin; (refine wpList_appendL (w0 := y1.w) ?hw rfl _ _ 35 rfl y1.w.heap.size (Nat.le_refl _) ?hb 31 (.agg #[.int .i64 0, .int .i64 0]) 16 sWin u9 out.length (flat Win.cs out) rfl ?hown ⟨y9.w.heap.size, 0, none⟩ 1 1 (⟨at_, e.t⟩ : Win).cs rfl rfl ?hc (win_one _) (by decide) ?h63 ?hbytes ?_; rotate_right 1; intro v2 q2 hown4 hg4 hl4))
                    case hw => exact IsSince.alloc (IsSince.of y9) _
                    case hb => have := (IsSince.size (IsSince.of y9)); simp; omega
                    case hown => exact own_to (Hown3.out) (IsSince.alloc (IsSince.self _) _)
                    case hc => exact cell_new_at y9.w (⟨at_, e.t⟩ : Win).cs _
                    case h63 => unfold maxLen; omega
                    case hbytes => omega
                    rw [← flat_one Win.cs (⟨at_, e.t⟩ : Win), ← flat_append] at hown4
                    have Hown4 := Lib.hid (show q2.w.ownsRow y1.w.heap.size 31 2 v2 (out ++ [(⟨at_, e.t⟩ : Win)]).length (flat Win.cs (out ++ [(⟨at_, e.t⟩ : Win)])) by rw [List.length_append, List.length_singleton]; exact hown4)
                    clear hown4 hg4 hl4 hat HI HPst HBx
                    go_wp2_with fail
                    go_roundw
                    case rel => exact ⟨k + 1, _, ny, dy, yd, ys, out ++ [⟨at_, e.t⟩], q2, by go_num, by omega, rfl, Hny.out, hdy, hnM, HV.out, Hys.out, rfl, Hown4.out, by rw [Htk.out]; exact Hlv.out, Hyd2.out, by have h1 := HLen.out; have h2 := HKB.out; have h3 : (k + 1) * (M + 1) = k * (M + 1) + (M + 1) := Nat.succ_mul k (M + 1); omega⟩
                    case measure => simp [intOf] <;> omega
                  · have hatb : e.t ≤ at_ := hat
                    have Hadd := Lib.hid (show addW out ⟨at_, e.t⟩ = out from addW_no (by show ¬ at_ < e.t; omega))
                    rw [Hadd.out] at Hlv
                    clear HI HPst
                    go_wp2_with fail
                    go_roundw
                    case rel => exact ⟨k + 1, _, ny, dy, yd, ys, out, y9, by go_num, by omega, rfl, Hny.out, hdy, hnM, HV.out, Hys.out, rfl, Hown3.out, by rw [Htk.out]; exact Hlv.out, Hyd2.out, by have h2 := HKB.out; have h3 : (k + 1) * (M + 1) = k * (M + 1) + (M + 1) := Nat.succ_mul k (M + 1); omega⟩
                    case measure => simp [intOf] <;> omega
      · obtain rfl : k = nu := by omega
        have Hset := Lib.hid (show IsSet out (fun t => hasW a t && !hasW b t) from by
          have h := HO.out
          rw [List.take_of_length_le (by have := Hnu.out; omega)] at h
          exact ⟨h.n, fun t => by rw [h.h, Hhas.out.1, Hhas.out.2]⟩)
        have Hlen9 := Lib.hid (show out.length ≤ a.length * (b.length + 1) from Nat.le_trans hlen (Nat.mul_le_mul hlU (by omega)))
        obtain ⟨hlen1, a5, c5, rfl, hc5, he5, _, _⟩ := own_els Win.len (by decide) Hown.out
        obtain ⟨y5, h5⟩ := y1.trans y
        have H5 := Lib.hid (HP.out a5 c5 out y5 (h5 ▸ he5) hc5 Hset.out Hlen9.out)
        rw [h5]
        clear hlen1 hc5 he5 h5
        go_wp2_with fail
        exact H5.out
end Go.Proofs.Ytefodfpnedcodaa
/- The walks of windows, sixth part: the length. -/
namespace Go.Proofs.Ytefodfpnedcodaa
open Go.RowKit

/-- a length and an error -/
def LenRes (w : World) (l : List Win) (o : Ending) (w' : World) : Prop :=
  ∃ (u : List Win) (y : Since w), o = .returned (.tuple #[.int .i64 (lenW u), .int .i64 (unE l)]) ∧ w' = y.w ∧ UnOk l u
theorem lenW_take (u : List Win) (k : Nat) (e : Win) (h : u[k]? = some e) : lenW (u.take (k + 1)) = lenW (u.take k) + (e.t - e.f) := by
  rw [List.take_add_one, h]
  exact lenW_snoc _ _
/-- lengths of lists in normal form are numbers of moments -/
theorem lenW_bound : ∀ {u : List Win}, Norm u → ∀ c, (∀ x ∈ u, c ≤ x.f) → 0 ≤ lenW u ∧ (u ≠ [] → lenW u ≤ 4294944000 - c)
  | [], _, _, _ => ⟨by simp [lenW], fun h => (h rfl).elim⟩
  | x :: u, hn, c, hc => by
    have hx := hn.v x (by simp)
    have hxc := hc x (by simp)
    have e : lenW (x :: u) = (x.t - x.f) + lenW u := by simp [lenW]
    obtain ⟨h1, h2⟩ := lenW_bound hn.tail x.t (fun y hy => by have := hn.hd y hy; omega)
    refine ⟨by omega, fun _ => ?_⟩
    by_cases hu : u = []
    · subst hu
      have : lenW ([] : List Win) = 0 := rfl
      omega
    · have := h2 hu; omega
theorem lenW_range {u : List Win} (h : Norm u) : 0 ≤ lenW u ∧ lenW u ≤ 4294944000 := by
  have := lenW_bound h 0 (fun x hx => (h.v x hx).1)
  refine ⟨this.1, ?_⟩
  by_cases hu : u = []
  · subst hu; have : lenW ([] : List Win) = 0 := rfl; omega
  · have := this.2 hu; omega
set_option maxRecDepth 100000 in
set_option maxHeartbeats 4000000 in
theorem length_calls (w : World) (x : Since w) (pa : Option Addr) (a : List Win) (ca : Nat) (ha : WinRow w pa a) (hla : a.length ≤ 100000) :
    Calls Try.prog 44 #[.slice pa a.length ca] x.w (LenRes w a) := by
  have HA := Lib.hid (union_calls w x pa a ca ha hla)
  have Hpost := Lib.hid (show ∀ (u : List Win) (y : Since w) (v e : Int), UnOk a u → v = lenW u → e = unE a → LenRes w a (.returned (.tuple #[.int .i64 v, .int .i64 e])) y.w from fun u y v e h1 h2 h3 => ⟨u, y, by rw [h2, h3], rfl, h1⟩)
  have Hue := Lib.hid (show unE a = if badW a then 1 else 0 from rfl)
  clear ha
  cases hb : badW a with
  | true =>
    rw [hb] at Hue
    have Hno := Lib.hid (show ∀ u, UnOk a u → u = [] from fun u h => h.no hb)
    clear hb
    go_enter Try.func44, Try.ntmps44
    go_wp2_with fail
    refine HA.out.mono ?_
    rintro _ _ ⟨ax, cx, u, y1, rfl, rfl, _, _, hu⟩
    have Hu := Lib.hid hu
    clear hu
    rw [Hue.out]
    go_wp2_with fail
    go_ret2
    exact Hpost.out u y1 _ _ Hu.out (by rw [Hno.out u Hu.out]; rfl) Hue.out.symm
  | false =>
    rw [hb] at Hue
    have Hset := Lib.hid (show ∀ u, UnOk a u → Norm u from fun u h => (h.ok hb).n)
    clear hb
    go_enter Try.func44, Try.ntmps44
    go_wp2_with fail
    refine HA.out.mono ?_
    rintro _ _ ⟨ax, cx, u, y1, rfl, rfl, hrow, _, hu⟩
    have Hu := Lib.hid hu
    have HR := Lib.hid hrow
    have Hn := Lib.hid (Hset.out u hu)
    have hul := hu.n
    clear hu hrow
    rw [Hue.out]
    obtain ⟨n, hn⟩ : ∃ n, n = u.length := ⟨_, rfl⟩
    rw [← hn]
    rw [← hn] at hul
    have Hnn := Lib.hid hn
    clear hn
    go_wp2_with fail
    go_loopw [6, 19] (fun s i wr => ∃ (k : Nat) (y : Since y1.w), k ≤ n ∧ i = .int .i64 k ∧ s = .int .i64 (lenW (u.take k)) ∧ wr = y.w) (fun _ i _ => n - (intOf i).toNat)
    case atStart => exact ⟨0, Since.self _, by omega, rfl, rfl, rfl⟩
    case round =>
      obtain ⟨k, y, hk, rfl, rfl, rfl⟩ := hrel
      by_cases hlt : k < n
      · obtain ⟨e, he⟩ : ∃ e, u[k]? = some e := ⟨_, List.getElem?_eq_getElem (by have := Hnn.out; omega)⟩
        have hk0 : (0 : Int) ≤ (k : Int) := by omega
        have hkl : (k : Int) < (n : Int) := by omega
        obtain ⟨b1, off1, rfl, h1'⟩ := Els.win HR.out he
        have ra0 := h1'.c0
        have ra1 := h1'.c1
        have Hx := Lib.hid (lenW_take u k e he)
        have hev := Hn.out.v e (List.mem_of_getElem? he)
        obtain ⟨e1, e2, e3⟩ := hev
        have hnt : ∀ k, Norm (u.take k) := fun k => ⟨fun x hx => Hn.out.v x (List.mem_of_mem_take hx), Hn.out.s.sublist (List.take_sublist k u)⟩
        obtain ⟨l1, l2⟩ := lenW_range (hnt k)
        obtain ⟨l3, l4⟩ := lenW_range (hnt (k + 1))
        have l5 : lenW (u.take k) + (e.t - e.f) ≤ 4294944000 := by have := Hx.out; omega
        clear h1' he hnt l3 l4
        go_wp2_with fail
        obtain ⟨y5, h5⟩ := y.alloc (.cells #[.int .i64 e.f, .int .i64 e.t] 31)
        rw [h5]
        clear h5
        go_roundw
        case rel => exact ⟨k + 1, y5, by omega, by go_num, by rw [Hx.out], rfl⟩
        case measure => simp [intOf] <;> omega
      · obtain rfl : n = k := by omega
        obtain ⟨y5, h5⟩ := y1.trans y
        rw [h5]
        clear h5
        have Htk := Lib.hid (show u.take n = u from List.take_of_length_le (by have := Hnn.out; omega))
        rw [Htk.out]
        go_wp2_with fail
        go_ret2
        exact Hpost.out u y5 _ _ Hu.out rfl Hue.out.symm
end Go.Proofs.Ytefodfpnedcodaa
