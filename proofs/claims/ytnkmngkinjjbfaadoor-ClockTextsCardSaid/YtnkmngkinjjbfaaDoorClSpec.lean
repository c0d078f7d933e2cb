/- Windows of moments as plain data: what a list of windows contains, normal form, what makes it: plain mathematics, no program in sight. -/
import Derived.Test.YtnkmngkinjjbfaaDoorEls
set_option linter.all false
namespace Go.Proofs.YtnkmngkinjjbfaaDoor
open Go.RowKit

/-- a window: its first moment, the one behind its last -/
structure Win where
  f : Int
  t : Int
deriving DecidableEq
def Win.cs (x : Win) : List Value := [.int .i64 x.f, .int .i64 x.t]
theorem Win.len (x : Win) : x.cs.length = 2 := rfl
theorem win_one (x : Win) : ∀ u ∈ x.cs, u.oneCell' = true := by
  intro u hu
  simp [Win.cs] at hu
  rcases hu with h | h <;> subst h <;> rfl
instance : Inhabited Win := ⟨⟨0, 0⟩⟩
abbrev WinRow (w : World) (a : Option Addr) (l : List Win) : Prop := Els Win.cs 2 w a l
structure WinCells (w : World) (b o : Nat) (e : Win) : Prop where
  c0 : ∀ y : Since w, y.w.cell? ⟨b, o, none⟩ = some (.int .i64 e.f)
  c1 : ∀ y : Since w, y.w.cell? ⟨b, o + 1, none⟩ = some (.int .i64 e.t)
theorem Els.win {w : World} {a : Option Addr} {l : List Win} (h : Els Win.cs 2 w a l) {k : Nat} {x : Win} (hk : l[k]? = some x) : ∃ b off, a = some ⟨b, off, none⟩ ∧ WinCells w b (off + k * 2) x := by
  obtain ⟨b, off, ha, hb, hc⟩ := h k x hk
  refine ⟨b, off, ha, ?_⟩
  have hh : ∀ j v, x.cs[j]? = some v → ∀ y : Since w, y.w.cell? ⟨b, off + k * 2 + j, none⟩ = some v := fun j v hv => Since.cell (hc j v hv) hb
  exact ⟨hh 0 _ rfl, hh 1 _ rfl⟩
/-- a window of moments is valid -/
def vldW (x : Win) : Bool := decide (0 ≤ x.f) && decide (x.f ≤ x.t) && decide (x.t ≤ 4294944000)
theorem vldW_iff (x : Win) : vldW x = true ↔ 0 ≤ x.f ∧ x.f ≤ x.t ∧ x.t ≤ 4294944000 := by simp [vldW, and_assoc]
/-- the moment t belongs to the window -/
def inW (t : Int) (x : Win) : Bool := decide (x.f ≤ t) && decide (t < x.t)
theorem inW_iff (t : Int) (x : Win) : inW t x = true ↔ x.f ≤ t ∧ t < x.t := by simp [inW]
/-- the moment t belongs to one of the windows -/
def hasW (l : List Win) (t : Int) : Bool := l.any (inW t)
theorem hasW_iff {l : List Win} {t : Int} : hasW l t = true ↔ ∃ x ∈ l, x.f ≤ t ∧ t < x.t := by simp [hasW, List.any_eq_true, inW_iff]
theorem hasW_nil (t : Int) : hasW [] t = false := rfl
theorem hasW_cons (x : Win) (l : List Win) (t : Int) : hasW (x :: l) t = (inW t x || hasW l t) := rfl
theorem hasW_append (l m : List Win) (t : Int) : hasW (l ++ m) t = (hasW l t || hasW m t) := by simp [hasW]
theorem hasW_one (x : Win) (t : Int) : hasW [x] t = inW t x := by simp [hasW]
theorem hasW_perm {l m : List Win} (h : l.Perm m) (t : Int) : hasW l t = hasW m t := by
  rw [Bool.eq_iff_iff, hasW_iff, hasW_iff]
  constructor <;> rintro ⟨x, hx, hh⟩
  · exact ⟨x, h.mem_iff.1 hx, hh⟩
  · exact ⟨x, h.mem_iff.2 hx, hh⟩
/-- normal form -/
structure Norm (l : List Win) : Prop where
  v : ∀ x ∈ l, 0 ≤ x.f ∧ x.f < x.t ∧ x.t ≤ 4294944000
  s : l.Pairwise fun a b => a.t < b.f
theorem norm_nil : Norm [] := ⟨fun x h => (by cases h), List.Pairwise.nil⟩
theorem Norm.tail {x : Win} {l : List Win} (h : Norm (x :: l)) : Norm l := ⟨fun y hy => h.v y (by simp [hy]), (List.pairwise_cons.1 h.s).2⟩
theorem Norm.hd {x : Win} {l : List Win} (h : Norm (x :: l)) : ∀ y ∈ l, x.t < y.f := (List.pairwise_cons.1 h.s).1
theorem Norm.drop {l : List Win} (h : Norm l) (k : Nat) : Norm (l.drop k) := ⟨fun y hy => h.v y (List.mem_of_mem_drop hy), h.s.sublist (List.drop_sublist k l)⟩
theorem Norm.snoc {l : List Win} {x : Win} (h : Norm l) (hx : 0 ≤ x.f ∧ x.f < x.t ∧ x.t ≤ 4294944000) (hs : ∀ y ∈ l, y.t < x.f) : Norm (l ++ [x]) :=
  ⟨fun y hy => by
    rcases List.mem_append.1 hy with h1 | h1
    · exact h.v y h1
    · simp at h1; subst h1; exact hx, List.pairwise_append.2 ⟨h.s, by simp, fun a ha b hb => by simp at hb; subst hb; exact hs a ha⟩⟩
/-- **Lists in normal form with the same moments are equal.** -/
theorem norm_unique : ∀ {u v : List Win}, Norm u → Norm v → (∀ t, hasW u t = hasW v t) → u = v
  | [], [], _, _, _ => rfl
  | [], y :: v, _, hv, h => by
    have := h y.f
    rw [hasW_nil, hasW_cons, show inW y.f y = true from (inW_iff _ _).2 ⟨Int.le_refl _, (hv.v y (by simp)).2.1⟩] at this
    cases this
  | x :: u, [], hu, _, h => by
    have := h x.f
    rw [hasW_nil, hasW_cons, show inW x.f x = true from (inW_iff _ _).2 ⟨Int.le_refl _, (hu.v x (by simp)).2.1⟩] at this
    cases this
  | x :: u, y :: v, hu, hv, h => by
    have vx := hu.v x (by simp)
    have vy := hv.v y (by simp)
    have low : ∀ {x : Win} {u : List Win}, Norm (x :: u) → ∀ t, hasW (x :: u) t = true → x.f ≤ t := fun {x u} hu t ht => by
      obtain ⟨z, hz, h1, h2⟩ := hasW_iff.1 ht
      rcases List.mem_cons.1 hz with rfl | hz
      · exact h1
      · have := hu.hd z hz
        have := hu.v x (by simp)
        omega
    have gap : ∀ {x : Win} {u : List Win}, Norm (x :: u) → hasW (x :: u) x.t = false := fun {x u} hu => by
      cases hh : hasW (x :: u) x.t
      · rfl
      · obtain ⟨z, hz, h1, h2⟩ := hasW_iff.1 hh
        rcases List.mem_cons.1 hz with rfl | hz
        · omega
        · have := hu.hd z hz; omega
    have ins : ∀ {x : Win} {u : List Win} (t : Int), x.f ≤ t → t < x.t → hasW (x :: u) t = true := fun {x u} t h1 h2 => hasW_iff.2 ⟨x, by simp, h1, h2⟩
    have e1 : x.f = y.f := by
      have a1 := low hv x.f (by rw [← h]; exact ins _ (Int.le_refl _) vx.2.1)
      have a2 := low hu y.f (by rw [h]; exact ins _ (Int.le_refl _) vy.2.1)
      omega
    have e2 : x.t = y.t := by
      rcases Int.lt_trichotomy x.t y.t with h1 | h1 | h1
      · have := gap hu
        rw [h, ins (x := y) (u := v) x.t (by omega) h1] at this; cases this
      · exact h1
      · have := gap hv
        rw [← h, ins (x := x) (u := u) y.t (by omega) h1] at this; cases this
    have exy : x = y := by cases x; cases y; simp at e1 e2; simp [e1, e2]
    subst exy
    rw [norm_unique hu.tail hv.tail (fun t => ?_)]
    have ht := h t
    rw [hasW_cons, hasW_cons] at ht
    cases hi : inW t x
    · rw [hi, Bool.false_or, Bool.false_or] at ht; exact ht
    · obtain ⟨i1, i2⟩ := (inW_iff _ _).1 hi
      have no : ∀ {u : List Win}, Norm (x :: u) → hasW u t = false := fun {u} hu => by
        cases hh : hasW u t
        · rfl
        · obtain ⟨z, hz, h1, h2⟩ := hasW_iff.1 hh
          have := hu.hd z hz; omega
      rw [no hu, no hv]
/-- u is the normal form of the moments S -/
structure IsSet (u : List Win) (S : Int → Bool) : Prop where
  n : Norm u
  h : ∀ t, hasW u t = S t
theorem IsSet.unique {u v : List Win} {S : Int → Bool} (h : IsSet u S) (k : IsSet v S) : u = v := norm_unique h.n k.n fun t => by rw [h.h, k.h]
/-- what the joining of sorted windows keeps: 'out' is made of the windows 'done' -/
structure Mrg (done out : List Win) : Prop where
  n : Norm out
  h : ∀ t, hasW out t = hasW done t
  b : ∀ c, (∀ x ∈ done, x.f ≤ c) → ∀ v ∈ out, v.f ≤ c
theorem mrg_nil : Mrg [] [] := ⟨norm_nil, fun _ => rfl, fun _ _ v h => (by cases h)⟩
theorem Mrg.skip {done out : List Win} (h : Mrg done out) {w : Win} (he : w.f = w.t) : Mrg (done ++ [w]) out := by
  refine ⟨h.n, fun t => ?_, fun c hc v hv => h.b c (fun x hx => hc x (by simp [hx])) v hv⟩
  rw [hasW_append, hasW_one, h.h]
  have : inW t w = false := by
    cases hi : inW t w
    · rfl
    · have := (inW_iff _ _).1 hi; omega
  rw [this, Bool.or_false]
theorem Mrg.join {done o : List Win} {l w : Win} (h : Mrg done (o ++ [l])) (hw : vldW w = true) (h1 : l.f ≤ w.f) (h2 : w.f ≤ l.t) (_hs : ∀ x ∈ done, x.f ≤ w.f) : Mrg (done ++ [w]) (o ++ [⟨l.f, max l.t w.t⟩]) := by
  obtain ⟨v1, v2, v3⟩ := (vldW_iff w).1 hw
  have hl := h.n.v l (by simp)
  have hno : Norm o := ⟨fun x hx => h.n.v x (by simp [hx]), (List.pairwise_append.1 h.n.s).1⟩
  refine ⟨hno.snoc ⟨hl.1, by show l.f < max l.t w.t; omega, by show max l.t w.t ≤ _; omega⟩ fun y hy => (List.pairwise_append.1 h.n.s).2.2 y hy l (by simp), fun t => ?_, fun c hc v hv => ?_⟩
  · have := h.h t
    rw [hasW_append, hasW_one] at this ⊢
    rw [hasW_append, hasW_one, ← this, Bool.or_assoc]
    congr 1
    rw [Bool.eq_iff_iff, Bool.or_eq_true, inW_iff, inW_iff, inW_iff]
    show l.f ≤ t ∧ t < max l.t w.t ↔ _
    omega
  · rcases List.mem_append.1 hv with hv | hv
    · exact h.b c (fun x hx => hc x (by simp [hx])) v (by simp [hv])
    · simp at hv; subst hv
      exact h.b c (fun x hx => hc x (by simp [hx])) l (by simp)
theorem Mrg.new {done out : List Win} {w : Win} (h : Mrg done out) (hw : vldW w = true) (hne : w.f < w.t) (hs : ∀ v ∈ out, v.t < w.f) : Mrg (done ++ [w]) (out ++ [w]) := by
  obtain ⟨v1, v2, v3⟩ := (vldW_iff w).1 hw
  refine ⟨h.n.snoc ⟨v1, hne, v3⟩ hs, fun t => by rw [hasW_append, hasW_append, h.h], fun c hc v hv => ?_⟩
  rcases List.mem_append.1 hv with hv | hv
  · exact h.b c (fun x hx => hc x (by simp [hx])) v hv
  · simp at hv; subst hv; exact hc v (by simp)
theorem Mrg.set {done out : List Win} (h : Mrg done out) : IsSet out (hasW done) := ⟨h.n, h.h⟩
/-- the last one of a list in normal form bounds all -/
theorem norm_last {o : List Win} {l : Win} (h : Norm (o ++ [l])) {c : Int} (hc : l.t < c) : ∀ v ∈ o ++ [l], v.t < c := fun v hv => by
  rcases List.mem_append.1 hv with h1 | h1
  · have := (List.pairwise_append.1 h.s).2.2 v h1 l (by simp)
    have := h.v l (by simp)
    omega
  · simp at h1; subst h1; exact hc
/-- how many moments -/
def lenW (l : List Win) : Int := (l.map fun x => x.t - x.f).sum
theorem lenW_snoc (l : List Win) (x : Win) : lenW (l ++ [x]) = lenW l + (x.t - x.f) := by simp [lenW]
/-- some window of the list is not valid -/
def badW (l : List Win) : Bool := l.any fun x => !vldW x
theorem badW_false {l : List Win} : badW l = false ↔ ∀ x ∈ l, vldW x = true := by
  unfold badW
  rw [List.any_eq_false]
  constructor
  · intro h x hx; simpa using h x hx
  · intro h x hx; simpa using h x hx
end Go.Proofs.YtnkmngkinjjbfaaDoor
