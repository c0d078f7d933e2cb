/- Passes and the rides that they pay: the plain mathematics: no program in sight. -/
import Derived.Test.YtbkfcdheckkjaaaRdCells
set_option linter.all false
namespace Go.Proofs.Ytbkfcdheckkjaaa
open Go.RowKit

/-- a pass: number, rider, first day, day behind the last one, rides of a day, seconds -/
structure Pass where
  id : Int
  rd : Int
  f : Int
  t : Int
  n : Int
  s : Int
def Pass.cs (x : Pass) : List Value := [.int .i64 x.id, .int .i64 x.rd, .int .i64 x.f, .int .i64 x.t, .int .i64 x.n, .int .i64 x.s]
theorem Pass.len (x : Pass) : x.cs.length = 6 := rfl
instance : Inhabited Pass := ⟨⟨0, 0, 0, 0, 0, 0⟩⟩
structure PassCells (w : World) (b o : Nat) (e : Pass) : Prop where
  c0 : ∀ y : Since w, y.w.cell? ⟨b, o, none⟩ = some (.int .i64 e.id)
  c1 : ∀ y : Since w, y.w.cell? ⟨b, o + 1, none⟩ = some (.int .i64 e.rd)
  c2 : ∀ y : Since w, y.w.cell? ⟨b, o + 2, none⟩ = some (.int .i64 e.f)
  c3 : ∀ y : Since w, y.w.cell? ⟨b, o + 3, none⟩ = some (.int .i64 e.t)
  c4 : ∀ y : Since w, y.w.cell? ⟨b, o + 4, none⟩ = some (.int .i64 e.n)
  c5 : ∀ y : Since w, y.w.cell? ⟨b, o + 5, none⟩ = some (.int .i64 e.s)
theorem Els.pass {w : World} {a : Option Addr} {l : List Pass} (h : Els Pass.cs 6 w a l) {k : Nat} {x : Pass} (hk : l[k]? = some x) : ∃ b off, a = some ⟨b, off, none⟩ ∧ PassCells w b (off + k * 6) x := by
  obtain ⟨b, off, ha, hb, hc⟩ := h k x hk
  refine ⟨b, off, ha, ?_⟩
  have hh : ∀ j v, x.cs[j]? = some v → ∀ y : Since w, y.w.cell? ⟨b, off + k * 6 + j, none⟩ = some v := fun j v hv => Since.cell (hc j v hv) hb
  exact ⟨hh 0 _ rfl, hh 1 _ rfl, hh 2 _ rfl, hh 3 _ rfl, hh 4 _ rfl, hh 5 _ rfl⟩
abbrev PassRow (w : World) (a : Option Addr) (l : List Pass) : Prop := Els Pass.cs 6 w a l

def goodP (p : Pass) : Bool := decide (1 ≤ p.id) && decide (p.id ≤ 1000000) && decide (0 ≤ p.rd) && decide (p.rd ≤ 127) && decide (1 ≤ p.n) && decide (p.n ≤ 256) && decide (0 ≤ p.s) && decide (p.s ≤ 86400) && decide (0 ≤ p.f) && decide (p.f < p.t) && decide (p.t ≤ 49710)
theorem goodP_iff (p : Pass) : goodP p = true ↔ 1 ≤ p.id ∧ p.id ≤ 1000000 ∧ 0 ≤ p.rd ∧ p.rd ≤ 127 ∧ 1 ≤ p.n ∧ p.n ≤ 256 ∧ 0 ≤ p.s ∧ p.s ≤ 86400 ∧ 0 ≤ p.f ∧ p.f < p.t ∧ p.t ≤ 49710 := by simp [goodP, and_assoc]
/-- some number is there twice -/
def dupB (l : List Int) : Bool := !decide l.Nodup
theorem dupB_true {l : List Int} (h : ¬ l.Nodup) : dupB l = true := by unfold dupB; rw [decide_eq_false h]; rfl
theorem dupB_false {l : List Int} (h : l.Nodup) : dupB l = false := by unfold dupB; rw [decide_eq_true h]; rfl
theorem dupB_cases (l : List Int) : (dupB l = true ∧ ¬ l.Nodup) ∨ (dupB l = false ∧ l.Nodup) := by
  by_cases h : l.Nodup
  · exact .inr ⟨dupB_false h, h⟩
  · exact .inl ⟨dupB_true h, h⟩
theorem nodup_take_next {l : List Int} {k : Nat} {x : Int} (hx : l[k]? = some x) : (l.take (k + 1)).Nodup ↔ (l.take k).Nodup ∧ x ∉ l.take k := by
  rw [List.take_succ_eq_append_getElem (List.getElem?_eq_some_iff.1 hx).1, (List.getElem?_eq_some_iff.1 hx).2, List.nodup_append]
  constructor
  · rintro ⟨h1, _, h3⟩; exact ⟨h1, fun h => h3 x h x (by simp) rfl⟩
  · rintro ⟨h1, h2⟩; exact ⟨h1, by simp, fun a ha b hb hab => h2 (by simp at hb; subst hb; subst hab; exact ha)⟩
theorem nodup_of_take {l : List Int} {k : Nat} (h : l.Nodup) : (l.take k).Nodup := h.sublist (List.take_sublist _ _)
/-- the error of passes -/
def passE (l : List Pass) : Int := if 64 < l.length then 8 else if l.all goodP = false then 1 else if dupB (l.map (·.id)) = true then 6 else 0
/-- the first error of rides -/
def firstErr (l : List Ride) : Int := match l.find? (fun r => rideE r != 0) with | some r => rideE r | none => 0
theorem firstErr_at {l : List Ride} {k : Nat} {r : Ride} (hr : l[k]? = some r) (he : rideE r ≠ 0) (hn : ∀ j, j < k → ∀ x, l[j]? = some x → rideE x = 0) : firstErr l = rideE r := by
  unfold firstErr
  have : l.find? (fun r => rideE r != 0) = some r := by
    rw [List.find?_eq_some_iff_getElem]
    refine ⟨by simpa using he, k, (List.getElem?_eq_some_iff.1 hr).1, (List.getElem?_eq_some_iff.1 hr).2, fun j hj => ?_⟩
    have := hn j hj _ (List.getElem?_eq_getElem (by have := (List.getElem?_eq_some_iff.1 hr).1; omega))
    simp [this]
  rw [this]
theorem firstErr_none {l : List Ride} (hn : ∀ j, j < l.length → ∀ x, l[j]? = some x → rideE x = 0) : firstErr l = 0 := by
  unfold firstErr
  have : l.find? (fun r => rideE r != 0) = none := by
    rw [List.find?_eq_none]
    intro x hx
    obtain ⟨j, hj⟩ := List.mem_iff_getElem?.1 hx
    simp [hn j (List.getElem?_eq_some_iff.1 hj).1 x hj]
  rw [this]
/-- the error of a list of rides -/
def ridesE (l : List Ride) : Int := if 256 < l.length then 8 else if firstErr l ≠ 0 then firstErr l else if dupB (l.map (·.id)) = true then 6 else 0
def usesE (lp : List Pass) (lr : List Ride) : Int := if passE lp ≠ 0 then passE lp else ridesE lr

def day (r : Ride) : Int := r.s0 / 86400
/-- a comes before b -/
def bef (a b : Ride) : Bool := decide (a.s0 < b.s0) || (decide (a.s0 = b.s0) && (decide (a.e0 < b.e0) || (decide (a.e0 = b.e0) && decide (a.id < b.id))))
theorem bef_iff (a b : Ride) : bef a b = true ↔ a.s0 < b.s0 ∨ (a.s0 = b.s0 ∧ (a.e0 < b.e0 ∨ (a.e0 = b.e0 ∧ a.id < b.id))) := by simp [bef]
theorem bef_irrefl (a : Ride) : bef a a = false := by
  cases h : bef a a
  · rfl
  · rw [bef_iff] at h; omega
theorem bef_trans {a b c : Ride} (h1 : bef a b = true) (h2 : bef b c = true) : bef a c = true := by rw [bef_iff] at *; omega
theorem bef_asymm {a b : Ride} (h : bef a b = true) : bef b a = false := by
  cases h2 : bef b a
  · rfl
  · have := bef_trans h h2; rw [bef_irrefl] at this; cases this
theorem bef_total {a b : Ride} (h1 : bef a b = false) (h2 : bef b a = false) : a.id = b.id := by
  have n1 : ¬ bef a b = true := by rw [h1]; simp
  have n2 : ¬ bef b a = true := by rw [h2]; simp
  rw [bef_iff] at n1 n2; omega
theorem bef_ntrans {a b c : Ride} (h1 : bef a b = false) (h2 : bef b c = false) : bef a c = false := by
  have n1 : ¬ bef a b = true := by rw [h1]; simp
  have n2 : ¬ bef b c = true := by rw [h2]; simp
  cases h : bef a c
  · rfl
  · rw [bef_iff] at n1 n2 h; omega
/-- pass p belongs to the rider of r and is valid on its day -/
def vP (p : Pass) (r : Ride) : Bool := decide (p.rd = r.rd) && (decide (p.f ≤ day r) && decide (day r < p.t))
def rAt (R : List Ride) (i : Nat) : Ride := R.getD i default
def pAt (l : List Pass) (i : Nat) : Pass := l.getD i default
theorem rAt_eq {R : List Ride} {i : Nat} {x : Ride} (h : R[i]? = some x) : rAt R i = x := by unfold rAt; rw [List.getD_eq_getElem?_getD, h]; rfl
theorem pAt_eq {R : List Pass} {i : Nat} {x : Pass} (h : R[i]? = some x) : pAt R i = x := by unfold pAt; rw [List.getD_eq_getElem?_getD, h]; rfl
/-- how many rides of the day of x that come before it are paid by pass k -/
def cnt (R : List Ride) (u : Nat → Int) (x : Ride) (k : Int) : Nat := ((List.range R.length).filter fun j => bef (rAt R j) x && decide (u j = k) && decide (day (rAt R j) = day x)).length
/-- the first pass that pays r, if pass k has paid c k rides -/
def firstP (lp : List Pass) (r : Ride) (c : Int → Nat) : Int := match (List.range lp.length).find? (fun k => vP (pAt lp k) r && decide ((c (k : Int) : Int) < (pAt lp k).n)) with | some k => (k : Int) | none => -1
/-- u says for each ride which pass pays it -/
def IsUse (lp : List Pass) (R : List Ride) (u : Nat → Int) : Prop := ∀ i, i < R.length → u i = firstP lp (rAt R i) (cnt R u (rAt R i))
theorem firstP_congr {lp : List Pass} {r : Ride} {c d : Int → Nat} (h : ∀ k, k < lp.length → c (k : Int) = d (k : Int)) : firstP lp r c = firstP lp r d := by
  unfold firstP
  have : (List.range lp.length).find? (fun k => vP (pAt lp k) r && decide ((c (k : Int) : Int) < (pAt lp k).n)) = (List.range lp.length).find? (fun k => vP (pAt lp k) r && decide ((d (k : Int) : Int) < (pAt lp k).n)) := by
    have hg : ∀ l : List Nat, (∀ k ∈ l, k < lp.length) → l.find? (fun k => vP (pAt lp k) r && decide ((c (k : Int) : Int) < (pAt lp k).n)) = l.find? (fun k => vP (pAt lp k) r && decide ((d (k : Int) : Int) < (pAt lp k).n)) := by
      intro l
      induction l with
      | nil => intro _; rfl
      | cons a l ih =>
        intro hl
        simp only [List.find?_cons]
        rw [h a (hl a (by simp)), ih (fun k hk => hl k (by simp [hk]))]
    exact hg _ (fun k hk => List.mem_range.1 hk)
  rw [this]
theorem firstP_yes {lp : List Pass} {r : Ride} {c : Int → Nat} {k : Nat} (hk : k < lp.length) (h : (vP (pAt lp k) r && decide ((c (k : Int) : Int) < (pAt lp k).n)) = true) (hn : ∀ j, j < k → (vP (pAt lp j) r && decide ((c (j : Int) : Int) < (pAt lp j).n)) = false) : firstP lp r c = k := by
  unfold firstP
  have : (List.range lp.length).find? (fun k => vP (pAt lp k) r && decide ((c (k : Int) : Int) < (pAt lp k).n)) = some k := by
    rw [List.find?_eq_some_iff_getElem]
    refine ⟨h, k, by simpa using hk, by simp, fun j hj => ?_⟩
    simp only [List.getElem_range]
    rw [hn j hj]; rfl
  rw [this]
theorem firstP_no {lp : List Pass} {r : Ride} {c : Int → Nat} (hn : ∀ j, j < lp.length → (vP (pAt lp j) r && decide ((c (j : Int) : Int) < (pAt lp j).n)) = false) : firstP lp r c = -1 := by
  unfold firstP
  have : (List.range lp.length).find? (fun k => vP (pAt lp k) r && decide ((c (k : Int) : Int) < (pAt lp k).n)) = none := by
    rw [List.find?_eq_none]
    intro j hj
    rw [hn j (List.mem_range.1 hj)]; simp
  rw [this]
/-- what it means -/
theorem firstP_cases (lp : List Pass) (r : Ride) (c : Int → Nat) : (∃ k : Nat, k < lp.length ∧ firstP lp r c = k ∧ (vP (pAt lp k) r && decide ((c (k : Int) : Int) < (pAt lp k).n)) = true ∧ ∀ j, j < k → (vP (pAt lp j) r && decide ((c (j : Int) : Int) < (pAt lp j).n)) = false) ∨
    (firstP lp r c = -1 ∧ ∀ j, j < lp.length → (vP (pAt lp j) r && decide ((c (j : Int) : Int) < (pAt lp j).n)) = false) := by
  cases h : (List.range lp.length).find? (fun k => vP (pAt lp k) r && decide ((c (k : Int) : Int) < (pAt lp k).n)) with
  | none =>
    refine .inr ⟨by unfold firstP; rw [h], fun j hj => ?_⟩
    rw [List.find?_eq_none] at h
    simpa using h j (List.mem_range.2 hj)
  | some k =>
    refine .inl ⟨k, ?_⟩
    have h' := h
    rw [List.find?_eq_some_iff_getElem] at h'
    obtain ⟨hp, i, hi, hik, hn⟩ := h'
    simp at hik; subst hik
    refine ⟨by simpa using hi, by unfold firstP; rw [h], hp, fun j hj => ?_⟩
    have := hn j hj
    simpa only [List.getElem_range, Bool.not_eq_true'] using this
theorem filter_lt {α : Type} {p q : α → Bool} : ∀ {l : List α} {a : α}, a ∈ l → (∀ x, p x = true → q x = true) → q a = true → p a = false → (l.filter p).length < (l.filter q).length
  | [], _, h, _, _, _ => by cases h
  | x :: l, a, h, hpq, hq, hp => by
    have hle : (l.filter p).length ≤ (l.filter q).length := by
      clear h
      induction l with
      | nil => simp
      | cons y l ih =>
        simp only [List.filter_cons]
        cases hy : p y
        · cases hy2 : q y <;> simp <;> omega
        · rw [hpq y hy]; simp; exact ih
    rcases List.mem_cons.1 h with rfl | h
    · simp only [List.filter_cons, hp, hq]; simp; omega
    · have ih := filter_lt h hpq hq hp
      simp only [List.filter_cons]
      cases hx : p x
      · cases hx2 : q x <;> simp <;> omega
      · rw [hpq x hx]; simp; exact ih
/-- how many rides come before x -/
def rank (R : List Ride) (x : Ride) : Nat := ((List.range R.length).filter fun j => bef (rAt R j) x).length
theorem rank_lt {R : List Ride} {j : Nat} {x : Ride} (hj : j < R.length) (h : bef (rAt R j) x = true) : rank R (rAt R j) < rank R x :=
  filter_lt (List.mem_range.2 hj) (fun i hi => bef_trans hi h) h (bef_irrefl _)
theorem cnt_congr {R : List Ride} {u v : Nat → Int} {x : Ride} (h : ∀ j, j < R.length → bef (rAt R j) x = true → u j = v j) (k : Int) : cnt R u x k = cnt R v x k := by
  unfold cnt
  congr 1
  refine List.filter_congr fun j hj => ?_
  cases hb : bef (rAt R j) x
  · rfl
  · rw [h j (List.mem_range.1 hj) hb]
theorem use_unique {lp : List Pass} {R : List Ride} {u v : Nat → Int} (hu : IsUse lp R u) (hv : IsUse lp R v) : ∀ i, i < R.length → u i = v i := by
  have : ∀ n i, i < R.length → rank R (rAt R i) = n → u i = v i := by
    intro n
    induction n using Nat.strongRecOn with
    | _ n ih =>
      intro i hi hn
      rw [hu i hi, hv i hi]
      refine firstP_congr fun k _ => cnt_congr (fun j hj hb => ?_) _
      exact ih _ (by rw [← hn]; exact rank_lt hj hb) j hj rfl
  exact fun i hi => this _ i hi rfl
end Go.Proofs.Ytbkfcdheckkjaaa
