/- The plain mathematics of replicas of events: their order, what can be added, what was seen: no program in sight. -/
import Derived.Test.YtcpfogbjbinjcaaLib
set_option linter.all false
namespace Go.Proofs.Ytcpfogbjbinjcaa

/-- an event: device, number, earliest and latest moment, kind, bicycle, place, rider, ride -/
structure Ev where
  d : Int
  q : Int
  a : Int
  t : Int
  k : Int
  b : Int
  p : Int
  r : Int
  i : Int
theorem Ev.eq_iff (x y : Ev) : x = y ↔ x.d = y.d ∧ x.q = y.q ∧ x.a = y.a ∧ x.t = y.t ∧ x.k = y.k ∧ x.b = y.b ∧ x.p = y.p ∧ x.r = y.r ∧ x.i = y.i := by
  cases x; cases y; simp
instance : DecidableEq Ev := fun x y => decidable_of_iff _ (Ev.eq_iff x y).symm
instance : Inhabited Ev := ⟨⟨0, 0, 0, 0, 0, 0, 0, 0, 0⟩⟩
/-- its nine numbers in the order in which they are compared -/
def Ev.ks (x : Ev) : List Int := [x.a, x.d, x.q, x.t, x.k, x.b, x.p, x.r, x.i]
/-- its nine cells -/
def Ev.cs (x : Ev) : List Value := [.int .i64 x.d, .int .i64 x.q, .int .i64 x.a, .int .i64 x.t, .int .i64 x.k, .int .i64 x.b, .int .i64 x.p, .int .i64 x.r, .int .i64 x.i]
/-- the same as one value -/
def Ev.ag (x : Ev) : Value := .agg #[.int .i64 x.d, .int .i64 x.q, .int .i64 x.a, .int .i64 x.t, .int .i64 x.k, .int .i64 x.b, .int .i64 x.p, .int .i64 x.r, .int .i64 x.i]
theorem Ev.ag_cs (x : Ev) : x.ag = .agg x.cs.toArray := rfl
theorem Ev.ks_inj {x y : Ev} (h : x.ks = y.ks) : x = y := by
  rw [Ev.eq_iff]; simp [Ev.ks] at h; simp [h]
theorem Ev.ks_len (x : Ev) : x.ks.length = 9 := rfl

def lexB : List Int → List Int → Bool
  | x :: xs, y :: ys => if x = y then lexB xs ys else decide (x < y)
  | _, _ => false
theorem lexB_irrefl : ∀ x : List Int, lexB x x = false
  | [] => rfl
  | x :: xs => by unfold lexB; rw [if_pos rfl]; exact lexB_irrefl xs
theorem lexB_trans : ∀ x y z : List Int, lexB x y = true → lexB y z = true → lexB x z = true
  | [], _, _, h, _ => by simp [lexB] at h
  | _ :: _, [], _, h, _ => by simp [lexB] at h
  | _ :: _, _ :: _, [], _, h => by simp [lexB] at h
  | x :: xs, y :: ys, z :: zs, h1, h2 => by
    unfold lexB at h1 h2 ⊢
    by_cases e1 : x = y
    · by_cases e2 : y = z
      · rw [if_pos e1] at h1; rw [if_pos e2] at h2; rw [if_pos (e1.trans e2)]
        exact lexB_trans xs ys zs h1 h2
      · rw [if_neg e2] at h2; rw [if_neg (by omega)]; simp at h2 ⊢; omega
    · rw [if_neg e1] at h1
      simp at h1
      by_cases e2 : y = z
      · rw [if_neg (by omega)]; simp; omega
      · rw [if_neg e2] at h2; simp at h2; rw [if_neg (by omega)]; simp; omega
theorem lexB_total : ∀ x y : List Int, x.length = y.length → lexB x y = false → lexB y x = false → x = y
  | [], [], _, _, _ => rfl
  | [], _ :: _, h, _, _ => by simp at h
  | _ :: _, [], h, _, _ => by simp at h
  | x :: xs, y :: ys, h, h1, h2 => by
    unfold lexB at h1 h2
    by_cases e : x = y
    · rw [if_pos e] at h1; rw [if_pos e.symm] at h2
      rw [e, lexB_total xs ys (by simpa using h) h1 h2]
    · rw [if_neg e] at h1; rw [if_neg (by omega)] at h2; simp at h1 h2; omega

/-- x comes before y -/
def less (x y : Ev) : Bool := lexB x.ks y.ks
theorem less_irrefl (x : Ev) : less x x = false := lexB_irrefl _
theorem less_trans {x y z : Ev} (h1 : less x y = true) (h2 : less y z = true) : less x z = true := lexB_trans _ _ _ h1 h2
theorem less_total {x y : Ev} (h1 : less x y = false) (h2 : less y x = false) : x = y := Ev.ks_inj (lexB_total _ _ rfl h1 h2)
theorem less_asymm {x y : Ev} (h : less x y = true) : less y x = false := by
  cases e : less y x
  · rfl
  · have := less_trans h e; rw [less_irrefl] at this; cases this
theorem less_ntrans {x y z : Ev} (h1 : less x y = false) (h2 : less y z = false) : less x z = false := by
  cases e : less x z
  · rfl
  · cases e2 : less y x
    · have := less_total h1 e2; subst this; rw [e] at h2; cases h2
    · have := less_trans e2 e; rw [h2] at this; cases this

/-- in order -/
def sortE (l : List Ev) : List Ev := l.mergeSort fun x y => !less y x
theorem sortE_perm (l : List Ev) : (sortE l).Perm l := List.mergeSort_perm _ _
theorem sortE_sorted (l : List Ev) : (sortE l).Pairwise fun x y => less y x = false := by
  have := List.pairwise_mergeSort (le := fun x y => !less y x) (fun a b c h1 h2 => by
    simp only [Bool.not_eq_true'] at h1 h2 ⊢; exact less_ntrans h2 h1) (fun a b => by
    simp only [Bool.or_eq_true, Bool.not_eq_true']
    cases e : less b a
    · exact .inl rfl
    · exact .inr (less_asymm e)) l
  exact this.imp fun h => by simpa using h
theorem sortE_unique {l m : List Ev} (hp : m.Perm l) (hs : m.Pairwise fun x y => less y x = false) : m = sortE l :=
  (hp.trans (sortE_perm l).symm).eq_of_pairwise (fun a b _ _ h1 h2 => less_total h2 h1) hs (sortE_sorted l)
theorem sortE_congr {l m : List Ev} (hp : l.Perm m) : sortE l = sortE m := sortE_unique ((sortE_perm l).trans hp) (sortE_sorted l)
theorem sortE_length (l : List Ev) : (sortE l).length = l.length := (sortE_perm l).length_eq
theorem sortE_mem (l : List Ev) (x : Ev) : x ∈ sortE l ↔ x ∈ l := (sortE_perm l).mem_iff

/-- two events have the same key -/
def sk (x y : Ev) : Bool := decide (x.d = y.d) && decide (x.q = y.q)
theorem sk_iff (x y : Ev) : sk x y = true ↔ x.d = y.d ∧ x.q = y.q := by simp [sk]
/-- x, of the same device, contradicts the order of time -/
def late (x e : Ev) : Bool := decide (x.d = e.d) && ((decide (x.q < e.q) && decide (e.a < x.a)) || (decide (e.q < x.q) && decide (x.a < e.a)))
def fitsB (l : List Ev) (e : Ev) : Bool := !l.any fun x => late x e
/-- the numbers of an event lie in their ranges -/
def rngB (e : Ev) : Bool := decide (1 ≤ e.q) && decide (e.q ≤ 1048576) && decide (0 ≤ e.a) && decide (e.a ≤ e.t) && decide (e.t ≤ 4294943999)
def findE (l : List Ev) (e : Ev) : Option Ev := l.find? fun x => sk x e
/-- the error of adding e -/
def addE (n : Int) (l : List Ev) (e : Ev) : Int :=
  if e.d < 0 ∨ n ≤ e.d then 7 else if rngB e = false then 1 else
  match findE l e with
  | some x => if x = e then 0 else 21
  | none => if fitsB l e = false then 9 else if 512 ≤ l.length then 8 else 0
/-- e is new -/
def freshB (n : Int) (l : List Ev) (e : Ev) : Bool := decide (addE n l e = 0) && (findE l e).isNone
def addL (n : Int) (l : List Ev) (e : Ev) : List Ev := if freshB n l e then l ++ [e] else l
end Go.Proofs.Ytcpfogbjbinjcaa
