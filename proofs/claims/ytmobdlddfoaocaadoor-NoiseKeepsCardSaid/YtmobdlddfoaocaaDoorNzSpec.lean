/- The plain mathematics of noise: weights, their sums, the value of a number, the excess, made weights: no program in sight. -/
import Derived.Test.YtmobdlddfoaocaaDoorLib
namespace Go.Proofs.YtmobdlddfoaocaaDoor

def okAt (l : List Int) (i : Nat) : Prop := 1 ≤ at0 l i ∧ at0 l i ≤ 16777216 ∧ (0 < i → at0 l i ≤ at0 l (i-1))
def Good (l : List Int) : Prop := 1 ≤ l.length ∧ l.length ≤ 33 ∧ ∀ i, i < l.length → okAt l i
noncomputable def check (l : List Int) : Int := open Classical in if Good l then 0 else 32
theorem check_good {l : List Int} (h : Good l) : check l = 0 := by unfold check; simp [h]
theorem check_bad {l : List Int} (h : ¬ Good l) : check l = 32 := by unfold check; simp [h]
theorem chk_cases (l : List Int) (k : Nat) : at0 l k < 1 ∨ (1 ≤ at0 l k ∧ 16777216 < at0 l k) ∨ (1 ≤ at0 l k ∧ at0 l k ≤ 16777216 ∧ k = 0) ∨
   (1 ≤ at0 l k ∧ at0 l k ≤ 16777216 ∧ 0 < k ∧ at0 l (k-1) < at0 l k) ∨ (1 ≤ at0 l k ∧ at0 l k ≤ 16777216 ∧ 0 < k ∧ at0 l k ≤ at0 l (k-1)) := by omega

/-- the weight of v -/
def wt (l : List Int) (v : Int) : Int := if v.natAbs < l.length then at0 l v.natAbs else 0
noncomputable def weight (l : List Int) (v : Int) : Int := open Classical in if Good l then wt l v else 0
theorem weight_good {l : List Int} (h : Good l) (v : Int) : weight l v = wt l v := by unfold weight; simp [h]
theorem weight_bad {l : List Int} (h : ¬ Good l) (v : Int) : weight l v = 0 := by unfold weight; simp [h]
theorem wt_in {l : List Int} {v : Int} (h : v.natAbs < l.length) : wt l v = at0 l v.natAbs := by unfold wt; rw [if_pos h]
theorem wt_out {l : List Int} {v : Int} (h : l.length ≤ v.natAbs) : wt l v = 0 := by unfold wt; rw [if_neg (by omega)]
theorem wt_neg (l : List Int) (v : Int) : wt l (-v) = wt l v := by unfold wt; rw [Int.natAbs_neg]
theorem wt_bd {l : List Int} (h : Good l) (v : Int) : 0 ≤ wt l v ∧ wt l v ≤ 16777216 := by
  unfold wt; split
  · rename_i hv; have := h.2.2 _ hv; unfold okAt at this; omega
  · omega

/-- the sum of f at 0 to n - 1 -/
def sumN (f : Nat → Int) : Nat → Int | 0 => 0 | n + 1 => sumN f n + f n
theorem sumN_zero (f : Nat → Int) : sumN f 0 = 0 := rfl
theorem sumN_succ (f : Nat → Int) (n : Nat) : sumN f (n + 1) = sumN f n + f n := rfl
theorem sumN_congr {f g : Nat → Int} {n : Nat} (h : ∀ i, i < n → f i = g i) : sumN f n = sumN g n := by
  induction n with
  | zero => rfl
  | succ n ih => rw [sumN_succ, sumN_succ, ih (fun i hi => h i (by omega)), h n (by omega)]
theorem sumN_add (f : Nat → Int) (n m : Nat) : sumN f (n + m) = sumN f n + sumN (fun i => f (n + i)) m := by
  induction m with
  | zero => simp [sumN]
  | succ m ih => rw [← Nat.add_assoc, sumN_succ, sumN_succ, ih]; omega
theorem sumN_nil {f : Nat → Int} {n : Nat} (h : ∀ i, i < n → f i = 0) : sumN f n = 0 := by
  induction n with
  | zero => rfl
  | succ n ih => rw [sumN_succ, ih (fun i hi => h i (by omega)), h n (by omega)]; rfl
theorem sumN_tail {f : Nat → Int} {n m : Nat} (hnm : n ≤ m) (h : ∀ i, n ≤ i → i < m → f i = 0) : sumN f m = sumN f n := by
  obtain ⟨k, rfl⟩ : ∃ k, m = n + k := ⟨m - n, by omega⟩
  rw [sumN_add, sumN_nil (n := k) (fun i hi => h (n + i) (by omega) (by omega))]; omega
theorem sumN_first (f : Nat → Int) (n : Nat) : sumN f (n + 1) = f 0 + sumN (fun i => f (i + 1)) n := by
  rw [Nat.add_comm, sumN_add]; simp only [sumN]; simp [Nat.add_comm]
theorem sumN_rev (f : Nat → Int) (n : Nat) : sumN (fun i => f (n - 1 - i)) n = sumN f n := by
  induction n generalizing f with
  | zero => rfl
  | succ n ih =>
    rw [sumN_succ, sumN_first f n, ← ih (fun i => f (i + 1))]
    have : sumN (fun i => f (n + 1 - 1 - i)) n = sumN (fun i => f (n - 1 - i + 1)) n := sumN_congr fun i hi => by
      rw [show n + 1 - 1 - i = n - 1 - i + 1 by omega]
    rw [this, show n + 1 - 1 - n = 0 by omega]; omega
theorem sumN_le {f g : Nat → Int} {n : Nat} (h : ∀ i, i < n → f i ≤ g i) : sumN f n ≤ sumN g n := by
  induction n with
  | zero => exact Int.le_refl _
  | succ n ih => rw [sumN_succ, sumN_succ]; have := ih (fun i hi => h i (by omega)); have := h n (by omega); omega
theorem sumN_nonneg {f : Nat → Int} {n : Nat} (h : ∀ i, i < n → 0 ≤ f i) : 0 ≤ sumN f n := by
  induction n with
  | zero => exact Int.le_refl _
  | succ n ih => rw [sumN_succ]; have := ih (fun i hi => h i (by omega)); have := h n (by omega); omega
theorem sumN_bd {f : Nat → Int} {n : Nat} {B : Int} (h : ∀ i, i < n → 0 ≤ f i ∧ f i ≤ B) : 0 ≤ sumN f n ∧ sumN f n ≤ n * B := by
  induction n with
  | zero => simp [sumN]
  | succ n ih =>
    rw [sumN_succ]; have h1 := ih (fun i hi => h i (by omega)); have h2 := h n (by omega)
    have : ((n + 1 : Nat) : Int) * B = n * B + B := by rw [Int.natCast_add, Int.add_mul]; simp
    omega
theorem sumN_sum (f g : Nat → Int) (n : Nat) : sumN (fun i => f i + g i) n = sumN f n + sumN g n := by
  induction n with
  | zero => rfl
  | succ n ih => rw [sumN_succ, sumN_succ, sumN_succ, ih]; omega
theorem sumN_mono {f : Nat → Int} (h : ∀ i, 0 ≤ f i) {n m : Nat} (hnm : n ≤ m) : sumN f n ≤ sumN f m := by
  obtain ⟨k, rfl⟩ : ∃ k, m = n + k := ⟨m - n, by omega⟩
  rw [sumN_add]; have := sumN_nonneg (f := fun i => f (n + i)) (n := k) (fun i _ => h _); omega

/-- the sum of the weights of the values from -32 to j - 33 -/
def pre (l : List Int) (j : Nat) : Int := sumN (fun i => wt l ((i : Int) - 32)) j
theorem pre_succ (l : List Int) (j : Nat) : pre l (j + 1) = pre l j + wt l ((j : Int) - 32) := rfl
def total (l : List Int) : Int := pre l 65
theorem pre_bd {l : List Int} (h : Good l) (j : Nat) : 0 ≤ pre l j ∧ pre l j ≤ j * 16777216 := sumN_bd fun i _ => wt_bd h _
theorem pre_mono {l : List Int} (h : Good l) {i j : Nat} (hij : i ≤ j) : pre l i ≤ pre l j := sumN_mono (fun i => (wt_bd h _).1) hij
theorem total_bd {l : List Int} (h : Good l) : 1 ≤ total l ∧ total l ≤ 1090519040 := by
  have h1 := pre_bd h 65
  have h2 := pre_mono h (i := 33) (j := 65) (by omega)
  have h3 := pre_bd h 32
  have h4 : pre l 33 = pre l 32 + wt l (((32 : Nat) : Int) - 32) := pre_succ l 32
  have h5 : wt l (((32 : Nat) : Int) - 32) = at0 l 0 := wt_in (v := 0) (by have := h.1; simp; omega)
  have h6 := (h.2.2 0 (by have := h.1; omega)).1
  unfold total; omega
theorem pre_start {l : List Int} (hl : l.length ≤ 33) : pre l (33 - l.length) = 0 := sumN_nil fun i hi => wt_out (by omega)
theorem total_split {l : List Int} (h1 : 1 ≤ l.length) (h2 : l.length ≤ 33) : total l = at0 l 0 + 2 * sumN (fun i => at0 l (i + 1)) (l.length - 1) := by
  have e1 : total l = sumN (fun i => wt l ((i : Int) - 32)) 32 + sumN (fun i => wt l (((32 + i : Nat) : Int) - 32)) 33 := sumN_add (fun i => wt l ((i : Int) - 32)) 32 33
  have e2 : sumN (fun i => wt l (((32 + i : Nat) : Int) - 32)) 33 = wt l 0 + sumN (fun i => wt l ((i : Int) + 1)) 32 := by
    rw [show (33 : Nat) = 32 + 1 from rfl, sumN_first]
    rw [sumN_congr (g := fun i => wt l ((i : Int) + 1)) (fun i _ => by congr 1; omega)]; rfl
  have e3 : sumN (fun i => wt l ((i : Int) - 32)) 32 = sumN (fun i => wt l ((i : Int) + 1)) 32 := by
    rw [← sumN_rev (fun i => wt l ((i : Int) + 1)) 32]
    refine sumN_congr fun i hi => ?_
    rw [← wt_neg]; congr 1; omega
  have e4 : sumN (fun i => wt l ((i : Int) + 1)) 32 = sumN (fun i => at0 l (i + 1)) (l.length - 1) := by
    rw [sumN_tail (n := l.length - 1) (by omega) (fun i hi hi2 => wt_out (by omega))]
    refine sumN_congr fun i hi => ?_
    rw [wt_in (by omega), show ((i : Int) + 1).natAbs = i + 1 by omega]
  have e5 : wt l 0 = at0 l 0 := wt_in (v := 0) (by simp; omega)
  omega
noncomputable def totalF (l : List Int) : Int := open Classical in if Good l then total l else 0
theorem totalF_good {l : List Int} (h : Good l) : totalF l = total l := by unfold totalF; simp [h]
theorem totalF_bad {l : List Int} (h : ¬ Good l) : totalF l = 0 := by unfold totalF; simp [h]

/-- x belongs to v -/
def IsAt (l : List Int) (x v : Int) : Prop := ∃ j : Nat, j < 65 ∧ v = (j : Int) - 32 ∧ pre l j ≤ x ∧ x < pre l (j + 1)
theorem IsAt.unique {l : List Int} (h : Good l) {x v v' : Int} (a : IsAt l x v) (b : IsAt l x v') : v = v' := by
  obtain ⟨j, hj, rfl, h1, h2⟩ := a
  obtain ⟨k, hk, rfl, h3, h4⟩ := b
  rcases Nat.lt_trichotomy j k with hjk | rfl | hjk
  · have := pre_mono h (i := j + 1) (j := k) (by omega); omega
  · rfl
  · have := pre_mono h (i := k + 1) (j := j) (by omega); omega
noncomputable def atV (l : List Int) (x : Int) : Int := open Classical in if h : ∃ v, IsAt l x v then h.choose else 0
theorem atV_eq {l : List Int} (h : Good l) {x v : Int} (a : IsAt l x v) : atV l x = v := by
  unfold atV; rw [dif_pos ⟨v, a⟩]; exact IsAt.unique h (Exists.choose_spec (⟨v, a⟩ : ∃ v, IsAt l x v)) a
theorem IsAt.exists {l : List Int} {x : Int} (h0 : 0 ≤ x) : ∀ n : Nat, n ≤ 65 → x < pre l n → ∃ v, IsAt l x v
  | 0, _, h => by have : pre l 0 = 0 := rfl; omega
  | n + 1, hn, h => by
    by_cases hx : x < pre l n
    · exact IsAt.exists h0 n (by omega) hx
    · exact ⟨_, n, by omega, rfl, by omega, h⟩
theorem atV_at {l : List Int} (h : Good l) {x : Int} (h0 : 0 ≤ x) (h1 : x < total l) : IsAt l x (atV l x) := by
  obtain ⟨v, hv⟩ := IsAt.exists h0 65 (Nat.le_refl _) h1
  rw [atV_eq h hv]; exact hv
theorem IsAt.weight {l : List Int} {x v : Int} (a : IsAt l x v) : 1 ≤ wt l v := by
  obtain ⟨j, _, rfl, h1, h2⟩ := a; rw [pre_succ] at h2; omega
theorem IsAt.bd {l : List Int} {x v : Int} (a : IsAt l x v) : -32 ≤ v ∧ v ≤ 32 := by
  obtain ⟨j, _, rfl, h1, h2⟩ := a; omega

/-- a ratio is right -/
def Right (num den : Int) : Prop := 1 ≤ den ∧ den ≤ num ∧ num ≤ 1024
def rightB (num den : Int) : Bool := decide (1 ≤ den) && decide (den ≤ num) && decide (num ≤ 1024)
theorem rightB_iff (num den : Int) : rightB num den = true ↔ Right num den := by unfold rightB Right; simp [and_assoc]
theorem rightB_yes {num den : Int} (h : Right num den) : rightB num den = true := (rightB_iff _ _).2 h
theorem rightB_no {num den : Int} (h : ¬ Right num den) : rightB num den = false := by
  cases e : rightB num den
  · rfl
  · exact (h ((rightB_iff _ _).1 e)).elim
def exT (l : List Int) (num den s : Int) (j : Nat) : Int := max 0 (den * wt l ((j : Int) - 32) - num * wt l ((j : Int) - 32 - s))
def exv (l : List Int) (num den s : Int) : Int := sumN (exT l num den s) 65
theorem mul_bd {a b A B : Int} (ha : 0 ≤ a) (ha' : a ≤ A) (hb : 0 ≤ b) (hb' : b ≤ B) : 0 ≤ a * b ∧ a * b ≤ A * B :=
  ⟨Int.mul_nonneg ha hb, Int.mul_le_mul ha' hb' hb (by omega)⟩
theorem ex_bd {l : List Int} (h : Good l) {num den : Int} (hr : Right num den) (v u : Int) : 0 ≤ den * wt l v ∧ den * wt l v ≤ 17179869184 ∧ 0 ≤ num * wt l u ∧ num * wt l u ≤ 17179869184 := by
  unfold Right at hr
  have h1 := wt_bd h v; have h2 := wt_bd h u
  have h3 := mul_bd (a := den) (b := wt l v) (A := 1024) (B := 16777216) (by omega) (by omega) h1.1 h1.2
  have h4 := mul_bd (a := num) (b := wt l u) (A := 1024) (B := 16777216) (by omega) (by omega) h2.1 h2.2
  omega
theorem exT_bd {l : List Int} (h : Good l) {num den : Int} (hr : Right num den) (s : Int) (j : Nat) : 0 ≤ exT l num den s j ∧ exT l num den s j ≤ 17179869184 := by
  have := ex_bd h hr ((j : Int) - 32) ((j : Int) - 32 - s); unfold exT; omega
theorem exT_out {l : List Int} (h : Good l) {num den : Int} (hr : Right num den) (s : Int) (j : Nat) (hj : l.length ≤ ((j : Int) - 32).natAbs) : exT l num den s j = 0 := by
  have := ex_bd h hr ((j : Int) - 32) ((j : Int) - 32 - s); unfold exT; rw [wt_out hj] at *; omega
theorem ex_start {l : List Int} (h : Good l) {num den : Int} (hr : Right num den) (s : Int) : sumN (exT l num den s) (33 - l.length) = 0 :=
  sumN_nil fun i hi => exT_out h hr s i (by have := h.2.1; omega)
theorem ex_end {l : List Int} (h : Good l) {num den : Int} (hr : Right num den) (s : Int) : sumN (exT l num den s) (32 + l.length) = exv l num den s :=
  (sumN_tail (by have := h.2.1; omega) fun i hi hi2 => exT_out h hr s i (by have := h.2.1; omega)).symm
theorem ex_sum_bd {l : List Int} (h : Good l) {num den : Int} (hr : Right num den) (s : Int) (j : Nat) : 0 ≤ sumN (exT l num den s) j ∧ sumN (exT l num den s) j ≤ j * 17179869184 :=
  sumN_bd fun i _ => exT_bd h hr s i

/-- weight i of made noise -/
def mk (num den : Int) : Nat → Int | 0 => 16777216 | i + 1 => (mk num den i * den + num - 1) / num
def mkL (num den : Int) (n : Nat) : List Int := (List.range n).map (mk num den)
theorem mkL_length (num den : Int) (n : Nat) : (mkL num den n).length = n := by simp [mkL]
theorem mkL_at {num den : Int} {n i : Nat} (h : i < n) : at0 (mkL num den n) i = mk num den i := by
  unfold at0 mkL; rw [List.getD_eq_getElem?_getD]; simp [List.getElem?_range h]
theorem mkL_succ (num den : Int) (n : Nat) : mkL num den (n + 1) = mkL num den n ++ [mk num den n] := by simp [mkL, List.range_succ]
theorem mk_step {num den m : Int} (hr : Right num den) (h1 : 1 ≤ m) : 1 ≤ (m * den + num - 1) / num ∧ (m * den + num - 1) / num ≤ m := by
  unfold Right at hr
  have a := Int.mul_le_mul_of_nonneg_left (c := m) hr.2.1 (by omega)
  have b : 1 * 1 ≤ m * den := Int.mul_le_mul h1 hr.1 (by omega) (by omega)
  constructor
  · rw [Int.le_ediv_iff_mul_le (by omega)]; omega
  · have : (m * den + num - 1) / num < m + 1 := by
      rw [Int.ediv_lt_iff_lt_mul (by omega), Int.add_mul]; omega
    omega
theorem mk_bd {num den : Int} (hr : Right num den) (i : Nat) : 1 ≤ mk num den i ∧ mk num den i ≤ 16777216 := by
  induction i with
  | zero => simp [mk]
  | succ i ih => have := mk_step hr ih.1; unfold mk; omega
theorem mk_mul_bd {num den : Int} (hr : Right num den) (i : Nat) : 1 ≤ mk num den i * den ∧ mk num den i * den ≤ 17179869184 := by
  have h1 := mk_bd hr i
  unfold Right at hr
  have b : 1 * 1 ≤ mk num den i * den := Int.mul_le_mul h1.1 hr.1 (by omega) (by omega)
  have c := mul_bd (a := mk num den i) (b := den) (A := 16777216) (B := 1024) (by omega) h1.2 (by omega) (by omega)
  omega
theorem mkL_good {num den : Int} (hr : Right num den) {n : Nat} (h1 : 1 ≤ n) (h2 : n ≤ 33) : Good (mkL num den n) := by
  refine ⟨by rw [mkL_length]; exact h1, by rw [mkL_length]; exact h2, fun i hi => ?_⟩
  rw [mkL_length] at hi
  have h := mk_bd hr i
  unfold okAt; rw [mkL_at hi]
  refine ⟨h.1, h.2, fun h0 => ?_⟩
  rw [mkL_at (by omega)]
  obtain ⟨k, rfl⟩ : ∃ k, i = k + 1 := ⟨i - 1, by omega⟩
  exact (mk_step hr (mk_bd hr k).1).2
end Go.Proofs.YtmobdlddfoaocaaDoor
