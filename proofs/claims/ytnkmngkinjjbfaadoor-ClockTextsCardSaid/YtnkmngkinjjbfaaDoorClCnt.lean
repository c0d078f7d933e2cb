/- How many moments a set of windows has: plain mathematics, no program in sight. -/
import Derived.Test.YtnkmngkinjjbfaaDoorClMath
set_option linter.all false
namespace Go.Proofs.YtnkmngkinjjbfaaDoor
open Go.RowKit

/-- how many moments below n a set has -/
def ccnt (S : Int → Bool) : Nat → Int
  | 0 => 0
  | n + 1 => ccnt S n + if S n then 1 else 0
theorem ccnt_congr {S T : Int → Bool} : ∀ n : Nat, (∀ t : Int, 0 ≤ t → t < n → S t = T t) → ccnt S n = ccnt T n
  | 0, _ => rfl
  | n + 1, h => by
    have h1 := ccnt_congr n fun t h0 h1 => h t h0 (by omega)
    have h2 := h n (by omega) (by omega)
    simp only [ccnt, h1, h2]
theorem ccnt_add {S A B : Int → Bool} : ∀ n : Nat, (∀ t : Int, 0 ≤ t → t < n → (S t = (A t || B t)) ∧ (A t && B t) = false) → ccnt S n = ccnt A n + ccnt B n
  | 0, _ => rfl
  | n + 1, h => by
    have h1 := ccnt_add (S := S) (A := A) (B := B) n fun t h0 h1 => h t h0 (by omega)
    obtain ⟨h2, h3⟩ := h n (by omega) (by omega)
    simp only [ccnt, h1, h2]
    revert h3
    cases A n <;> cases B n <;> simp <;> omega
theorem ccnt_le {S T : Int → Bool} : ∀ n : Nat, (∀ t : Int, 0 ≤ t → t < n → S t = true → T t = true) → ccnt S n ≤ ccnt T n
  | 0, _ => by simp [ccnt]
  | n + 1, h => by
    have h1 := ccnt_le (S := S) (T := T) n fun t h0 h1 => h t h0 (by omega)
    have h2 := h n (by omega) (by omega)
    simp only [ccnt]
    revert h2
    cases S n <;> cases T n <;> simp <;> omega
theorem ccnt_none {S : Int → Bool} : ∀ n : Nat, (∀ t : Int, 0 ≤ t → t < n → S t = false) → ccnt S n = 0
  | 0, _ => rfl
  | n + 1, h => by
    have h1 := ccnt_none (S := S) n fun t h0 h1 => h t h0 (by omega)
    have h2 := h n (by omega) (by omega)
    simp only [ccnt, h1, h2]
    simp
theorem ccnt_win (x : Win) (h0 : 0 ≤ x.f) (h1 : x.f ≤ x.t) : ∀ n : Nat, ccnt (fun t => inW t x) n = min x.t n - min x.f n
  | 0 => by simp [ccnt]; omega
  | n + 1 => by
    have ih := ccnt_win x h0 h1 n
    simp only [ccnt, ih]
    by_cases hi : inW n x = true
    · rw [if_pos hi]
      have := (inW_iff _ _).1 hi
      omega
    · rw [if_neg hi]
      have : ¬ (x.f ≤ (n : Int) ∧ (n : Int) < x.t) := fun h => hi ((inW_iff _ _).2 h)
      omega
/-- the length of a list in normal form is the number of its moments -/
theorem lenW_ccnt : ∀ {u : List Win}, Norm u → lenW u = ccnt (hasW u) 4294944000
  | [], _ => (ccnt_none _ fun t _ _ => rfl).symm
  | x :: u, hn => by
    have hx := hn.v x (by simp)
    have e1 : lenW (x :: u) = (x.t - x.f) + lenW u := by simp [lenW]
    have h1 := ccnt_win x hx.1 (by omega) 4294944000
    rw [e1, lenW_ccnt hn.tail, ccnt_add (S := hasW (x :: u)) (A := fun t => inW t x) (B := hasW u) _ fun t _ _ => ⟨rfl, by
      cases hi : inW t x
      · rfl
      · have := (inW_iff _ _).1 hi
        rw [norm_before hn (show t ≤ x.t by omega)]; rfl⟩, h1]
    omega
theorem IsSet.lenN {u : List Win} {S : Int → Bool} (h : IsSet u S) : lenW u = ccnt S 4294944000 := by
  rw [lenW_ccnt h.n]; exact ccnt_congr _ fun t _ _ => h.h t
/-- how many moments a set has -/
theorem lenC_is (S : Int → Bool) : ∃ n : Int, n = ccnt S 4294944000 := ⟨_, rfl⟩
noncomputable def lenC (S : Int → Bool) : Int := Classical.choose (lenC_is S)
theorem lenC_eq (S : Int → Bool) : lenC S = ccnt S 4294944000 := Classical.choose_spec (lenC_is S)
theorem IsSet.lenC {u : List Win} {S : Int → Bool} (h : IsSet u S) : lenW u = lenC S := by rw [h.lenN, lenC_eq]
end Go.Proofs.YtnkmngkinjjbfaaDoor
