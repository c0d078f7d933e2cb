/- The plain law of NoiseExact, NoiseMirrors: the excess is the greatest difference over all sets; it is the same for a shift and its opposite, 0 for shift 0, and falls with the ratio. -/
import Derived.Test.YtmobdlddfoaocaaDoorNzSpec
namespace Go.Proofs.YtmobdlddfoaocaaDoor

/-- term i of the law's sum: the values run from -100 -/
def xT (l : List Int) (num den s : Int) (i : Nat) : Int := max 0 (den * wt l ((i : Int) - 100) - num * wt l ((i : Int) - 100 - s))
theorem xT_eq (l : List Int) (num den s : Int) (i : Nat) : xT l num den s (68 + i) = exT l num den s i := by
  unfold xT exT
  rw [show (((68 + i : Nat) : Int) - 100) = (i : Int) - 32 by omega]
theorem xT_bd {l : List Int} (h : Good l) {num den : Int} (hr : Right num den) (s : Int) (i : Nat) : 0 ≤ xT l num den s i ∧ xT l num den s i ≤ 17179869184 := by
  have := ex_bd h hr ((i : Int) - 100) ((i : Int) - 100 - s); unfold xT; omega
theorem xT_out {l : List Int} (h : Good l) {num den : Int} (hr : Right num den) (s : Int) (i : Nat) (hj : l.length ≤ ((i : Int) - 100).natAbs) : xT l num den s i = 0 := by
  have := ex_bd h hr ((i : Int) - 100) ((i : Int) - 100 - s); unfold xT; rw [wt_out hj] at *; omega
theorem x_sum_bd {l : List Int} (h : Good l) {num den : Int} (hr : Right num den) (s : Int) (j : Nat) : 0 ≤ sumN (xT l num den s) j ∧ sumN (xT l num den s) j ≤ j * 17179869184 :=
  sumN_bd fun i _ => xT_bd h hr s i
theorem x_end {l : List Int} (h : Good l) {num den : Int} (hr : Right num den) (s : Int) : sumN (xT l num den s) 201 = exv l num den s := by
  have h33 := h.2.1
  have e1 : sumN (xT l num den s) 133 = sumN (xT l num den s) 68 + sumN (fun i => xT l num den s (68 + i)) 65 := sumN_add _ 68 65
  rw [sumN_tail (n := 133) (by omega) (fun i hi hi2 => xT_out h hr s i (by omega)), e1, sumN_nil (n := 68) (fun i hi => xT_out h hr s i (by omega)),
    sumN_congr (g := exT l num den s) (fun i _ => xT_eq l num den s i), Int.zero_add]
  rfl

/-- shift 0 -/
theorem exv_zero {l : List Int} (h : Good l) {num den : Int} (hr : Right num den) : exv l num den 0 = 0 := sumN_nil fun i _ => by
  unfold exT
  rw [Int.sub_zero]
  have := Int.mul_le_mul_of_nonneg_right hr.2.1 (wt_bd h ((i : Int) - 32)).1
  omega
/-- the opposite shift -/
theorem exv_neg (l : List Int) (num den s : Int) : exv l num den (-s) = exv l num den s := by
  unfold exv
  rw [← sumN_rev (exT l num den s) 65]
  refine sumN_congr fun i hi => ?_
  unfold exT
  rw [show (((65 - 1 - i : Nat) : Int) - 32) = -((i : Int) - 32) by omega, wt_neg, show -((i : Int) - 32) - s = -((i : Int) - 32 - -s) by omega, wt_neg]
/-- a greater numerator, a smaller denominator -/
theorem exv_le {l : List Int} (h : Good l) {num den num' den' : Int} (hn : num ≤ num') (hd : den' ≤ den) (s : Int) : exv l num' den' s ≤ exv l num den s := sumN_le fun i _ => by
  unfold exT
  have h1 := Int.mul_le_mul_of_nonneg_right hn (wt_bd h ((i : Int) - 32 - s)).1
  have h2 := Int.mul_le_mul_of_nonneg_right hd (wt_bd h ((i : Int) - 32)).1
  omega
theorem exv_nonneg {l : List Int} (h : Good l) {num den : Int} (hr : Right num den) (s : Int) : 0 ≤ exv l num den s := (ex_sum_bd h hr s 65).1
end Go.Proofs.YtmobdlddfoaocaaDoor
