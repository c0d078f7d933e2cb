/- Numerals as the reference writes and reads them: plain mathematics, no program in sight. -/
import Derived.Test.YtnkmngkinjjbfaaDoorClTxt
set_option linter.all false
namespace Go.Proofs.YtnkmngkinjjbfaaDoor
open Go.Lib

/-- what the writing of a number keeps: after i rounds m is left of n, and l is written -/
structure DecInv (n i m : Nat) (l : List UInt8) : Prop where
  p : m * 10 ^ i ≤ n
  z : i = 0 → m = n ∧ l = []
  s : 0 < i → if m = 0 then l = decDigits n else decDigits n = decDigits m ++ l
theorem decInv_start (n : Nat) : DecInv n 0 n [] := ⟨by simp, fun _ => ⟨rfl, rfl⟩, fun h => (by omega)⟩
theorem dec_step (m : Nat) : if m / 10 = 0 then decDigits m = [UInt8.ofNat (48 + m % 10)] else decDigits m = decDigits (m / 10) ++ [UInt8.ofNat (48 + m % 10)] := by
  by_cases h : m < 10
  · rw [if_pos (by omega), decDigits_one h, Nat.mod_eq_of_lt h]
  · rw [if_neg (by omega)]
    conv => lhs; rw [decDigits, dif_neg h]
theorem DecInv.step {n i m : Nat} {l : List UInt8} (h : DecInv n i m l) (hm : 0 < m ∨ i = 0) : DecInv n (i + 1) (m / 10) (UInt8.ofNat (48 + m % 10) :: l) := by
  refine ⟨?_, fun h => (by omega), fun _ => ?_⟩
  · have h1 : m / 10 * 10 ≤ m := by omega
    calc m / 10 * 10 ^ (i + 1) = (m / 10 * 10) * 10 ^ i := by rw [Nat.pow_succ, Nat.mul_assoc, Nat.mul_comm (10 ^ i) 10]
      _ ≤ m * 10 ^ i := Nat.mul_le_mul_right _ h1
      _ ≤ n := h.p
  · have hd := dec_step m
    by_cases hi : i = 0
    · obtain ⟨rfl, rfl⟩ := h.z hi
      split at hd
      · rename_i h0; rw [if_pos h0]; exact hd.symm
      · rename_i h0; rw [if_neg h0]; exact hd
    · have hs := h.s (by omega)
      rw [if_neg (by omega)] at hs
      split at hd
      · rename_i h0; rw [if_pos h0, hs, hd]; rfl
      · rename_i h0; rw [if_neg h0, hs, hd, List.append_assoc]; rfl
theorem DecInv.done {n i : Nat} {l : List UInt8} (h : DecInv n i 0 l) (hi : 0 < i) : l = decDigits n := by
  have := h.s hi; rwa [if_pos rfl] at this
theorem DecInv.low {n m : Nat} {l : List UInt8} (h : DecInv n 20 m l) (hn : n ≤ 100000) : m = 0 := by
  have := h.p
  have h2 : (10 : Nat) ^ 20 = 100000000000000000000 := by decide
  rw [h2] at this
  omega
theorem DecInv.le {n i m : Nat} {l : List UInt8} (h : DecInv n i m l) : m ≤ n := by
  have h1 : 1 ≤ 10 ^ i := Nat.one_le_pow _ _ (by decide)
  exact Nat.le_trans (Nat.le_mul_of_pos_right m h1) h.p
/-- the number that digits write, -1 if a byte is none (few digits) -/
def digV (l : List UInt8) : Int := match parseUint10 0 l with | .ok u => u | _ => -1
theorem digV_dec (u : Nat) (h : u < 1000000000000000) : digV (decDigits u) = u := by
  unfold digV
  have := parse_dec u [] h
  rw [List.append_nil, parseUint10] at this
  rw [this]
theorem digV_two (u : Nat) (h : u < 100) : digV (two2 u) = u := by unfold digV; rw [parse_two u h]
/-- what the reading of digits keeps -/
structure DigInv (l : List UInt8) (k acc : Nat) : Prop where
  b : acc < 10 ^ k
  h : parseUint10 0 l = parseUint10 acc (l.drop k)
theorem digInv_start (l : List UInt8) : DigInv l 0 0 := ⟨by simp, rfl⟩
theorem DigInv.bound {l : List UInt8} {k acc : Nat} (h : DigInv l k acc) (hk : k ≤ 5) : acc < 100000 :=
  Nat.lt_of_lt_of_le h.b (Nat.pow_le_pow_right (by decide) hk)
theorem DigInv.step {l : List UInt8} {k acc : Nat} {c : UInt8} (h : DigInv l k acc) (hc : l[k]? = some c) (hk : k ≤ 5) (h1 : 48 ≤ c.toNat) (h2 : c.toNat ≤ 57) : DigInv l (k + 1) (acc * 10 + (c.toNat - 48)) := by
  have hb := h.bound hk
  refine ⟨by have := h.b; rw [Nat.pow_succ]; omega, ?_⟩
  rw [h.h, List.drop_eq_getElem_cons (List.getElem?_eq_some_iff.1 hc).1, (List.getElem?_eq_some_iff.1 hc).2, parseUint10, if_pos ⟨h1, h2⟩, if_neg (by omega), if_neg (by omega)]
theorem DigInv.bad {l : List UInt8} {k acc : Nat} {c : UInt8} (h : DigInv l k acc) (hc : l[k]? = some c) (hb : c.toNat < 48 ∨ 57 < c.toNat) : digV l = -1 := by
  unfold digV
  rw [h.h, List.drop_eq_getElem_cons (List.getElem?_eq_some_iff.1 hc).1, (List.getElem?_eq_some_iff.1 hc).2, parseUint10, if_neg (by omega)]
theorem DigInv.done {l : List UInt8} {acc : Nat} (h : DigInv l l.length acc) : digV l = acc := by
  unfold digV
  rw [h.h, List.drop_length, parseUint10]
theorem digV_lt {l : List UInt8} : digV l < 18446744073709551616 := by
  unfold digV
  split
  · rename_i u h
    have := parseUint10_lt l 0 u (by omega) h
    omega
  · omega
end Go.Proofs.YtnkmngkinjjbfaaDoor
