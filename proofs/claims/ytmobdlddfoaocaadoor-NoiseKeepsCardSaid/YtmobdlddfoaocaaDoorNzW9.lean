/- The walks of noise, ninth part: math/bits.Len64, Power. -/
import Derived.Test.YtmobdlddfoaocaaDoorNzW8
namespace Go.Proofs.YtmobdlddfoaocaaDoor
open Go.RowKit

/-- n has L bits -/
def IsLen (n L : Nat) : Prop := n < 2 ^ L ∧ (L = 0 ∨ 2 ^ (L - 1) ≤ n)
instance (n L : Nat) : Decidable (IsLen n L) := by unfold IsLen; infer_instance
def lenN (n : Nat) : Nat := if n = 0 then 0 else n.log2 + 1
theorem lenN_is (n : Nat) : IsLen n (lenN n) := by
  unfold lenN; split
  · subst_vars; exact ⟨by decide, .inl rfl⟩
  · rename_i h; exact ⟨Nat.lt_log2_self, .inr (by simpa using Nat.log2_self_le h)⟩
theorem IsLen.unique {n L M : Nat} (h : IsLen n L) (k : IsLen n M) : L = M := by
  rcases Nat.lt_trichotomy L M with c | c | c
  · have : 2 ^ L ≤ 2 ^ (M - 1) := Nat.pow_le_pow_right (by decide) (by omega)
    rcases k.2 with e | e
    · omega
    · have := h.1; omega
  · exact c
  · have : 2 ^ M ≤ 2 ^ (L - 1) := Nat.pow_le_pow_right (by decide) (by omega)
    rcases h.2 with e | e
    · omega
    · have := k.1; omega
theorem IsLen.shift {n L : Nat} (s : Nat) (h : IsLen (n / 2 ^ s) L) (hn : 2 ^ s ≤ n) : IsLen n (s + L) := by
  have hp : 0 < 2 ^ s := Nat.pow_pos (by decide)
  have h1 : 1 ≤ n / 2 ^ s := (Nat.le_div_iff_mul_le hp).2 (by omega)
  have hL : L ≠ 0 := fun e => by subst e; have := h.1; simp at this; omega
  refine ⟨?_, .inr ?_⟩
  · have := (Nat.div_lt_iff_lt_mul hp).1 h.1; rw [Nat.pow_add, Nat.mul_comm]; exact this
  · rcases h.2 with e | e
    · exact (hL e).elim
    · have := (Nat.le_div_iff_mul_le hp).1 e
      rw [show s + L - 1 = (L - 1) + s by omega, Nat.pow_add]; exact this
def bitTab : ByteArray := ⟨#[0, 1, 2, 2, 3, 3, 3, 3, 4, 4, 4, 4, 4, 4, 4, 4, 5, 5, 5, 5, 5, 5, 5, 5, 5, 5, 5, 5, 5, 5, 5, 5, 6, 6, 6, 6, 6, 6, 6, 6, 6, 6, 6, 6, 6, 6, 6, 6, 6, 6, 6, 6, 6, 6, 6, 6, 6, 6, 6, 6, 6, 6, 6, 6, 7, 7, 7, 7, 7, 7, 7, 7, 7, 7, 7, 7, 7, 7, 7, 7, 7, 7, 7, 7, 7, 7, 7, 7, 7, 7, 7, 7, 7, 7, 7, 7, 7, 7, 7, 7, 7, 7, 7, 7, 7, 7, 7, 7, 7, 7, 7, 7, 7, 7, 7, 7, 7, 7, 7, 7, 7, 7, 7, 7, 7, 7, 7, 7, 8, 8, 8, 8, 8, 8, 8, 8, 8, 8, 8, 8, 8, 8, 8, 8, 8, 8, 8, 8, 8, 8, 8, 8, 8, 8, 8, 8, 8, 8, 8, 8, 8, 8, 8, 8, 8, 8, 8, 8, 8, 8, 8, 8, 8, 8, 8, 8, 8, 8, 8, 8, 8, 8, 8, 8, 8, 8, 8, 8, 8, 8, 8, 8, 8, 8, 8, 8, 8, 8, 8, 8, 8, 8, 8, 8, 8, 8, 8, 8, 8, 8, 8, 8, 8, 8, 8, 8, 8, 8, 8, 8, 8, 8, 8, 8, 8, 8, 8, 8, 8, 8, 8, 8, 8, 8, 8, 8, 8, 8, 8, 8, 8, 8, 8, 8, 8, 8, 8, 8, 8, 8, 8, 8, 8, 8, 8, 8]⟩
theorem bitTab_size : bitTab.size = 256 := by decide +kernel
theorem bitTab_lt {k : Nat} (h : k < 256) : k < bitTab.size := by rw [bitTab_size]; exact h
theorem bitTab_is : ∀ k : Fin 256, IsLen k.1 (bitTab[k.1]'(bitTab_lt k.2)).toNat ∧ (bitTab[k.1]'(bitTab_lt k.2)).toNat ≤ 8 := by decide +kernel
theorem len_res {n m : Int} (c : Nat) (hn : 0 ≤ n) (hc : c ≤ 48) (hm : m = n / 2 ^ c) (h : (2 : Int) ^ c ≤ n ∨ c = 0) (hk : m.toNat < 256) : wrap64 (c + wrap64 ((bitTab[m.toNat]'(bitTab_lt hk)).toNat : Int)) = (lenN n.toNat : Int) := by
  have h1 := bitTab_is ⟨m.toNat, hk⟩
  simp only at h1
  have h2 : IsLen n.toNat (c + (bitTab[m.toNat]'(bitTab_lt hk)).toNat) := by
    rcases h with h | h
    · refine IsLen.shift c ?_ ?_
      · have : n.toNat / 2 ^ c = m.toNat := by
          rw [hm]
          obtain ⟨k, rfl⟩ : ∃ k : Nat, n = k := ⟨n.toNat, by omega⟩
          have : ((k : Int) / 2 ^ c) = ((k / 2 ^ c : Nat) : Int) := by simp
          rw [this]; simp only [Int.toNat_natCast]
        rw [this]; exact h1.1
      · obtain ⟨k, rfl⟩ : ∃ k : Nat, n = k := ⟨n.toNat, by omega⟩
        have : (2 ^ c : Int) = ((2 ^ c : Nat) : Int) := by simp
        rw [this] at h; simp; omega
    · subst h
      have : m = n := by rw [hm]; simp
      subst this; simpa using h1.1
  have h3 := h2.unique (lenN_is _)
  have e1 : wrap64 ((bitTab[m.toNat]'(bitTab_lt hk)).toNat : Int) = ((bitTab[m.toNat]'(bitTab_lt hk)).toNat : Int) := IntWalk.wrap64_in _ (by omega)
  rw [e1, IntWalk.wrap64_in _ (by omega)]
  omega
theorem len_res0 {n : Int} (hn : 0 ≤ n) (hk : n.toNat < 256) : wrap64 (wrap64 ((bitTab[n.toNat]'(bitTab_lt hk)).toNat : Int)) = (lenN n.toNat : Int) := by
  have := len_res (n := n) (m := n) 0 hn (by omega) (by simp) (.inr rfl) hk
  simpa using this

set_option maxRecDepth 100000 in
theorem len64_calls (w : World) (x : Since w) (n : Int) (h0 : 0 ≤ n) (h1 : n ≤ 1125899906842624) :
    Calls Tryd.prog 36 #[.int .u64 n] x.w fun e w' => e = .returned (.int .i64 (lenN n.toNat)) ∧ ∃ y : Since w, w' = y.w := by
  by_cases c1 : 4294967296 ≤ n
  · by_cases c2 : 65536 ≤ n / 4294967296
    · have c3 : n / 4294967296 / 65536 < 256 := by omega
      go_enter Tryd.func36, Tryd.ntmps36
      go_wp2_with fail
      go_ret
      exact ⟨ret_int (len_res 48 h0 (by omega) (by omega) (.inl (by omega)) (by omega)), _, rfl⟩
    · by_cases c3 : 256 ≤ n / 4294967296
      · skip
        go_enter Tryd.func36, Tryd.ntmps36
        go_wp2_with fail
        go_ret
        exact ⟨ret_int (len_res 40 h0 (by omega) (by omega) (.inl (by omega)) (by omega)), _, rfl⟩
      · skip
        go_enter Tryd.func36, Tryd.ntmps36
        go_wp2_with fail
        go_ret
        exact ⟨ret_int (len_res 32 h0 (by omega) (by omega) (.inl (by omega)) (by omega)), _, rfl⟩
  · by_cases c2 : 65536 ≤ n
    · by_cases c3 : 256 ≤ n / 65536
      · skip
        go_enter Tryd.func36, Tryd.ntmps36
        go_wp2_with fail
        go_ret
        exact ⟨ret_int (len_res 24 h0 (by omega) (by omega) (.inl (by omega)) (by omega)), _, rfl⟩
      · skip
        go_enter Tryd.func36, Tryd.ntmps36
        go_wp2_with fail
        go_ret
        exact ⟨ret_int (len_res 16 h0 (by omega) (by omega) (.inl (by omega)) (by omega)), _, rfl⟩
    · by_cases c3 : 256 ≤ n
      · skip
        go_enter Tryd.func36, Tryd.ntmps36
        go_wp2_with fail
        go_ret
        exact ⟨ret_int (len_res 8 h0 (by omega) (by omega) (.inl (by omega)) (by omega)), _, rfl⟩
      · skip
        go_enter Tryd.func36, Tryd.ntmps36
        go_wp2_with fail
        go_ret
        exact ⟨ret_int (len_res0 h0 (by omega)), _, rfl⟩
end Go.Proofs.YtmobdlddfoaocaaDoor
