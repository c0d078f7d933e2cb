/- The walks of noise, tenth part: Power, Below. -/
import Derived.Test.YtmobdlddfoaocaaDoorNzW9
namespace Go.Proofs.YtmobdlddfoaocaaDoor
open Go.RowKit

theorem lenN_bd {n : Nat} (h : n < 1125899906842624) : lenN n ≤ 50 := by
  have h1 := lenN_is n
  rcases h1.2 with e | e
  · omega
  · rcases Nat.lt_or_ge 50 (lenN n) with c | c
    · have : 2 ^ 50 ≤ 2 ^ (lenN n - 1) := Nat.pow_le_pow_right (by decide) (by omega)
      omega
    · exact c
/-- the least power of 2 that is not less than n -/
def pw (n : Int) : Int := ((2 ^ lenN (n - 1).toNat : Nat) : Int)
theorem pow_bd {k : Nat} (h : k ≤ 50) : 1 ≤ 2 ^ k ∧ 2 ^ k ≤ 1125899906842624 := ⟨Nat.pow_pos (by decide), by
  have : 2 ^ k ≤ 2 ^ 50 := Nat.pow_le_pow_right (by decide) h
  omega⟩

set_option maxHeartbeats 1000000 in
theorem power_calls (w : World) (x : Since w) (n : Int) (h0 : 1 ≤ n) (h1 : n ≤ 1125899906842624) :
    Calls Tryd.prog 37 #[.int .i64 n] x.w fun e w' => e = .returned (.int .i64 (pw n)) ∧ ∃ y : Since w, w' = y.w := by
  go_enter Tryd.func37, Tryd.ntmps37
  go_wp2_with fail
  go_loop [3] (fun p => ∃ k : Nat, k ≤ 50 ∧ p = .int .i64 ((2 ^ k : Nat) : Int) ∧ (k = 0 ∨ 2 ^ (k - 1) < n.toNat)) (fun p => (n - intOf p).toNat)
  case atStart => exact ⟨0, by omega, rfl, .inl rfl⟩
  case round =>
    obtain ⟨k, hk, rfl, hk2⟩ := hrel
    have hp := pow_bd hk
    have Hk := Lib.hid hk2; clear hk2
    have hpw := Lib.hid (show (2 ^ (k + 1) : Nat) = 2 * 2 ^ k by rw [Nat.pow_succ, Nat.mul_comm])
    by_cases hlt : ((2 ^ k : Nat) : Int) < n
    · have hk50 : k < 50 := by
        rcases Nat.lt_or_ge k 50 with c | c
        · exact c
        · obtain rfl : k = 50 := by omega
          omega
      generalize hP : (2 ^ k : Nat) = p at *
      have HP := Lib.hid hP; clear hP
      go_wp2_with fail
      go_round
      case rel => exact ⟨k + 1, by omega, by rw [hpw.out]; go_num, .inr (by simp only [Nat.add_sub_cancel]; rw [HP.out]; omega)⟩
      case measure => simp [intOf]; omega
    · have hres := Lib.hid (show pw n = ((2 ^ k : Nat) : Int) from by
        unfold pw
        congr 2
        exact ((lenN_is _).unique ⟨by omega, by rcases Hk.out with h | h; exact .inl h; exact .inr (by omega)⟩))
      generalize (2 ^ k : Nat) = p at *
      go_wp2_with fail
      go_ret
      exact ⟨ret_int hres.out.symm, _, rfl⟩

/-- the first of n numbers that q says yes to; n if there is none -/
def firstN (q : Nat → Bool) : Nat → Nat
  | 0 => 0
  | n + 1 => if firstN q n < n then firstN q n else if q n then n else n + 1
theorem firstN_le (q : Nat → Bool) (n : Nat) : firstN q n ≤ n := by
  induction n with
  | zero => exact Nat.le_refl _
  | succ n ih => unfold firstN; split <;> (try split) <;> omega
theorem firstN_no (q : Nat → Bool) (n : Nat) (h : ∀ i, i < n → q i = false) : firstN q n = n := by
  induction n with
  | zero => rfl
  | succ n ih =>
    have h1 := ih (fun i hi => h i (by omega))
    have h2 := h n (by omega)
    unfold firstN; rw [h1, if_neg (by omega), h2]; simp
theorem firstN_yes (q : Nat → Bool) (n k : Nat) (hk : k < n) (h : ∀ i, i < k → q i = false) (hq : q k = true) : firstN q n = k := by
  induction n with
  | zero => omega
  | succ n ih =>
    by_cases hkn : k < n
    · have h1 := ih hkn
      unfold firstN; rw [h1, if_pos hkn]
    · obtain rfl : k = n := by omega
      unfold firstN; rw [firstN_no q k h, if_neg (by omega), hq]; simp
/-- what Below gives back: the place of the word that is taken -/
def bI (ws : List Int) (n : Int) : Nat := firstN (fun i => decide (at0 ws i % pw n < n)) ws.length
def bE (ws : List Int) (n : Int) : Int := if 1 ≤ n ∧ n ≤ 1125899906842624 then (if bI ws n < ws.length then 0 else 4) else 1
def bV (ws : List Int) (n : Int) : Int := if bE ws n = 0 then at0 ws (bI ws n) % pw n else 0
def bU (ws : List Int) (n : Int) : Int := if bE ws n = 0 then (bI ws n : Int) + 1 else 0

theorem pw_bd {n : Int} (h0 : 1 ≤ n) (h1 : n ≤ 1125899906842624) : 1 ≤ pw n ∧ pw n ≤ 1125899906842624 := by
  have hL := lenN_bd (n := (n - 1).toNat) (by omega)
  have := pow_bd hL
  unfold pw; omega
theorem wrap_u64 {z : Int} (h1 : 0 ≤ z) (h2 : z < 18446744073709551616) : IntKind.u64.wrap z = z := by
  unfold IntKind.wrap IntKind.signed IntKind.bits
  simp only [Bool.false_and]
  show z % 18446744073709551616 = z
  exact Int.emod_eq_of_lt h1 h2
theorem and_pw {x n : Int} (hx : 0 ≤ x ∧ x < 18446744073709551616) (h0 : 1 ≤ n) (h1 : n ≤ 1125899906842624) : bits .and .u64 x (pw n - 1) = x % pw n := by
  have hL := lenN_bd (n := (n - 1).toNat) (by omega)
  unfold pw
  generalize lenN (n - 1).toNat = L at *
  have hp := pow_bd hL
  obtain ⟨k, rfl⟩ : ∃ k : Nat, x = k := ⟨x.toNat, by omega⟩
  have e1 : (BitVec.ofInt 64 (k : Int) &&& BitVec.ofInt 64 (((2 ^ L : Nat) : Int) - 1)).toNat = k % 2 ^ L := by
    have h1 : (BitVec.ofInt 64 (k : Int)).toNat = k := by
      rw [BitVec.toNat_ofInt]; omega
    have h2 : (BitVec.ofInt 64 (((2 ^ L : Nat) : Int) - 1)).toNat = 2 ^ L - 1 := by
      rw [BitVec.toNat_ofInt]; omega
    rw [BitVec.toNat_and, h1, h2, Nat.and_two_pow_sub_one_eq_mod]
  show IntKind.u64.wrap (((BitVec.ofInt 64 (k : Int) &&& BitVec.ofInt 64 (((2 ^ L : Nat) : Int) - 1)).toNat : Nat) : Int) = _
  rw [e1]
  have hlt : k % 2 ^ L < 2 ^ L := Nat.mod_lt _ (by omega)
  rw [wrap_u64 (by omega) (by omega)]
  simp
theorem pw_mod_bd {x n : Int} (hx : 0 ≤ x) (h0 : 1 ≤ n) (h1 : n ≤ 1125899906842624) : 0 ≤ x % pw n ∧ x % pw n < 1125899906842624 := by
  have := pw_bd h0 h1
  exact ⟨Int.emod_nonneg _ (by omega), by have := Int.emod_lt_of_pos x (show 0 < pw n by omega); omega⟩
theorem mask_eq {L : Nat} (h : L ≤ 50) : IntKind.u64.wrap (IntKind.u64.wrap (2 ^ L) - 1) = ((2 ^ L : Nat) : Int) - 1 := by
  have hp := pow_bd h
  have e : (2 : Int) ^ L = ((2 ^ L : Nat) : Int) := by simp
  rw [e]
  generalize (2 ^ L : Nat) = p at *
  rw [wrap_u64 (z := p) (by omega) (by omega), wrap_u64 (by omega) (by omega)]
theorem b_yes {ws : List Int} {n : Int} {k : Nat} (h0 : 1 ≤ n) (h1 : n ≤ 1125899906842624) (hk : k < ws.length) (hno : ∀ i, i < k → decide (at0 ws i % pw n < n) = false) (hc : at0 ws k % pw n < n) :
    at0 ws k % pw n = bV ws n ∧ (k : Int) + 1 = bU ws n ∧ 0 = bE ws n := by
  have hb : bI ws n = k := firstN_yes _ _ _ hk hno (decide_eq_true hc)
  have he : bE ws n = 0 := by unfold bE; rw [if_pos ⟨h0, h1⟩, hb, if_pos hk]
  exact ⟨by unfold bV; rw [if_pos he, hb], by unfold bU; rw [if_pos he, hb], he.symm⟩
theorem b_no {ws : List Int} {n : Int} (h0 : 1 ≤ n) (h1 : n ≤ 1125899906842624) (hno : ∀ i, i < ws.length → decide (at0 ws i % pw n < n) = false) : 0 = bV ws n ∧ 0 = bU ws n ∧ 4 = bE ws n := by
  have hb : bI ws n = ws.length := firstN_no _ _ hno
  have he : bE ws n = 4 := by unfold bE; rw [if_pos ⟨h0, h1⟩, hb, if_neg (by omega)]
  exact ⟨by unfold bV; rw [if_neg (by omega)], by unfold bU; rw [if_neg (by omega)], he.symm⟩
theorem b_out {ws : List Int} {n : Int} (h : ¬ (1 ≤ n ∧ n ≤ 1125899906842624)) : 0 = bV ws n ∧ 0 = bU ws n ∧ 1 = bE ws n := by
  have he : bE ws n = 1 := by unfold bE; rw [if_neg h]
  exact ⟨by unfold bV; rw [if_neg (by omega)], by unfold bU; rw [if_neg (by omega)], he.symm⟩
theorem ret_three {k j i : IntKind} {a b c a' b' c' : Int} (h : a = a') (h' : b = b') (h'' : c = c') : Ending.returned (.tuple #[.int k a, .int j b, .int i c]) = .returned (.tuple #[.int k a', .int j b', .int i c']) := by rw [h, h', h'']
def BelowJ (w : World) (a : Option Addr) (ws : List Int) (cap : Nat) (n : Int) (a' : Act) (w' : World) : Prop :=
  (∃ y : Since w, w' = y.w) ∧ ∃ (k : Nat) (u2 u3 u9 u10 u11 u12 u13 u14 u15 u16 u17 u18 u19 u20 u21 u22 u23 u24 u25 u26 u27 u28 u29 u30 u31 u32 u33 u34 u35 u36 u37 u38 u39 u40 : Value), a' = { tmps := #[.slice a ws.length cap, .int .i64 n, u2, u3, .int .i64 0, .int .i64 0, .int .i64 0, .int .u64 (pw n - 1), .int .i64 (k : Int), u9, u10, u11, u12, u13, u14, u15, u16, u17, u18, u19, u20, u21, u22, u23, u24, u25, u26, u27, u28, u29, u30, u31, u32, u33, u34, u35, u36, u37, u38, u39, u40], defers := [] } ∧ k ≤ ws.length ∧ ∀ i, i < k → decide (at0 ws i % pw n < n) = false

set_option maxHeartbeats 1000000 in
theorem below_calls (w : World) (x : Since w) (a : Option Addr) (ws : List Int) (cap : Nat) (n : Int) (hlen : ws.length ≤ 9223372036854775807) (hr : Row w a ws.length fun i => .int .u64 (at0 ws i)) (hw : ∀ i, 0 ≤ at0 ws i ∧ at0 ws i < 18446744073709551616) :
    Calls Tryd.prog 34 #[.slice a ws.length cap, .int .i64 n] x.w fun e w' => e = .returned (.tuple #[.int .i64 (bV ws n), .int .i64 (bU ws n), .int .i64 (bE ws n)]) ∧ ∃ y : Since w, w' = y.w := by
  by_cases hn : 1 ≤ n ∧ n ≤ 1125899906842624
  · obtain ⟨n0, n1⟩ := hn
    have hL := lenN_bd (n := (n - 1).toNat) (by omega)
    have hpb := pw_bd n0 n1
    go_enter Tryd.func34, Tryd.ntmps34
    go_wp2_with fail
    refine wp_scope_jumps 0 (BelowJ w a ws cap n) (fun a' _ => ws.length - (intOf (a'.tmps.getD 8 undef)).toNat) rfl ?_ ?_
    · go_wp2_with fail
      refine (len64_calls w x (n - 1) (by omega) (by omega)).mono ?_
      rintro _ _ ⟨rfl, y, rfl⟩
      have hmask := mask_eq hL
      rw [show ((2 ^ lenN (n - 1).toNat : Nat) : Int) = pw n from rfl] at hmask
      generalize lenN (n - 1).toNat = L at *
      go_wp2_with fail
      go_step3
      by_cases hlt : 0 < ws.length
      · obtain ⟨b, off, rfl, _, _⟩ := hr 0 hlt
        have hcell : ∀ y : Since w, y.w.cell? ⟨b, off, none⟩ = some (.int .u64 (at0 ws 0)) := fun y => by simpa using Since.at hr 0 hlt y
        have hand := and_pw (hw 0) n0 n1
        have hmb := pw_mod_bd (hw 0).1 n0 n1
        have hkl : ((0 : Int) == (ws.length : Int)) = false := by simp; omega
        clear hr hw
        by_cases hc : at0 ws 0 % pw n < n
        · have hres := Lib.hid (b_yes n0 n1 hlt (fun i hi => by omega) hc)
          generalize at0 ws 0 % pw n = M at *
          go_wp2_with fail
          simp only [Exit.jump]
          go_ret3
          exact ⟨ret_three hres.out.1 (by have := hres.out.2.1; simpa using this) hres.out.2.2, _, rfl⟩
        · have hno : ∀ i, i < 1 → decide (at0 ws i % pw n < n) = false := fun i hi => by
            obtain rfl : i = 0 := by omega
            exact decide_eq_false hc
          have Hno2 := Lib.hid hno; clear hno
          have hge : n ≤ at0 ws 0 % pw n := by omega
          clear hc
          generalize at0 ws 0 % pw n = M at *
          go_wp2_with fail
          go_step3
          exact ⟨rfl, ⟨_, rfl⟩, 1, _, _, _, _, _, _, _, _, _, _, _, _, _, _, _, _, _, _, _, _, _, _, _, _, _, _, _, _, _, _, _, _, _, _, rfl, by omega, Hno2.out⟩
      · have hkl : ((0 : Int) == (ws.length : Int)) = true := by simp; omega
        have hres := Lib.hid (b_no (ws := ws) n0 n1 (fun i hi => by omega))
        clear hr hw
        go_wp2_with fail
        simp only [Exit.jump]
        go_ret3
        exact ⟨ret_three hres.out.1 hres.out.2.1 hres.out.2.2, _, rfl⟩
    · rintro a' w' ⟨⟨y, rfl⟩, k, u2, u3, u9, u10, u11, u12, u13, u14, u15, u16, u17, u18, u19, u20, u21, u22, u23, u24, u25, u26, u27, u28, u29, u30, u31, u32, u33, u34, u35, u36, u37, u38, u39, u40, rfl, hk, hno⟩
      have Hno := Lib.hid hno; clear hno
      by_cases hlt : k < ws.length
      · obtain ⟨b, off, rfl, _, _⟩ := hr k hlt
        have hcell : ∀ y : Since w, y.w.cell? ⟨b, off + k, none⟩ = some (.int .u64 (at0 ws k)) := Since.at hr k hlt
        have hand := and_pw (hw k) n0 n1
        have hmb := pw_mod_bd (hw k).1 n0 n1
        have hkl : ((k : Int) == (ws.length : Int)) = false := by simp; omega
        clear hr hw
        by_cases hc : at0 ws k % pw n < n
        · have hres := Lib.hid (b_yes n0 n1 hlt Hno.out hc)
          generalize at0 ws k % pw n = M at *
          go_wp2_with fail
          simp only [Exit.jump]
          go_ret3
          exact ⟨ret_three hres.out.1 hres.out.2.1 hres.out.2.2, _, rfl⟩
        · have hno : ∀ i, i < k + 1 → decide (at0 ws i % pw n < n) = false := fun i hi => by
            by_cases hik : i < k
            · exact Hno.out i hik
            · obtain rfl : i = k := by omega
              exact decide_eq_false hc
          have Hno2 := Lib.hid hno; clear hno
          have hge : n ≤ at0 ws k % pw n := by omega
          clear hc
          generalize at0 ws k % pw n = M at *
          go_wp2_with fail
          go_step3
          exact ⟨rfl, ⟨⟨_, rfl⟩, k + 1, _, _, _, _, _, _, _, _, _, _, _, _, _, _, _, _, _, _, _, _, _, _, _, _, _, _, _, _, _, _, _, _, _, _, rfl, by omega, Hno2.out⟩, by simp [intOf]; omega⟩
      · obtain rfl : k = ws.length := by omega
        have hres := Lib.hid (b_no n0 n1 Hno.out)
        clear hr hw
        go_wp2_with fail
        simp only [Exit.jump]
        go_ret3
        exact ⟨ret_three hres.out.1 hres.out.2.1 hres.out.2.2, _, rfl⟩
  · have hres := Lib.hid (b_out (ws := ws) hn)
    rcases (by omega : n < 1 ∨ (1 ≤ n ∧ 1125899906842624 < n)) with h | ⟨h, h'⟩
    all_goals
      clear hn
      go_enter Tryd.func34, Tryd.ntmps34
      go_wp2_with fail
      go_step3
      go_wp2_with fail
      rw [Exit.noGoto_ret]
      go_ret3
      exact ⟨ret_three hres.out.1 hres.out.2.1 hres.out.2.2, _, rfl⟩
end Go.Proofs.YtmobdlddfoaocaaDoor
