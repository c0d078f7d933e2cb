/- The plain mathematics of Add: which words are used, what comes out. -/
import Derived.Test.YtmobdlddfoaocaaDoorNzW11
namespace Go.Proofs.YtmobdlddfoaocaaDoor

theorem at0_drop (l : List Int) (u i : Nat) : at0 (l.drop u) i = at0 l (u + i) := by
  unfold at0; simp [List.getD_eq_getElem?_getD, List.getElem?_drop]
/-- how many words k numbers use -/
def us (t : Int) (ws : List Int) : Nat → Nat
  | 0 => 0
  | k + 1 => us t ws k + (bI (ws.drop (us t ws k)) t + 1)
def okw (t : Int) (ws : List Int) (k : Nat) : Prop := bE (ws.drop (us t ws k)) t = 0
noncomputable def outv (l xs ws : List Int) (k : Nat) : Int := at0 xs k + atV l (bV (ws.drop (us (total l) ws k)) (total l))
noncomputable def outL (l xs ws : List Int) (n : Nat) : List Int := (List.range n).map (outv l xs ws)
theorem outL_length (l xs ws : List Int) (n : Nat) : (outL l xs ws n).length = n := by simp [outL]
theorem outL_at {l xs ws : List Int} {n i : Nat} (h : i < n) : at0 (outL l xs ws n) i = outv l xs ws i := by
  unfold at0 outL; rw [List.getD_eq_getElem?_getD]; simp [List.getElem?_range h]
theorem outL_succ (l xs ws : List Int) (n : Nat) : outL l xs ws (n + 1) = outL l xs ws n ++ [outv l xs ws n] := by simp [outL, List.range_succ]
def InR (xs : List Int) : Prop := ∀ i, i < xs.length → -1000000 ≤ at0 xs i ∧ at0 xs i ≤ 1000000
noncomputable def addE (l xs ws : List Int) : Int := open Classical in
  if ¬ Good l then 32 else if 512 < xs.length then 8 else if ¬ InR xs then 1 else if ∀ k, k < xs.length → okw (total l) ws k then 0 else 4
theorem addE_bad {l : List Int} (h : ¬ Good l) (xs ws : List Int) : addE l xs ws = 32 := by unfold addE; simp [h]
theorem addE_full {l xs : List Int} (h : Good l) (h2 : 512 < xs.length) (ws : List Int) : addE l xs ws = 8 := by unfold addE; simp [h, h2]
theorem addE_range {l xs : List Int} (h : Good l) (h2 : ¬ 512 < xs.length) (h3 : ¬ InR xs) (ws : List Int) : addE l xs ws = 1 := by unfold addE; simp [h, h2, h3]
theorem addE_short {l xs ws : List Int} (h : Good l) (h2 : ¬ 512 < xs.length) (h3 : InR xs) {k : Nat} (hk : k < xs.length) (h4 : ¬ okw (total l) ws k) : addE l xs ws = 4 := by
  have : ¬ ∀ k, k < xs.length → okw (total l) ws k := fun h => h4 (h k hk)
  unfold addE; simp only [h, h2, h3, this]; simp
theorem addE_ok {l xs ws : List Int} (h : Good l) (h2 : ¬ 512 < xs.length) (h3 : InR xs) (h4 : ∀ k, k < xs.length → okw (total l) ws k) : addE l xs ws = 0 := by
  unfold addE; simp only [h, h2, h3]; simp; exact h4
theorem addE_zero {l xs ws : List Int} (h : addE l xs ws = 0) : Good l ∧ ¬ 512 < xs.length ∧ InR xs ∧ ∀ k, k < xs.length → okw (total l) ws k := by
  by_cases h1 : Good l
  · by_cases h2 : 512 < xs.length
    · rw [addE_full h1 h2] at h; omega
    · by_cases h3 : InR xs
      · refine ⟨h1, h2, h3, fun k hk => ?_⟩
        by_cases h4 : okw (total l) ws k
        · exact h4
        · rw [addE_short h1 h2 h3 hk h4] at h; omega
      · rw [addE_range h1 h2 h3] at h; omega
  · rw [addE_bad h1] at h; omega
theorem bE_zero {ws : List Int} {n : Int} (h : bE ws n = 0) : 1 ≤ n ∧ n ≤ 1125899906842624 ∧ bI ws n < ws.length := by
  unfold bE at h
  split at h
  · rename_i h1; split at h
    · rename_i h2; exact ⟨h1.1, h1.2, h2⟩
    · omega
  · omega
theorem firstN_hit (q : Nat → Bool) (n : Nat) (h : firstN q n < n) : q (firstN q n) = true := by
  induction n with
  | zero => omega
  | succ n ih =>
    unfold firstN at h ⊢
    split
    · rename_i h1; exact ih h1
    · rename_i h1; rw [if_neg h1] at h; split at h
      · rename_i h2; rw [if_pos h2]; exact h2
      · omega
theorem firstN_miss (q : Nat → Bool) (n : Nat) : ∀ i, i < firstN q n → q i = false := by
  induction n with
  | zero => intro i hi; simp [firstN] at hi
  | succ n ih =>
    intro i hi
    unfold firstN at hi
    have hle := firstN_le q n
    by_cases h1 : firstN q n < n
    · rw [if_pos h1] at hi; exact ih i hi
    · have h2 : firstN q n = n := by omega
      rw [if_neg h1] at hi
      by_cases hq : q n = true
      · rw [if_pos hq] at hi; exact ih i (by omega)
      · rw [if_neg hq] at hi
        by_cases hin : i = n
        · subst hin; simpa using hq
        · exact ih i (by omega)
theorem bV_bd {ws : List Int} {n : Int} (hw : ∀ i, 0 ≤ at0 ws i ∧ at0 ws i < 18446744073709551616) (h : bE ws n = 0) : 0 ≤ bV ws n ∧ bV ws n < n := by
  obtain ⟨h0, h1, h2⟩ := bE_zero h
  have hq := firstN_hit _ _ h2
  simp only [decide_eq_true_eq] at hq
  unfold bV; rw [if_pos h]
  exact ⟨(pw_mod_bd (hw _).1 h0 h1).1, hq⟩
theorem us_le {t : Int} {ws : List Int} {n : Nat} (h : ∀ k, k < n → okw t ws k) : us t ws n ≤ ws.length := by
  induction n with
  | zero => simp [us]
  | succ n ih =>
    have h1 := ih (fun k hk => h k (by omega))
    have h2 := (bE_zero (h n (by omega))).2.2
    rw [List.length_drop] at h2
    unfold us; omega
theorem us_mono {t : Int} {ws : List Int} (n : Nat) : n ≤ us t ws n := by
  induction n with
  | zero => simp [us]
  | succ n ih => unfold us; omega
theorem us_add {t : Int} {ws : List Int} (n m : Nat) : us t ws n ≤ us t ws (n + m) := by
  induction m with
  | zero => exact Nat.le_refl _
  | succ m ih => have : us t ws (n + m + 1) = us t ws (n + m) + (bI (ws.drop (us t ws (n + m))) t + 1) := rfl; rw [← Nat.add_assoc]; omega
theorem bU_eq {ws : List Int} {n : Int} (h : bE ws n = 0) : bU ws n = (bI ws n : Int) + 1 := by unfold bU; rw [if_pos h]
end Go.Proofs.YtmobdlddfoaocaaDoor
