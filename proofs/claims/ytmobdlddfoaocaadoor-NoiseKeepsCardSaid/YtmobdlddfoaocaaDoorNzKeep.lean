/- The plain mathematics of NoiseKeeps: further words change nothing; a beginning of the list has a beginning of the results. -/
import Derived.Test.YtmobdlddfoaocaaDoorNzL3
namespace Go.Proofs.YtmobdlddfoaocaaDoor

theorem at0_take {l : List Int} {K i : Nat} (h : i < K) : at0 (l.take K) i = at0 l i := by
  unfold at0; simp [List.getD_eq_getElem?_getD, List.getElem?_take, h]
theorem b_agree {D D' : List Int} {t : Int} (h : bE D t = 0) (hl : bI D t < D'.length) (ha : ∀ i, i ≤ bI D t → at0 D' i = at0 D i) : bI D' t = bI D t ∧ bE D' t = 0 ∧ bV D' t = bV D t := by
  obtain ⟨h0, h1, h2⟩ := bE_zero h
  have hit : decide (at0 D (bI D t) % pw t < t) = true := firstN_hit _ _ h2
  have miss : ∀ i, i < bI D t → decide (at0 D i % pw t < t) = false := firstN_miss _ _
  have hI : bI D' t = bI D t := firstN_yes _ _ _ hl (fun i hi => by rw [ha i (by omega)]; exact miss i hi) (by rw [ha _ (Nat.le_refl _)]; exact hit)
  have hE : bE D' t = 0 := by unfold bE; rw [if_pos ⟨h0, h1⟩, hI, if_pos hl]
  refine ⟨hI, hE, ?_⟩
  unfold bV; rw [if_pos hE, if_pos h, hI, ha _ (Nat.le_refl _)]
theorem us_le_of {t : Int} {ws : List Int} {j N : Nat} (h : j ≤ N) : us t ws j ≤ us t ws N := by
  obtain ⟨k, rfl⟩ : ∃ k, N = j + k := ⟨N - j, by omega⟩
  exact us_add j k
theorem keep_step {t : Int} {ws : List Int} {N j : Nat} (hok : ∀ k, k < N → okw t ws k) (hj : j < N) (hu : us t (ws.take (us t ws N)) j = us t ws j) :
    okw t (ws.take (us t ws N)) j ∧ us t (ws.take (us t ws N)) (j + 1) = us t ws (j + 1) ∧ bV ((ws.take (us t ws N)).drop (us t (ws.take (us t ws N)) j)) t = bV (ws.drop (us t ws j)) t := by
  have hK := us_le hok
  have hs : us t ws (j + 1) = us t ws j + (bI (ws.drop (us t ws j)) t + 1) := rfl
  have hs1 := us_le_of (t := t) (ws := ws) (j := j + 1) (N := N) (by omega)
  generalize us t ws N = K at *
  have hag := b_agree (D := ws.drop (us t ws j)) (D' := (ws.take K).drop (us t ws j)) (t := t) (hok j hj) (by rw [List.length_drop, List.length_take]; omega) (fun i hi => by rw [at0_drop, at0_drop, at0_take (by omega)])
  refine ⟨?_, ?_, ?_⟩
  · unfold okw; rw [hu]; exact hag.2.1
  · show us t (ws.take K) j + (bI ((ws.take K).drop (us t (ws.take K) j)) t + 1) = _
    rw [hu, hag.1, hs]
  · rw [hu]; exact hag.2.2
theorem keep_us {t : Int} {ws : List Int} {N : Nat} (hok : ∀ k, k < N → okw t ws k) : ∀ j, j ≤ N → us t (ws.take (us t ws N)) j = us t ws j
  | 0, _ => rfl
  | j + 1, hj => (keep_step hok (by omega) (keep_us hok j (by omega))).2.1
theorem keep_addE {l xs ws : List Int} (h : addE l xs ws = 0) : addE l xs (ws.take (us (total l) ws xs.length)) = 0 := by
  obtain ⟨h1, h2, h3, h4⟩ := addE_zero h
  exact addE_ok h1 h2 h3 fun k hk => (keep_step h4 hk (keep_us h4 k (by omega))).1
theorem keep_outL {l xs ws : List Int} (h : addE l xs ws = 0) : outL l xs (ws.take (us (total l) ws xs.length)) xs.length = outL l xs ws xs.length := by
  obtain ⟨h1, h2, h3, h4⟩ := addE_zero h
  refine at0_ext (by rw [outL_length, outL_length]) fun i hi => ?_
  rw [outL_length] at hi
  rw [outL_at hi, outL_at hi]
  unfold outv
  rw [(keep_step h4 hi (keep_us h4 i (by omega))).2.2]
theorem keep_len {l xs ws : List Int} (h : addE l xs ws = 0) : us (total l) (ws.take (us (total l) ws xs.length)) xs.length = us (total l) ws xs.length :=
  keep_us (addE_zero h).2.2.2 _ (Nat.le_refl _)
theorem head_addE {l xs ws : List Int} (h : addE l xs ws = 0) (m : Nat) : addE l (xs.take m) ws = 0 := by
  obtain ⟨h1, h2, h3, h4⟩ := addE_zero h
  have hl : (xs.take m).length ≤ xs.length := by rw [List.length_take]; omega
  refine addE_ok h1 (by omega) (fun i hi => ?_) fun k hk => h4 k (by omega)
  rw [List.length_take] at hi
  rw [at0_take (by omega)]
  exact h3 i (by omega)
theorem head_outL {l xs ws : List Int} {m : Nat} (hm : m ≤ xs.length) : outL l (xs.take m) ws m = (outL l xs ws xs.length).take m := by
  refine at0_ext (by rw [outL_length, List.length_take, outL_length]; omega) fun i hi => ?_
  rw [outL_length] at hi
  rw [outL_at hi, at0_take hi, outL_at (by omega)]
  unfold outv
  rw [at0_take hi]
theorem keep_weight {l xs ws : List Int} (hw : ∀ i, 0 ≤ at0 ws i ∧ at0 ws i < 18446744073709551616) (h : addE l xs ws = 0) {i : Nat} (hi : i < xs.length) : 1 ≤ weight l (at0 (outL l xs ws xs.length) i - at0 xs i) ∧ -32 ≤ at0 (outL l xs ws xs.length) i - at0 xs i ∧ at0 (outL l xs ws xs.length) i - at0 xs i ≤ 32 := by
  obtain ⟨h1, h2, h3, h4⟩ := addE_zero h
  rw [outL_at hi]
  unfold outv
  have e : at0 xs i + atV l (bV (ws.drop (us (total l) ws i)) (total l)) - at0 xs i = atV l (bV (ws.drop (us (total l) ws i)) (total l)) := by omega
  rw [e, weight_good h1]
  have hV := bV_bd (ws := ws.drop (us (total l) ws i)) (fun k => by rw [at0_drop]; exact hw _) (h4 i hi)
  have hat := atV_at h1 hV.1 hV.2
  exact ⟨hat.weight, hat.bd⟩
end Go.Proofs.YtmobdlddfoaocaaDoor
