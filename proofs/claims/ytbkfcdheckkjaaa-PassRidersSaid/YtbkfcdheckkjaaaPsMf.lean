/- The passes and rides of one rider: plain mathematics for the law PassRiders: no program in sight. -/
import Derived.Test.YtbkfcdheckkjaaaPsMe
set_option linter.all false
namespace Go.Proofs.Ytbkfcdheckkjaaa
open Go.RowKit

theorem firstP_congr' {lp : List Pass} {r : Ride} {c d : Int → Nat} (h : ∀ k : Nat, k < lp.length → vP (pAt lp k) r = true → c (k : Int) = d (k : Int)) : firstP lp r c = firstP lp r d := by
  have he : ∀ k : Nat, k < lp.length → (vP (pAt lp k) r && decide ((c (k : Int) : Int) < (pAt lp k).n)) = (vP (pAt lp k) r && decide ((d (k : Int) : Int) < (pAt lp k).n)) := fun k hk => by
    cases hv : vP (pAt lp k) r
    · rfl
    · rw [h k hk hv]
  rcases firstP_cases lp r d with ⟨k, hk, e, hy, hn⟩ | ⟨e, hn⟩
  · rw [e]; exact firstP_yes hk (by rw [he k hk]; exact hy) (fun j hj => by rw [he j (by omega)]; exact hn j hj)
  · rw [e]; exact firstP_no fun j hj => by rw [he j hj]; exact hn j hj
/-- the numbers below n that p holds of -/
def idxs (p : Nat → Bool) (n : Nat) : List Nat := (List.range n).filter p
theorem idxs_mem {p : Nat → Bool} {n j : Nat} : j ∈ idxs p n ↔ j < n ∧ p j = true := by simp [idxs, List.mem_filter]
theorem idxs_nodup (p : Nat → Bool) (n : Nat) : (idxs p n).Nodup := List.nodup_range.filter _
theorem idxs_lt (p : Nat → Bool) (n : Nat) : (idxs p n).Pairwise (· < ·) := List.pairwise_lt_range.filter _
theorem idxs_succ (p : Nat → Bool) (n : Nat) : idxs p (n + 1) = idxs p n ++ if p n then [n] else [] := by
  unfold idxs
  rw [List.range_succ, List.filter_append]
  congr 1
  cases h : p n <;> simp [h]
theorem idxs_pos {p : Nat → Bool} {k : Nat} (hp : p k = true) : ∀ n, k < n → (idxs p k).length < (idxs p n).length ∧ (idxs p n).getD (idxs p k).length 0 = k
  | 0, h => by omega
  | n + 1, h => by
    rw [idxs_succ]
    by_cases hk : k < n
    · obtain ⟨h1, h2⟩ := idxs_pos hp n hk
      refine ⟨by rw [List.length_append]; omega, ?_⟩
      rw [List.getD_eq_getElem?_getD] at h2 ⊢
      rw [List.getElem?_append_left h1]; exact h2
    · obtain rfl : k = n := by omega
      rw [hp, if_pos rfl]
      refine ⟨by simp, ?_⟩
      rw [List.getD_eq_getElem?_getD, List.getElem?_append_right (Nat.le_refl _), Nat.sub_self]; rfl
theorem filter_idxs {α : Type} {f : Nat → α} {l : List α} (hl : l = (List.range l.length).map f) (q : α → Bool) : l.filter q = (idxs (fun j => q (f j)) l.length).map f := by
  unfold idxs
  conv => lhs; rw [hl]
  rw [List.filter_map]; rfl
theorem rides_map (R : List Ride) : R = (List.range R.length).map (rAt R) := by
  refine List.ext_getElem (by simp) fun i h1 h2 => ?_
  simp [rAt, List.getD_eq_getElem?_getD, h1]
theorem passes_map (R : List Pass) : R = (List.range R.length).map (pAt R) := by
  refine List.ext_getElem (by simp) fun i h1 h2 => ?_
  simp [pAt, List.getD_eq_getElem?_getD, h1]
theorem len_filter_idx (q : Nat → Bool) (I : List Nat) : (I.filter q).length = ((List.range I.length).filter fun n => q (I.getD n 0)).length := by
  have hI : I = (List.range I.length).map (fun n => I.getD n 0) := by
    refine List.ext_getElem (by simp) fun i h1 h2 => ?_
    simp [List.getD_eq_getElem?_getD, h1]
  conv => lhs; rw [hI]
  rw [List.filter_map, List.length_map]; rfl
section
variable {lp : List Pass} {R : List Ride} {rd : Int}
/-- the numbers of the rider's passes, of the rider's rides -/
def pIx (lp : List Pass) (rd : Int) : List Nat := idxs (fun k => decide ((pAt lp k).rd = rd)) lp.length
def rIx (R : List Ride) (rd : Int) : List Nat := idxs (fun k => decide ((rAt R k).rd = rd)) R.length
theorem pIx_mem {j : Nat} : j ∈ pIx lp rd ↔ j < lp.length ∧ (pAt lp j).rd = rd := by unfold pIx; rw [idxs_mem, decide_eq_true_eq]
theorem rIx_mem {j : Nat} : j ∈ rIx R rd ↔ j < R.length ∧ (rAt R j).rd = rd := by unfold rIx; rw [idxs_mem, decide_eq_true_eq]
theorem own_passes : (lp.filter fun p => decide (p.rd = rd)) = (pIx lp rd).map (pAt lp) := filter_idxs (passes_map lp) _
theorem own_rides : (R.filter fun p => decide (p.rd = rd)) = (rIx R rd).map (rAt R) := filter_idxs (rides_map R) _
theorem pAt_own {m : Nat} (hm : m < (pIx lp rd).length) : pAt (lp.filter fun p => decide (p.rd = rd)) m = pAt lp ((pIx lp rd).getD m 0) := by
  rw [own_passes]
  simp only [pAt, List.getD_eq_getElem?_getD, List.getElem?_map, List.getElem?_eq_getElem hm]
  rfl
theorem rAt_own {m : Nat} (hm : m < (rIx R rd).length) : rAt (R.filter fun p => decide (p.rd = rd)) m = rAt R ((rIx R rd).getD m 0) := by
  rw [own_rides]
  simp only [rAt, List.getD_eq_getElem?_getD, List.getElem?_map, List.getElem?_eq_getElem hm]
  rfl
theorem getD_mem {l : List Nat} {m : Nat} (hm : m < l.length) : l.getD m 0 ∈ l := by
  rw [List.getD_eq_getElem?_getD, List.getElem?_eq_getElem hm]; exact List.getElem_mem _
theorem getD_lt {p : Nat → Bool} {n m m' : Nat} (h : m < m') (hm : m' < (idxs p n).length) : (idxs p n).getD m 0 < (idxs p n).getD m' 0 := by
  rw [List.getD_eq_getElem?_getD, List.getD_eq_getElem?_getD, List.getElem?_eq_getElem hm, List.getElem?_eq_getElem (by omega)]
  exact List.pairwise_iff_getElem.1 (idxs_lt p n) m m' (by omega) hm h
theorem getD_inj {p : Nat → Bool} {n m m' : Nat} (hm : m < (idxs p n).length) (hm' : m' < (idxs p n).length) (h : (idxs p n).getD m 0 = (idxs p n).getD m' 0) : m = m' := by
  rcases Nat.lt_trichotomy m m' with h1 | h1 | h1
  · have := getD_lt h1 hm'; omega
  · exact h1
  · have := getD_lt h1 hm; omega
/-- a number of the rider's passes as one of all passes -/
def lift (lp : List Pass) (rd : Int) (v : Int) : Int := if 0 ≤ v then ((pIx lp rd).getD v.toNat 0 : Nat) else -1
theorem firstP_own {r : Ride} {c c' : Int → Nat} (hr : r.rd = rd) (h : ∀ m : Nat, m < (pIx lp rd).length → c ((pIx lp rd).getD m 0 : Nat) = c' (m : Int)) : firstP lp r c = lift lp rd (firstP (lp.filter fun p => decide (p.rd = rd)) r c') := by
  have hlen : (lp.filter fun p => decide (p.rd = rd)).length = (pIx lp rd).length := by rw [own_passes, List.length_map]
  have hno : ∀ j, j < lp.length → j ∉ pIx lp rd → vP (pAt lp j) r = false := fun j hj hn => by
    cases hv : vP (pAt lp j) r
    · rfl
    · refine (hn (idxs_mem.2 ⟨hj, ?_⟩)).elim
      unfold vP at hv
      simp only [Bool.and_eq_true, decide_eq_true_eq] at hv
      simpa [hr] using hv.1
  have hin : ∀ j, j ∈ pIx lp rd → ∃ m, m < (pIx lp rd).length ∧ (pIx lp rd).getD m 0 = j := fun j hj => by
    obtain ⟨m, hm⟩ := List.mem_iff_getElem?.1 hj
    exact ⟨m, (List.getElem?_eq_some_iff.1 hm).1, by rw [List.getD_eq_getElem?_getD, hm]; rfl⟩
  rcases firstP_cases (lp.filter fun p => decide (p.rd = rd)) r c' with ⟨m, hm, e, hy, hn⟩ | ⟨e, hn⟩
  · rw [hlen] at hm
    have hl : lift lp rd (m : Int) = ((pIx lp rd).getD m 0 : Nat) := by unfold lift; rw [if_pos (by omega)]; simp
    rw [e, hl]
    refine firstP_yes (pIx_mem.1 (getD_mem hm)).1 ?_ (fun j hj => ?_)
    · rw [h m hm, ← pAt_own hm]; exact hy
    · by_cases hjm : j ∈ pIx lp rd
      · obtain ⟨m', hm', rfl⟩ := hin j hjm
        have hlt : m' < m := by
          rcases Nat.lt_or_ge m' m with h1 | h1
          · exact h1
          · exfalso
            rcases Nat.lt_or_ge m m' with h2 | h2
            · have := getD_lt (p := fun k => decide ((pAt lp k).rd = rd)) (n := lp.length) h2 hm'; unfold pIx at hj; omega
            · have : m = m' := by omega
              subst this; omega
        rw [h m' hm', ← pAt_own hm']; exact hn m' hlt
      · rw [hno j (by have := (pIx_mem.1 (getD_mem hm)).1; omega) hjm]; rfl
  · rw [e]
    show _ = lift lp rd (-1)
    have : lift lp rd (-1) = -1 := by unfold lift; rw [if_neg (by omega)]
    rw [this]
    refine firstP_no fun j hj => ?_
    by_cases hjm : j ∈ pIx lp rd
    · obtain ⟨m', hm', rfl⟩ := hin j hjm
      rw [h m' hm', ← pAt_own hm']; exact hn m' (by rw [hlen]; exact hm')
    · rw [hno j hj hjm]; rfl
/-- **The passes of the rider pay the rides of the rider as if there were no others.** -/
theorem riders_use {u v : Nat → Int} (hu : IsUse lp R u) (hv : IsUse (lp.filter fun p => decide (p.rd = rd)) (R.filter fun p => decide (p.rd = rd)) v) : ∀ n, n < (rIx R rd).length → u ((rIx R rd).getD n 0) = lift lp rd (v n) := by
  have hplen : (lp.filter fun p => decide (p.rd = rd)).length = (pIx lp rd).length := by rw [own_passes, List.length_map]
  have hrlen : (R.filter fun p => decide (p.rd = rd)).length = (rIx R rd).length := by rw [own_rides, List.length_map]
  have hlift : ∀ n, n < (rIx R rd).length → ∀ k : Nat, lift lp rd (v n) = k → (pAt lp k).rd = rd := fun n hn k hk => by
    have hr := hv.range (show n < _ by rw [hrlen]; exact hn)
    rw [hplen] at hr
    unfold lift at hk
    split at hk
    · have hk' : (pIx lp rd).getD (v n).toNat 0 = k := by omega
      have := (pIx_mem.1 (getD_mem (l := pIx lp rd) (m := (v n).toNat) (by omega))).2
      rw [hk'] at this
      exact this
    · omega
  have hpay : ∀ j, j < R.length → ∀ k : Nat, u j = k → (pAt lp k).rd = (rAt R j).rd := fun j hj k hk => by
    have := (hu.pays hj hk).2.1
    unfold vP at this
    simp only [Bool.and_eq_true, decide_eq_true_eq] at this
    exact this.1
  let w : Nat → Int := fun i => if (rAt R i).rd = rd then lift lp rd (v ((rIx R rd).idxOf i)) else u i
  have hwI : ∀ n, n < (rIx R rd).length → w ((rIx R rd).getD n 0) = lift lp rd (v n) := fun n hn => by
    have hm := rIx_mem.1 (getD_mem hn)
    show (if _ then _ else _) = _
    rw [if_pos hm.2]
    have hget : (rIx R rd).getD n 0 = (rIx R rd)[n] := by rw [List.getD_eq_getElem?_getD, List.getElem?_eq_getElem hn]; rfl
    rw [hget, (show (rIx R rd).Nodup from idxs_nodup _ _).idxOf_getElem n hn]
  have hwin : ∀ j, j < R.length → (rAt R j).rd = rd → ∃ n, n < (rIx R rd).length ∧ (rIx R rd).getD n 0 = j := fun j hj hr => by
    have : j ∈ rIx R rd := rIx_mem.2 ⟨hj, hr⟩
    obtain ⟨m, hm⟩ := List.mem_iff_getElem?.1 this
    exact ⟨m, (List.getElem?_eq_some_iff.1 hm).1, by rw [List.getD_eq_getElem?_getD, hm]; rfl⟩
  have hw : IsUse lp R w := by
    intro i hi
    by_cases hr : (rAt R i).rd = rd
    · obtain ⟨n, hn, rfl⟩ := hwin i hi hr
      rw [hwI n hn, hv n (by rw [hrlen]; exact hn), rAt_own hn]
      refine (firstP_own hr fun m hm => ?_).symm
      unfold cnt
      have hq : ((List.range R.length).filter fun j => bef (rAt R j) (rAt R ((rIx R rd).getD n 0)) && decide (w j = ((pIx lp rd).getD m 0 : Nat)) && decide (day (rAt R j) = day (rAt R ((rIx R rd).getD n 0)))) =
          (rIx R rd).filter fun j => bef (rAt R j) (rAt R ((rIx R rd).getD n 0)) && decide (w j = ((pIx lp rd).getD m 0 : Nat)) && decide (day (rAt R j) = day (rAt R ((rIx R rd).getD n 0))) := by
        unfold rIx idxs
        rw [List.filter_filter]
        refine List.filter_congr fun j hj => ?_
        by_cases hrj : (rAt R j).rd = rd
        · rw [decide_eq_true hrj, Bool.and_true]
        · have hwj : w j = u j := if_neg hrj
          have hne : ¬ w j = ((pIx lp rd).getD m 0 : Nat) := fun he => by
            rw [hwj] at he
            have h1 := hpay j (List.mem_range.1 hj) _ he
            have h2 := (pIx_mem.1 (getD_mem hm)).2
            exact hrj (by rw [← h1]; exact h2)
          rw [decide_eq_false hne, decide_eq_false hrj]; simp
      rw [hq, len_filter_idx, hrlen]
      congr 1
      refine List.filter_congr fun n' hn' => ?_
      have hn' := List.mem_range.1 hn'
      rw [rAt_own hn', hwI n' hn']
      have hiff : decide (lift lp rd (v n') = ((pIx lp rd).getD m 0 : Nat)) = decide (v n' = (m : Int)) := by
        rw [decide_eq_decide]
        have hrg := hv.range (show n' < _ by rw [hrlen]; exact hn')
        rw [hplen] at hrg
        constructor
        · intro he
          unfold lift at he
          split at he
          · have : (v n').toNat = m := getD_inj (p := fun k => decide ((pAt lp k).rd = rd)) (n := lp.length) (show _ < (pIx lp rd).length by omega) hm (by unfold pIx at he; omega)
            omega
          · omega
        · intro he
          rw [he]
          unfold lift
          rw [if_pos (by omega)]; simp
      rw [hiff]
    · have hwi : w i = u i := if_neg hr
      rw [hwi, hu i hi]
      refine firstP_congr' fun k hk hvk => ?_
      have hkr : (pAt lp k).rd = (rAt R i).rd := by
        unfold vP at hvk
        simp only [Bool.and_eq_true, decide_eq_true_eq] at hvk
        exact hvk.1
      unfold cnt
      congr 1
      refine List.filter_congr fun j hj => ?_
      have hj := List.mem_range.1 hj
      by_cases hrj : (rAt R j).rd = rd
      · obtain ⟨n, hn, rfl⟩ := hwin j hj hrj
        have h1 : ¬ w ((rIx R rd).getD n 0) = (k : Int) := fun he => by
          rw [hwI n hn] at he
          exact hr (by rw [← hkr]; exact hlift n hn k he)
        have h2 : ¬ u ((rIx R rd).getD n 0) = (k : Int) := fun he => by
          have := hpay _ hj k he
          exact hr (by rw [← hkr, this]; exact hrj)
        rw [decide_eq_false h1, decide_eq_false h2]
      · have : w j = u j := if_neg hrj
        rw [this]
  intro n hn
  have hm := rIx_mem.1 (getD_mem hn)
  have h1 := use_unique hu hw ((rIx R rd).getD n 0) hm.1
  exact h1.trans (hwI n hn)
end
theorem sub_e {lp : List Pass} {R : List Ride} {P : Pass → Bool} {Q : Ride → Bool} (h : usesE lp R = 0) : usesE (lp.filter P) (R.filter Q) = 0 := by
  obtain ⟨h1, h2⟩ := usesE_zero h
  obtain ⟨a1, a2, a3⟩ := passE_zero h1
  obtain ⟨b1, b2, b3⟩ := ridesE_zero h2
  have c1 := List.length_filter_le P lp
  have c2 := List.length_filter_le Q R
  have e1 : passE (lp.filter P) = 0 := by
    unfold passE
    rw [if_neg (by omega), if_neg (by rw [List.all_eq_true.2 fun x hx => a2 x (List.mem_filter.1 hx).1]; simp), if_neg]
    rw [dupB_false (a3.sublist (List.Sublist.map _ List.filter_sublist))]; simp
  have e2 : ridesE (R.filter Q) = 0 := by
    rw [ridesE_ok (by omega) fun j hj x hx => b3 x (List.mem_filter.1 (List.mem_of_getElem? hx)).1, if_neg]
    rw [dupB_false (b2.sublist (List.Sublist.map _ List.filter_sublist))]; simp
  unfold usesE
  rw [e1, if_neg (by simp), e2]
end Go.Proofs.Ytbkfcdheckkjaaa
/- The law PassLater, walked. -/
namespace Go.Proofs.Ytbkfcdheckkjaaa
open Go.RowKit

theorem rAt_snoc {R : List Ride} {r : Ride} {i : Nat} (hi : i < R.length) : rAt (R ++ [r]) i = rAt R i := by
  unfold rAt
  rw [List.getD_eq_getElem?_getD, List.getD_eq_getElem?_getD, List.getElem?_append_left hi]
theorem rAt_last (R : List Ride) (r : Ride) : rAt (R ++ [r]) R.length = r := by
  unfold rAt
  rw [List.getD_eq_getElem?_getD, List.getElem?_append_right (Nat.le_refl _), Nat.sub_self]; rfl
/-- a further ride changes nothing for the rides before it -/
theorem later_use {lp : List Pass} {R : List Ride} {r : Ride} {u v : Nat → Int} (hu : IsUse lp R u) (hv : IsUse lp (R ++ [r]) v) : ∀ i, i < R.length → bef (rAt R i) r = true → u i = v i := by
  have : ∀ n i, i < R.length → bef (rAt R i) r = true → rank R (rAt R i) = n → u i = v i := by
    intro n
    induction n using Nat.strongRecOn with
    | _ n ih =>
      intro i hi hb hn
      rw [hu i hi, hv i (by simp; omega), rAt_snoc hi]
      refine firstP_congr fun k _ => ?_
      unfold cnt
      rw [List.length_append, List.length_singleton, List.range_succ, List.filter_append, List.length_append]
      have hlast : [R.length].filter (fun j => bef (rAt (R ++ [r]) j) (rAt R i) && decide (v j = (k : Int)) && decide (day (rAt (R ++ [r]) j) = day (rAt R i))) = [] := by
        rw [List.filter_cons, rAt_last, bef_asymm hb]; rfl
      rw [hlast, List.length_nil, Nat.add_zero]
      congr 1
      refine List.filter_congr fun j hj => ?_
      have hj := List.mem_range.1 hj
      rw [rAt_snoc hj]
      cases hbj : bef (rAt R j) (rAt R i)
      · rfl
      · rw [ih _ (by rw [← hn]; exact rank_lt hj hbj) j hj (bef_trans hbj hb) rfl]
  exact fun i hi hb => this _ i hi hb rfl
theorem snoc_e {lp : List Pass} {R : List Ride} {r : Ride} (h : usesE lp (R ++ [r]) = 0) : usesE lp R = 0 := by
  obtain ⟨h1, h2⟩ := usesE_zero h
  obtain ⟨b1, b2, b3⟩ := ridesE_zero h2
  rw [List.length_append] at b1
  rw [List.map_append] at b2
  have e2 : ridesE R = 0 := by
    rw [ridesE_ok (by simp at b1; omega) fun j hj x hx => b3 x (List.mem_append_left _ (List.mem_of_getElem? hx)), if_neg]
    rw [dupB_false (List.nodup_append.1 b2).1]; simp
  unfold usesE
  rw [h1, if_neg (by simp), e2]
theorem blk_ride {w : World} {g : Nat} {r : Ride} (h : Blk w g (.cells #[.int .i64 r.id, .int .i64 r.rd, .int .i64 r.s0, .int .i64 r.s1, .int .i64 r.e0, .int .i64 r.e1, .bool r.op, .slice r.la r.legs.length r.lc, .slice r.pa r.pauses.length r.pc, .int .i64 r.fw, .int .i64 r.fp, .int .i64 r.wh, .int .i64 r.pl] 44)) : ∀ j u, r.cs[j]? = some u → w.cell? ((⟨g, 0, none⟩ : Addr).add j) = some u := Blk.cells (cs := r.cs) h
set_option maxRecDepth 100000 in
set_option maxHeartbeats 16000000 in
theorem passLater_calls (w : World) (x : Since w) (pa : Option Addr) (lp : List Pass) (pc : Nat) (a : Option Addr) (R : List Ride) (c : Nat) (r : Ride) (hp : PassRow w pa lp) (hpl : lp.length ≤ 9223372036854775807) (h : RideRow w a R) (hl : R.length ≤ 9223372036854775807) (hn : a = none → c = 0) (hr : r.At w) :
    Calls Try.prog 7 #[.slice pa lp.length pc, .slice a R.length c, .agg #[.int .i64 r.id, .int .i64 r.rd, .int .i64 r.s0, .int .i64 r.s1, .int .i64 r.e0, .int .i64 r.e1, .bool r.op, .slice r.la r.legs.length r.lc, .slice r.pa r.pauses.length r.pc, .int .i64 r.fw, .int .i64 r.fp, .int .i64 r.wh, .int .i64 r.pl]] x.w fun o w' => o = .returned (.bool true) ∧ ∃ y : Since w, w' = y.w := by
  have HP := Lib.hid hp
  have HR := Lib.hid h
  have Hr := Lib.hid hr
  have Hn := Lib.hid hn
  clear h hp hr hn
  go_enter Try.func7, Try.ntmps7
  go_upto_region 1 with fail
  have hb0_0 : ∀ y : Since (x.w.alloc (.cells #[.int .i64 r.id, .int .i64 r.rd, .int .i64 r.s0, .int .i64 r.s1, .int .i64 r.e0, .int .i64 r.e1, .bool r.op, .slice r.la r.legs.length r.lc, .slice r.pa r.pauses.length r.pc, .int .i64 r.fw, .int .i64 r.fp, .int .i64 r.wh, .int .i64 r.pl] 44)), y.w.cell? ⟨x.w.heap.size, 0, none⟩ = some (.int .i64 r.id) := fun y => Since.cell (by simp [go_sem]) (by first | (simp; done) | (simp; omega)) y
  have hb0_1 : ∀ y : Since (x.w.alloc (.cells #[.int .i64 r.id, .int .i64 r.rd, .int .i64 r.s0, .int .i64 r.s1, .int .i64 r.e0, .int .i64 r.e1, .bool r.op, .slice r.la r.legs.length r.lc, .slice r.pa r.pauses.length r.pc, .int .i64 r.fw, .int .i64 r.fp, .int .i64 r.wh, .int .i64 r.pl] 44)), y.w.cell? ⟨x.w.heap.size, 1, none⟩ = some (.int .i64 r.rd) := fun y => Since.cell (by simp [go_sem]) (by first | (simp; done) | (simp; omega)) y
  have hb0_2 : ∀ y : Since (x.w.alloc (.cells #[.int .i64 r.id, .int .i64 r.rd, .int .i64 r.s0, .int .i64 r.s1, .int .i64 r.e0, .int .i64 r.e1, .bool r.op, .slice r.la r.legs.length r.lc, .slice r.pa r.pauses.length r.pc, .int .i64 r.fw, .int .i64 r.fp, .int .i64 r.wh, .int .i64 r.pl] 44)), y.w.cell? ⟨x.w.heap.size, 2, none⟩ = some (.int .i64 r.s0) := fun y => Since.cell (by simp [go_sem]) (by first | (simp; done) | (simp; omega)) y
  have hb0_3 : ∀ y : Since (x.w.alloc (.cells #[.int .i64 r.id, .int .i64 r.rd, .int .i64 r.s0, .int .i64 r.s1, .int .i64 r.e0, .int .i64 r.e1, .bool r.op, .slice r.la r.legs.length r.lc, .slice r.pa r.pauses.length r.pc, .int .i64 r.fw, .int .i64 r.fp, .int .i64 r.wh, .int .i64 r.pl] 44)), y.w.cell? ⟨x.w.heap.size, 3, none⟩ = some (.int .i64 r.s1) := fun y => Since.cell (by simp [go_sem]) (by first | (simp; done) | (simp; omega)) y
  have hb0_4 : ∀ y : Since (x.w.alloc (.cells #[.int .i64 r.id, .int .i64 r.rd, .int .i64 r.s0, .int .i64 r.s1, .int .i64 r.e0, .int .i64 r.e1, .bool r.op, .slice r.la r.legs.length r.lc, .slice r.pa r.pauses.length r.pc, .int .i64 r.fw, .int .i64 r.fp, .int .i64 r.wh, .int .i64 r.pl] 44)), y.w.cell? ⟨x.w.heap.size, 4, none⟩ = some (.int .i64 r.e0) := fun y => Since.cell (by simp [go_sem]) (by first | (simp; done) | (simp; omega)) y
  have hb0_5 : ∀ y : Since (x.w.alloc (.cells #[.int .i64 r.id, .int .i64 r.rd, .int .i64 r.s0, .int .i64 r.s1, .int .i64 r.e0, .int .i64 r.e1, .bool r.op, .slice r.la r.legs.length r.lc, .slice r.pa r.pauses.length r.pc, .int .i64 r.fw, .int .i64 r.fp, .int .i64 r.wh, .int .i64 r.pl] 44)), y.w.cell? ⟨x.w.heap.size, 5, none⟩ = some (.int .i64 r.e1) := fun y => Since.cell (by simp [go_sem]) (by first | (simp; done) | (simp; omega)) y
  have hb0_6 : ∀ y : Since (x.w.alloc (.cells #[.int .i64 r.id, .int .i64 r.rd, .int .i64 r.s0, .int .i64 r.s1, .int .i64 r.e0, .int .i64 r.e1, .bool r.op, .slice r.la r.legs.length r.lc, .slice r.pa r.pauses.length r.pc, .int .i64 r.fw, .int .i64 r.fp, .int .i64 r.wh, .int .i64 r.pl] 44)), y.w.cell? ⟨x.w.heap.size, 6, none⟩ = some (.bool r.op) := fun y => Since.cell (by simp [go_sem]) (by first | (simp; done) | (simp; omega)) y
  have hb0_7 : ∀ y : Since (x.w.alloc (.cells #[.int .i64 r.id, .int .i64 r.rd, .int .i64 r.s0, .int .i64 r.s1, .int .i64 r.e0, .int .i64 r.e1, .bool r.op, .slice r.la r.legs.length r.lc, .slice r.pa r.pauses.length r.pc, .int .i64 r.fw, .int .i64 r.fp, .int .i64 r.wh, .int .i64 r.pl] 44)), y.w.cell? ⟨x.w.heap.size, 7, none⟩ = some (.slice r.la r.legs.length r.lc) := fun y => Since.cell (by simp [go_sem]) (by first | (simp; done) | (simp; omega)) y
  have hb0_8 : ∀ y : Since (x.w.alloc (.cells #[.int .i64 r.id, .int .i64 r.rd, .int .i64 r.s0, .int .i64 r.s1, .int .i64 r.e0, .int .i64 r.e1, .bool r.op, .slice r.la r.legs.length r.lc, .slice r.pa r.pauses.length r.pc, .int .i64 r.fw, .int .i64 r.fp, .int .i64 r.wh, .int .i64 r.pl] 44)), y.w.cell? ⟨x.w.heap.size, 8, none⟩ = some (.slice r.pa r.pauses.length r.pc) := fun y => Since.cell (by simp [go_sem]) (by first | (simp; done) | (simp; omega)) y
  have hb0_9 : ∀ y : Since (x.w.alloc (.cells #[.int .i64 r.id, .int .i64 r.rd, .int .i64 r.s0, .int .i64 r.s1, .int .i64 r.e0, .int .i64 r.e1, .bool r.op, .slice r.la r.legs.length r.lc, .slice r.pa r.pauses.length r.pc, .int .i64 r.fw, .int .i64 r.fp, .int .i64 r.wh, .int .i64 r.pl] 44)), y.w.cell? ⟨x.w.heap.size, 9, none⟩ = some (.int .i64 r.fw) := fun y => Since.cell (by simp [go_sem]) (by first | (simp; done) | (simp; omega)) y
  have hb0_10 : ∀ y : Since (x.w.alloc (.cells #[.int .i64 r.id, .int .i64 r.rd, .int .i64 r.s0, .int .i64 r.s1, .int .i64 r.e0, .int .i64 r.e1, .bool r.op, .slice r.la r.legs.length r.lc, .slice r.pa r.pauses.length r.pc, .int .i64 r.fw, .int .i64 r.fp, .int .i64 r.wh, .int .i64 r.pl] 44)), y.w.cell? ⟨x.w.heap.size, 10, none⟩ = some (.int .i64 r.fp) := fun y => Since.cell (by simp [go_sem]) (by first | (simp; done) | (simp; omega)) y
  have hb0_11 : ∀ y : Since (x.w.alloc (.cells #[.int .i64 r.id, .int .i64 r.rd, .int .i64 r.s0, .int .i64 r.s1, .int .i64 r.e0, .int .i64 r.e1, .bool r.op, .slice r.la r.legs.length r.lc, .slice r.pa r.pauses.length r.pc, .int .i64 r.fw, .int .i64 r.fp, .int .i64 r.wh, .int .i64 r.pl] 44)), y.w.cell? ⟨x.w.heap.size, 11, none⟩ = some (.int .i64 r.wh) := fun y => Since.cell (by simp [go_sem]) (by first | (simp; done) | (simp; omega)) y
  have hb0_12 : ∀ y : Since (x.w.alloc (.cells #[.int .i64 r.id, .int .i64 r.rd, .int .i64 r.s0, .int .i64 r.s1, .int .i64 r.e0, .int .i64 r.e1, .bool r.op, .slice r.la r.legs.length r.lc, .slice r.pa r.pauses.length r.pc, .int .i64 r.fw, .int .i64 r.fp, .int .i64 r.wh, .int .i64 r.pl] 44)), y.w.cell? ⟨x.w.heap.size, 12, none⟩ = some (.int .i64 r.pl) := fun y => Since.cell (by simp [go_sem]) (by first | (simp; done) | (simp; omega)) y
  have hf0 : ∀ (y : Since (x.w.alloc (.cells #[.int .i64 r.id, .int .i64 r.rd, .int .i64 r.s0, .int .i64 r.s1, .int .i64 r.e0, .int .i64 r.e1, .bool r.op, .slice r.la r.legs.length r.lc, .slice r.pa r.pauses.length r.pc, .int .i64 r.fw, .int .i64 r.fp, .int .i64 r.wh, .int .i64 r.pl] 44))) (o : Nat), y.w.frozen? ⟨x.w.heap.size, o, none⟩ = false := fun y o => Since.free (by simp [go_sem]) (by first | (simp; done) | (simp; omega)) y
  have hWup : ∃ z : Since w, (x.w.alloc (.cells #[.int .i64 r.id, .int .i64 r.rd, .int .i64 r.s0, .int .i64 r.s1, .int .i64 r.e0, .int .i64 r.e1, .bool r.op, .slice r.la r.legs.length r.lc, .slice r.pa r.pauses.length r.pc, .int .i64 r.fw, .int .i64 r.fp, .int .i64 r.wh, .int .i64 r.pl] 44)) = z.w := x.alloc _
  obtain ⟨y0, hy0⟩ := Since.refl (x.w.alloc (.cells #[.int .i64 r.id, .int .i64 r.rd, .int .i64 r.s0, .int .i64 r.s1, .int .i64 r.e0, .int .i64 r.e1, .bool r.op, .slice r.la r.legs.length r.lc, .slice r.pa r.pauses.length r.pc, .int .i64 r.fw, .int .i64 r.fp, .int .i64 r.wh, .int .i64 r.pl] 44))
  have Hbx := Lib.hid (And.intro x.b.size (show x.w.heap.size + 1 = (x.w.alloc (.cells #[.int .i64 r.id, .int .i64 r.rd, .int .i64 r.s0, .int .i64 r.s1, .int .i64 r.e0, .int .i64 r.e1, .bool r.op, .slice r.la r.legs.length r.lc, .slice r.pa r.pauses.length r.pc, .int .i64 r.fw, .int .i64 r.fp, .int .i64 r.wh, .int .i64 r.pl] 44)).heap.size from by simp))
  generalize hW : (x.w.alloc (.cells #[.int .i64 r.id, .int .i64 r.rd, .int .i64 r.s0, .int .i64 r.s1, .int .i64 r.e0, .int .i64 r.e1, .bool r.op, .slice r.la r.legs.length r.lc, .slice r.pa r.pauses.length r.pc, .int .i64 r.fw, .int .i64 r.fp, .int .i64 r.wh, .int .i64 r.pl] 44)) = W at *
  clear hW
  generalize x.w.heap.size = bx at *
  have Hup := Lib.hid (Since.up hWup)
  rw [hy0]
  clear hy0
  replace HP := Lib.hid (HP.out.to hWup)
  replace HR := Lib.hid (HR.out.to hWup)
  replace Hr := Lib.hid (Hr.out.to hWup)
  clear hWup hf0
  have Ha := Lib.hid (fun y : Since W => awake_calls W y)
  have Hf := Lib.hid (fun y : Since W => few_calls W y a R c 30 HR.out hl)
  rcases few_cases lp R with hb | ⟨hb, hf⟩ | ⟨hb, hf, hR⟩
  · go_wp2_with (go_at_call 9; ((with_reducible refine (Ha.out _).mono ?_); rintro _ _ ⟨rfl, y1, rfl⟩))
    go_ret
    exact ⟨rfl, Hup.out _⟩
  · rw [hf] at Hf
    clear hf
    go_wp2_with (first | (go_at_call 12; ((with_reducible refine (Hf.out _).mono ?_); rintro _ _ ⟨rfl, y1, rfl⟩)) | (go_at_call 9; ((with_reducible refine (Ha.out _).mono ?_); rintro _ _ ⟨rfl, y1, rfl⟩)))
    go_ret
    exact ⟨rfl, Hup.out _⟩
  rw [hf] at Hf
  clear hf
  go_wp2_with fail
  refine (Hf.out _).mono ?_
  rintro _ _ ⟨rfl, y1, rfl⟩
  go_wp2_with fail
  have hrow : RideRow (y1.w.alloc (.cells (flat Ride.cs [r]).toArray 44)) (some ⟨y1.w.heap.size, 0, none⟩) [r] := ⟨els_new Ride.len y1.w [r] 44, fun z hz => by simp at hz; subst hz; exact (Hr.out.since y1).to (IsSince.alloc (IsSince.self _) _)⟩
  have Hf1 := Lib.hid (few_calls _ (Since.self _) _ [r] 1 1 hrow (by simp))
  have hst1 := IsSince.alloc (IsSince.of y1) (.cells (flat Ride.cs [r]).toArray 44)
  rw [show (flat Ride.cs [r]).toArray = #[.int .i64 r.id, .int .i64 r.rd, .int .i64 r.s0, .int .i64 r.s1, .int .i64 r.e0, .int .i64 r.e1, .bool r.op, .slice r.la r.legs.length r.lc, .slice r.pa r.pauses.length r.pc, .int .i64 r.fw, .int .i64 r.fp, .int .i64 r.wh, .int .i64 r.pl] from rfl] at Hf1 hst1
  simp only [List.length_cons, List.length_nil, Nat.zero_add] at Hf1
  have Hst1 := Lib.hid hst1
  clear hrow hst1 Hf
  cases hf1 : fewB [r] 1 with
  | false =>
    rw [hf1] at Hf1
    clear hf1
    refine Hf1.out.mono ?_
    rintro _ _ ⟨rfl, z1, rfl⟩
    obtain ⟨y2, h2⟩ := Since.up Hst1.out z1
    rw [h2]
    clear h2
    go_wp2_with (go_at_call 9; ((with_reducible refine (Ha.out _).mono ?_); rintro _ _ ⟨rfl, y3, rfl⟩))
    go_ret
    exact ⟨rfl, Hup.out _⟩
  | true =>
    rw [hf1] at Hf1
    clear hf1
    refine Hf1.out.mono ?_
    rintro _ _ ⟨rfl, z1, rfl⟩
    obtain ⟨y2, h2⟩ := Since.up Hst1.out z1
    rw [h2]
    clear h2 Hf1 Hst1
    have Huse := Lib.hid (useX_s W y2 pa lp pc a R c (Since.els HP.out y2) hpl (HR.out.since y2) hl)
    go_wp2_with fail
    refine Huse.out.mono ?_
    rintro _ _ ⟨ua, uc, us, y3, rfl, rfl, _, hu, hU⟩
    have HU := Lib.hid hu; have HOk := Lib.hid hU
    clear hu hU Huse
    have hb0 : ∀ j v, r.cs[j]? = some v → ∀ w', IsSince y3.w w' → w'.cell? ⟨bx, j, none⟩ = some v := fun j v hv w' hw => by
      obtain ⟨z, rfl⟩ := hw
      obtain ⟨q, hq⟩ := y3.trans z
      rw [hq]
      match j, hv with
      | 0, hv => cases hv; exact hb0_0 q
      | 1, hv => cases hv; exact hb0_1 q
      | 2, hv => cases hv; exact hb0_2 q
      | 3, hv => cases hv; exact hb0_3 q
      | 4, hv => cases hv; exact hb0_4 q
      | 5, hv => cases hv; exact hb0_5 q
      | 6, hv => cases hv; exact hb0_6 q
      | 7, hv => cases hv; exact hb0_7 q
      | 8, hv => cases hv; exact hb0_8 q
      | 9, hv => cases hv; exact hb0_9 q
      | 10, hv => cases hv; exact hb0_10 q
      | 11, hv => cases hv; exact hb0_11 q
      | 12, hv => cases hv; exact hb0_12 q
    have kb0 := fun w' hw => hb0 0 _ rfl w' hw
    have kb1 := fun w' hw => hb0 1 _ rfl w' hw
    have kb2 := fun w' hw => hb0 2 _ rfl w' hw
    have kb3 := fun w' hw => hb0 3 _ rfl w' hw
    have kb4 := fun w' hw => hb0 4 _ rfl w' hw
    have kb5 := fun w' hw => hb0 5 _ rfl w' hw
    have kb6 := fun w' hw => hb0 6 _ rfl w' hw
    have kb7 := fun w' hw => hb0 7 _ rfl w' hw
    have kb8 := fun w' hw => hb0 8 _ rfl w' hw
    have kb9 := fun w' hw => hb0 9 _ rfl w' hw
    have kb10 := fun w' hw => hb0 10 _ rfl w' hw
    have kb11 := fun w' hw => hb0 11 _ rfl w' hw
    have kb12 := fun w' hw => hb0 12 _ rfl w' hw
    clear hb0 hb0_0 hb0_1 hb0_2 hb0_3 hb0_4 hb0_5 hb0_6 hb0_7 hb0_8 hb0_9 hb0_10 hb0_11 hb0_12
    generalize hue : usesE lp R = ue at *
    have Hue := Lib.hid hue
    clear hue
    go_wp2_with fail
    have HRr := Lib.hid (HR.out.since y3).c
    go_region_held3 (fun w' => IsSince y3.w w') (first | assumption | exact IsSince.drew' (IsSince.self _) | exact IsSince.alloc (by assumption) _ | exact IsSince.of _)
      (first
        | ((refine step_appEls (enc := Ride.cs) (k := 13) (w0 := y3.w) Ride.len (by decide) ride_one (by assumption) rfl _ _ 27 rfl y3.w.heap.size (Nat.le_refl _) (IsSince.size (by assumption)) 44 zeroRide 136 sRide (.slice (some ⟨_, 0, none⟩) 0 0) 0 [] rfl (by first | (with_reducible exact own_empty' (blk_at (by simp)) (by simp)) | (with_reducible exact own_empty' (blk_up (blk_at (by simp))) (by simp)) | (with_reducible exact own_empty' (blk_drew (blk_at (by simp))) (by simp)) | (with_reducible exact own_empty' (blk_drew (blk_up (blk_at (by simp)))) (by simp))) a R c rfl (HRr.out.to (by assumption)) Hn.out (by unfold maxLen; omega) (by omega) ?_); intro v1 q1 hown1 hg1)
        | ((refine step_appK (k := 13) (w0 := y3.w) (by assumption) rfl _ _ 27 rfl y3.w.heap.size (Nat.le_refl _) (IsSince.size (by assumption)) 44 zeroRide 136 sRide v1 (0 + R.length) ([] ++ flat Ride.cs R) rfl (by first | (with_reducible exact hown1) | (with_reducible exact own_up hown1)) _ 1 1 r.cs rfl rfl (by first | (with_reducible exact blk_ride (blk_at (by simp))) | (with_reducible exact blk_ride (blk_drew (blk_at (by simp)))) | (with_reducible exact blk_ride (Blk.grown hg1 (blk_at (by simp)) (by simp [Value.ownBlock]))) | (with_reducible exact blk_ride (Blk.grown hg1 (blk_up (blk_at (by simp))) (by simp [Value.ownBlock]))) | (with_reducible exact blk_ride (Blk.grown hg1 (blk_drew (blk_at (by simp))) (by simp [Value.ownBlock]))) | (with_reducible exact blk_ride (Blk.grown hg1 (blk_drew (blk_up (blk_at (by simp)))) (by simp [Value.ownBlock])))) (ride_one r) (by unfold maxLen; omega) (by omega) ?_); intro v2 q2 hown2 hg2; obtain ⟨T, HT⟩ : ∃ T, Hid (T = R ++ [r]) := ⟨_, Lib.hid rfl⟩; obtain ⟨hl2, a5, c5, rfl, hc5, he5, _, _⟩ := own_els (l := T) Ride.len (by decide) (by rw [HT.out, flat_append, flat_one]; exact hown2); have HE5 := Lib.hid he5; clear hl2 hc5 he5 hown2 hg2 hown1 hg1)
        | (go_at_call 13; refine (useX_s y3.w q2 pa lp pc a5 T c5 (Since.els (Since.els HP.out y3) q2) hpl ⟨HE5.out, fun z hz => by
            rw [HT.out] at hz
            rcases List.mem_append.1 hz with h | h
            · exact ((HR.out.since y3).r z h).since q2
            · simp at h; subst h; exact (Hr.out.since y3).since q2⟩ (by rw [HT.out]; simp; omega)).mono ?_; rintro _ _ ⟨va, vc, vs, y4, rfl, rfl, _, hv, hV⟩; have HV := Lib.hid hv; have HVk := Lib.hid hV; clear hv hV))
    all_goals
      have HU4 := Lib.hid (Since.row HU.out y4)
      have HR4 := Lib.hid ((HR.out.since y3).since y4)
      have up4 : ∀ q : Since y4.w, IsSince y3.w q.w := fun q => y4.trans q
      have rb0 := fun q : Since y4.w => kb0 q.w (up4 q)
      have rb1 := fun q : Since y4.w => kb1 q.w (up4 q)
      have rb2 := fun q : Since y4.w => kb2 q.w (up4 q)
      have rb3 := fun q : Since y4.w => kb3 q.w (up4 q)
      have rb4 := fun q : Since y4.w => kb4 q.w (up4 q)
      have rb5 := fun q : Since y4.w => kb5 q.w (up4 q)
      have rb6 := fun q : Since y4.w => kb6 q.w (up4 q)
      have rb7 := fun q : Since y4.w => kb7 q.w (up4 q)
      have rb8 := fun q : Since y4.w => kb8 q.w (up4 q)
      have rb9 := fun q : Since y4.w => kb9 q.w (up4 q)
      have rb10 := fun q : Since y4.w => kb10 q.w (up4 q)
      have rb11 := fun q : Since y4.w => kb11 q.w (up4 q)
      have rb12 := fun q : Since y4.w => kb12 q.w (up4 q)
      have Hup4 := Lib.hid (show ∀ q : Since y4.w, ∃ y : Since W, q.w = y.w from fun q => by
        obtain ⟨z, hz⟩ := y4.trans q
        rw [hz]
        exact y3.trans z)
      clear kb0 kb1 kb2 kb3 kb4 kb5 kb6 kb7 kb8 kb9 kb10 kb11 kb12 up4
      generalize huf : usesE lp T = uf at *
      have Huf := Lib.hid huf
      clear huf
      by_cases hz : ue = 0
      case neg =>
        have h1 : (ue != 0) = true := by simpa using hz
        have h2 : (ue == 0) = false := by simpa using hz
        have h3 : (uf != 0) = true := by
          have : uf ≠ 0 := fun h => hz (by rw [← Hue.out]; exact snoc_e (r := r) (by rw [← HT.out, Huf.out, h]))
          simpa using this
        clear hz rb0 rb1 rb2 rb3 rb4 rb5 rb6 rb7 rb8 rb9 rb10 rb11 rb12
        obtain ⟨y5, h5⟩ := Hup4.out (Since.self _)
        change y4.w = y5.w at h5
        rw [h5]
        go_wp2_with (go_at_call 9; ((with_reducible refine (Ha.out _).mono ?_); rintro _ _ ⟨rfl, y6, rfl⟩))
        go_ret
        exact ⟨rfl, Hup.out _⟩
      subst hz
      by_cases hz2 : uf = 0
      case neg =>
        have h1 : (uf != 0) = true := by simpa using hz2
        clear hz2 rb0 rb1 rb2 rb3 rb4 rb5 rb6 rb7 rb8 rb9 rb10 rb11 rb12
        obtain ⟨y5, h5⟩ := Hup4.out (Since.self _)
        change y4.w = y5.w at h5
        rw [h5]
        go_wp2_with (go_at_call 9; ((with_reducible refine (Ha.out _).mono ?_); rintro _ _ ⟨rfl, y6, rfl⟩))
        go_ret
        exact ⟨rfl, Hup.out _⟩
      subst hz2
      obtain ⟨hl1, hI1⟩ := HOk.out.ok Hue.out
      obtain ⟨hl2, hI2⟩ := HVk.out.ok Huf.out
      rw [HT.out] at hI2 hl2
      have Hlater := Lib.hid (later_use hI1 hI2)
      rw [List.length_append, List.length_singleton] at hl2
      have Hl1 := Lib.hid hl1; have Hl2 := Lib.hid hl2
      have hlb1 : ((us.length : Int) != (R.length : Int)) = false := by simp; omega
      have hlb2 : ((vs.length : Int) != (R.length : Int) + 1) = false := by simp; omega
      clear hl1 hl2 hI1 hI2
      go_wp2_with fail
      go_loopw [11] (fun s wr => ∃ (k : Nat) (y : Since y4.w), k ≤ R.length ∧ s = .int .i64 k ∧ wr = y.w) (fun s _ => R.length - (intOf s).toNat)
      case atStart => exact ⟨0, Since.self _, by omega, rfl, rfl⟩
      case round =>
        obtain ⟨k, y5, hk, rfl, rfl⟩ := hrel
        by_cases hlt : k < R.length
        · obtain ⟨e, he⟩ : ∃ e, R[k]? = some e := ⟨_, List.getElem?_eq_getElem hlt⟩
          have He := Lib.hid (rAt_eq he)
          obtain ⟨b1, off1, rfl, h1'⟩ := Els.ride HR4.out.c he
          have ra0 := h1'.c0
          have ra1 := h1'.c1
          have ra2 := h1'.c2
          have ra3 := h1'.c3
          have ra4 := h1'.c4
          have ra5 := h1'.c5
          have ra6 := h1'.c6
          have ra7 := h1'.c7
          have ra8 := h1'.c8
          have ra9 := h1'.c9
          have ra10 := h1'.c10
          have ra11 := h1'.c11
          have ra12 := h1'.c12
          obtain ⟨b2, off2, rfl, hb2, hc2⟩ := HU4.out k (by have := Hl1.out; omega)
          obtain ⟨b3, off3, rfl, hb3, hc3⟩ := HV.out k (by have := Hl2.out; omega)
          have ru : ∀ y : Since y4.w, y.w.cell? ⟨b2, off2 + k, none⟩ = some (.int .i64 (at0 us k)) := Since.cell hc2 hb2
          have rv : ∀ y : Since y4.w, y.w.cell? ⟨b3, off3 + k, none⟩ = some (.int .i64 (at0 vs k)) := Since.cell hc3 hb3
          have hk0 : (0 : Int) ≤ (k : Int) := by omega
          have hkl : (k : Int) < (R.length : Int) := by omega
          have hku : (k : Int) < (us.length : Int) := by have := Hl1.out; omega
          have hkv : (k : Int) < (vs.length : Int) := by have := Hl2.out; omega
          have Hbc := Lib.hid (fun q : Since y4.w => rbefore_calls y4.w q e r)
          clear h1' he hb2 hc2 hb3 hc3
          cases hbf : bef e r with
          | false =>
            rw [hbf] at Hbc
            clear hbf
            go_wp2_with fail
            refine wp_region_since (by kernel_rfl) (by kernel_rfl) ?_
            repeat (go_big_quiet_step ((go_at_call 20; exact Hbc.out _)))
            refine wpQuiet_nil ?_
            rintro _ ⟨z, rfl⟩
            go_wp2_with fail
            go_roundw
            case rel => exact ⟨k + 1, z, by omega, by go_num, rfl⟩
            case measure => simp [intOf] <;> omega
          | true =>
            have huv : at0 us k = at0 vs k := Hlater.out k hlt (by rw [He.out]; exact hbf)
            rw [huv] at ru
            have hvv : (at0 vs k != at0 vs k) = false := by simp
            rw [hbf] at Hbc
            clear hbf huv
            go_wp2_with fail
            refine wp_region_since (by kernel_rfl) (by kernel_rfl) ?_
            repeat (go_big_quiet_step ((go_at_call 20; exact Hbc.out _)))
            refine wpQuiet_nil ?_
            rintro _ ⟨z, rfl⟩
            go_wp2_with fail
            go_roundw
            case rel => exact ⟨k + 1, z, by omega, by go_num, rfl⟩
            case measure => simp [intOf] <;> omega
        · obtain rfl : k = R.length := by omega
          obtain ⟨y6, h6⟩ := Hup4.out y5
          rw [h6]
          clear h6 rb0 rb1 rb2 rb3 rb4 rb5 rb6 rb7 rb8 rb9 rb10 rb11 rb12
          go_wp2_with (go_at_call 9; ((with_reducible refine (Ha.out _).mono ?_); rintro _ _ ⟨rfl, y7, rfl⟩))
          go_ret
          exact ⟨rfl, Hup.out _⟩
end Go.Proofs.Ytbkfcdheckkjaaa
/- The law PassRiders, walked. -/
namespace Go.Proofs.Ytbkfcdheckkjaaa
open Go.RowKit

theorem own_other {w w' : World} {b1 b2 : Nat} {e1 e2 : TypeId} {s1 s2 n1 n2 : Nat} {v1 v2 : Value} {xs1 xs2 : List Value} (h1 : w.ownsRow b1 e1 s1 v1 n1 xs1) (h2 : w.ownsRow b2 e2 s2 v2 n2 xs2) (hne : e1 ≠ e2) (hg : w.grownBy w' v1.ownBlock) : w'.ownsRow b2 e2 s2 v2 n2 xs2 := by
  refine own_keep h2 hg fun b hb he => ?_
  obtain ⟨_, ⟨rfl, _⟩ | ⟨g, cap, cur, rfl, _, hh, _⟩⟩ := h1
  · simp [Value.ownBlock] at he
  · obtain ⟨_, ⟨rfl, _⟩ | ⟨g', cap', cur', rfl, _, hh', _⟩⟩ := h2
    · simp [Value.ownBlock] at hb
    · simp only [Value.ownBlock, Option.some.injEq] at hb he
      have : g' = g := hb.trans he
      subst this
      rw [hh] at hh'
      simp only [Option.some.injEq, Obj.cells.injEq] at hh'
      exact hne hh'.2.1
def natI (l : List Nat) : List Value := l.map fun (k : Nat) => Value.int .i64 (k : Int)
theorem sInt' : SliceOf Try.prog 29 3 (.int .i64 0) 1 8 := sInt
set_option maxRecDepth 100000 in
set_option maxHeartbeats 16000000 in
theorem passRiders_calls (w : World) (x : Since w) (pa : Option Addr) (lp : List Pass) (pc : Nat) (a : Option Addr) (R : List Ride) (c : Nat) (rd : Int) (hp : PassRow w pa lp) (hpl : lp.length ≤ 9223372036854775807) (h : RideRow w a R) (hl : R.length ≤ 9223372036854775807) :
    Calls Try.prog 8 #[.slice pa lp.length pc, .slice a R.length c, .int .i64 rd] x.w fun o w' => o = .returned (.bool true) ∧ ∃ y : Since w, w' = y.w := by
  have Ha := Lib.hid (fun y : Since w => awake_calls w y)
  have Hf := Lib.hid (fun y : Since w => few_calls w y a R c 30 h hl)
  have Hp := Lib.hid (fun y : Since w => useX_s w y pa lp pc a R c (Since.els hp y) hpl (h.since y) hl)
  have HP := Lib.hid hp
  have HR := Lib.hid h
  clear h hp
  rcases few_cases lp R with hb | ⟨hb, hf⟩ | ⟨hb, hf, hR⟩
  · go_enter Try.func8, Try.ntmps8
    go_wp2_with (go_at_call 9; ((with_reducible refine (Ha.out _).mono ?_); rintro _ _ ⟨rfl, y1, rfl⟩))
    go_ret
    exact ⟨rfl, _, rfl⟩
  · rw [hf] at Hf
    clear hf
    go_enter Try.func8, Try.ntmps8
    go_wp2_with (first | (go_at_call 12; ((with_reducible refine (Hf.out _).mono ?_); rintro _ _ ⟨rfl, y1, rfl⟩)) | (go_at_call 9; ((with_reducible refine (Ha.out _).mono ?_); rintro _ _ ⟨rfl, y1, rfl⟩)))
    go_ret
    exact ⟨rfl, _, rfl⟩
  rw [hf] at Hf
  clear hf
  go_enter Try.func8, Try.ntmps8
  go_upto_region 3 with (go_at_call 12; ((with_reducible refine (Hf.out _).mono ?_); rintro _ _ ⟨rfl, y1, rfl⟩))
  go_upto_region 4 with (go_at_call 13; ((with_reducible refine (Hp.out _).mono ?_); rintro _ _ ⟨ua, uc, us, y2, rfl, rfl, hz, hu, hU⟩; have HU := Lib.hid hu; have HOk := Lib.hid hU; clear hz hu hU))
  clear Hp Hf
  by_cases hz : usesE lp R = 0
  case neg =>
    have hzb : (usesE lp R != 0) = true := by simpa using hz
    clear hz HOk
    generalize usesE lp R = ue at *
    go_wp2_with (go_at_call 9; ((with_reducible refine (Ha.out _).mono ?_); rintro _ _ ⟨rfl, y1, rfl⟩))
    go_ret
    exact ⟨rfl, _, rfl⟩
  obtain ⟨hz1, hz2⟩ := usesE_zero hz
  obtain ⟨hlen, hIs⟩ := HOk.out.ok hz
  have HIs := Lib.hid hIs
  have hlb : ((us.length : Int) != (R.length : Int)) = false := by simp; omega
  have Hlen := Lib.hid hlen
  have Hz := Lib.hid hz
  have Hsub := Lib.hid (sub_e (P := fun p => decide (p.rd = rd)) (Q := fun p => decide (p.rd = rd)) hz)
  have hlp64 := (passE_zero hz1).1
  rw [hz]
  clear hz hz1 hz2 hIs hlen HOk
  go_wp2_with fail
  go_loopw [9, 10, 11] (fun v9 v10 s wr => ∃ (k m : Nat) (y : Since y2.w), k ≤ lp.length ∧ m ≤ k ∧ s = .int .i64 k ∧ wr = y.w ∧ y.w.ownsRow y2.w.heap.size 49 6 v9 m (flat Pass.cs ((lp.take k).filter fun p => decide (p.rd = rd))) ∧ y.w.ownsRow y2.w.heap.size 3 1 v10 m (natI (idxs (fun k => decide ((pAt lp k).rd = rd)) k))) (fun _ _ s _ => lp.length - (intOf s).toNat)
  case atStart => exact ⟨0, 0, Since.self _, by omega, by omega, rfl, rfl, by rw [List.take_zero]; exact ⟨rfl, .inl ⟨rfl, rfl⟩⟩, ⟨rfl, .inl ⟨rfl, rfl⟩⟩⟩
  case round =>
    obtain ⟨k, m, y, hk, hmk, rfl, rfl, hown1, hown2⟩ := hrel
    have Hown1 := Lib.hid hown1; have Hown2 := Lib.hid hown2
    clear hown1 hown2
    by_cases hlt : k < lp.length
    · obtain ⟨p, hp⟩ : ∃ p, lp[k]? = some p := ⟨_, List.getElem?_eq_getElem hlt⟩
      have hk0 : (0 : Int) ≤ (k : Int) := by omega
      have hkl : (k : Int) < (lp.length : Int) := by omega
      have Htk := Lib.hid (show (lp.take (k + 1)).filter (fun p => decide (p.rd = rd)) = (lp.take k).filter (fun p => decide (p.rd = rd)) ++ [p].filter (fun p => decide (p.rd = rd)) by
        rw [List.take_add_one, hp, List.filter_append]; rfl)
      have Hix := Lib.hid (idxs_succ (fun k => decide ((pAt lp k).rd = rd)) k)
      rw [pAt_eq hp] at Hix
      obtain ⟨b1, off1, rfl, h1'⟩ := Els.pass (Since.els HP.out y2) hp
      have pa0 := h1'.c0
      have pa1 := h1'.c1
      have pa2 := h1'.c2
      have pa3 := h1'.c3
      have pa4 := h1'.c4
      have pa5 := h1'.c5
      clear h1' hp
      by_cases hr : p.rd = rd
      · have hrb : (p.rd == rd) = true := by simpa using hr
        have Hf := Lib.hid (show flat Pass.cs ((lp.take (k + 1)).filter fun p => decide (p.rd = rd)) = flat Pass.cs ((lp.take k).filter fun p => decide (p.rd = rd)) ++ p.cs by
          rw [Htk.out, flat_append, List.filter_cons, if_pos (by simpa using hr), List.filter_nil, flat_one])
        have Hi := Lib.hid (show natI (idxs (fun k => decide ((pAt lp k).rd = rd)) (k + 1)) = natI (idxs (fun k => decide ((pAt lp k).rd = rd)) k) ++ [.int .i64 (k : Int)] by
          rw [Hix.out, if_pos (by simpa using hr)]; simp [natI])
        clear hr Htk Hix
        go_upto_region 15 with (at_builtin; (refine wpList_appendK (w0 := y2.w) ?hw rfl _ _ 22 rfl y2.w.heap.size (Nat.le_refl _) ?hb 49 (.agg #[.int .i64 0, .int .i64 0, .int .i64 0, .int .i64 0, .int .i64 0, .int .i64 0]) 48 sPass u9 m (flat Pass.cs ((lp.take k).filter fun p => decide (p.rd = rd))) rfl ?hown ⟨y.w.heap.size, 0, none⟩ 1 1 p.cs rfl rfl ?hc (pass_one _) ?h63 ?hbytes ?_; rotate_right 1; intro v2 q2 hown4 hb4 hg4))
        case hw => exact IsSince.alloc (IsSince.of y) _
        case hb => have := y.b.size; simp; omega
        case hown => exact own_to Hown1.out (IsSince.alloc (IsSince.self _) _)
        case hc => exact cell_new_at y.w p.cs _
        case h63 => unfold maxLen; omega
        case hbytes => omega
        have hown5 := own_other (own_to Hown1.out (IsSince.alloc (IsSince.self _) (.cells p.cs.toArray 49))) (own_to Hown2.out (IsSince.alloc (IsSince.self _) (.cells p.cs.toArray 49))) (by decide) hg4
        rw [← Hf.out] at hown4
        replace Hown1 := Lib.hid hown4; replace Hown2 := Lib.hid hown5
        clear hown4 hown5 hb4 hg4
        go_wp2_with (at_builtin; (refine wpList_appendK (k := 1) (w0 := y2.w) ?hw rfl _ _ 29 rfl y2.w.heap.size (Nat.le_refl _) ?hb 3 (.int .i64 0) 8 sInt u10 m (natI (idxs (fun k => decide ((pAt lp k).rd = rd)) k)) rfl ?hown ⟨q2.w.heap.size, 0, none⟩ 1 1 [.int .i64 (k : Int)] rfl rfl ?hc (fun u hu => by simp at hu; subst hu; rfl) ?h63 ?hbytes ?_; rotate_right 1; intro v3 q3 hown4 hb4 hg4))
        case hw => exact IsSince.alloc (IsSince.of q2) _
        case hb => have := q2.b.size; simp; omega
        case hown => exact own_to Hown2.out (IsSince.alloc (IsSince.self _) _)
        case hc => exact cell_new_at q2.w [.int .i64 (k : Int)] _
        case h63 => unfold maxLen; omega
        case hbytes => omega
        have hown5 := own_other (own_to Hown2.out (IsSince.alloc (IsSince.self _) (.cells #[.int .i64 (k : Int)] 3))) (own_to Hown1.out (IsSince.alloc (IsSince.self _) (.cells #[.int .i64 (k : Int)] 3))) (by decide) hg4
        rw [← Hi.out] at hown4
        replace Hown1 := Lib.hid hown5; replace Hown2 := Lib.hid hown4
        clear hown4 hown5 hb4 hg4
        go_wp2_with fail
        go_roundw
        case rel => exact ⟨k + 1, m + 1, q3, by omega, by omega, by go_num, rfl, Hown1.out, Hown2.out⟩
        case measure => simp [intOf] <;> omega
      · have hrb : (p.rd == rd) = false := by simpa using hr
        have Hf := Lib.hid (show (lp.take (k + 1)).filter (fun p => decide (p.rd = rd)) = (lp.take k).filter fun p => decide (p.rd = rd) by
          rw [Htk.out, List.filter_cons, if_neg (by simpa using hr), List.filter_nil, List.append_nil])
        have Hi := Lib.hid (show idxs (fun k => decide ((pAt lp k).rd = rd)) (k + 1) = idxs (fun k => decide ((pAt lp k).rd = rd)) k by
          rw [Hix.out, if_neg (by simpa using hr), List.append_nil])
        clear hr Htk Hix
        go_wp2_with fail
        go_roundw
        case rel => exact ⟨k + 1, m, y, by omega, by omega, by go_num, rfl, by rw [Hf.out]; exact Hown1.out, by rw [Hi.out]; exact Hown2.out⟩
        case measure => simp [intOf] <;> omega
    · obtain rfl : k = lp.length := by omega
      obtain ⟨hlen1, a3, c3, rfl, hc3, he3, _, _⟩ := own_els Pass.len (by decide) Hown1.out
      obtain ⟨a4, c4, rfl, hc4, he4, _⟩ := own_row Hown2.out
      rw [List.take_length] at he3 hlen1 hc3 ⊢
      have hm4 : m = (pIx lp rd).length := by rw [hlen1, own_passes, List.length_map]
      subst hm4
      have HA := Lib.hid (show FunRow y.w a4 (pIx lp rd).length (fun j => ((pIx lp rd).getD j 0 : Nat)) from he4.congr fun j hj => by
        show (natI (pIx lp rd)).getD j undef = _
        simp [natI, List.getD_eq_getElem?_getD, hj])
      have HE := Lib.hid he3
      clear he3 he4 hc3 hc4 Hown1 Hown2 hlen1 hmk hk
      generalize hown : (lp.filter fun p => decide (p.rd = rd)) = own at *
      have Hown := Lib.hid hown
      clear hown
      have HRy := Lib.hid ((HR.out.since y2).since y)
      have HUy := Lib.hid (Since.row HU.out y)
      obtain ⟨yw, hyw⟩ := y2.trans y
      have Hyw := Lib.hid hyw
      clear hyw
      obtain ⟨q0, hq0⟩ := Since.refl y.w
      rw [hq0]
      clear hq0
      go_wp2_with fail
      refine (of_calls y.w _ a R c rd HRy.out (by omega)).mono ?_
      rintro _ _ ⟨a5, c5, y5, rfl, rfl, h5, _⟩
      have H5 := Lib.hid h5
      clear h5
      have Hofl := Lib.hid (show (R.filter fun r => decide (r.rd = rd)).length ≤ 30 by have := List.length_filter_le (fun r : Ride => decide (r.rd = rd)) R; omega)
      have Hofn := Lib.hid (show (R.filter fun r => decide (r.rd = rd)).length = (rIx R rd).length by rw [own_rides, List.length_map])
      have Hownl := Lib.hid (show own.length ≤ 64 by rw [← Hown.out]; have := List.length_filter_le (fun r : Pass => decide (r.rd = rd)) lp; omega)
      have Hrid := Lib.hid (fun (v : Nat → Int) (hv : IsUse own (R.filter fun r => decide (r.rd = rd)) v) => riders_use (rd := rd) HIs.out (by rw [Hown.out]; exact hv))
      generalize hof : (R.filter fun r => decide (r.rd = rd)) = of at *
      have Hof := Lib.hid hof
      clear hof
      have Huse := Lib.hid (useX_s y.w y5 a3 own c3 a5 of c5 (Since.els HE.out y5) (by have := Hownl.out; omega) H5.out (by have := Hofl.out; omega))
      rw [Hsub.out] at Huse
      go_wp2_with fail
      refine Huse.out.mono ?_
      rintro _ _ ⟨va, vc, vs, y6, rfl, rfl, _, hv, hV⟩
      obtain ⟨hvl, hvI⟩ := hV.ok Hsub.out
      have Hvl := Lib.hid (hvl.trans Hofn.out)
      have HV := Lib.hid hv
      have Hr2 := Lib.hid (Hrid.out _ hvI)
      have HvR := Lib.hid (fun n hn => hvI.range (i := n) (show n < of.length by rw [Hofn.out]; exact hn))
      have Howl := Lib.hid (show own.length = (pIx lp rd).length by rw [← Hown.out, own_passes, List.length_map])
      have HA6 := Lib.hid (Since.row HA.out y6)
      have HU6 := Lib.hid (Since.row HUy.out y6)
      have HR6 := Lib.hid (HRy.out.since y6)
      obtain ⟨yz, hyz⟩ := y.trans y6
      have Hy6 := Lib.hid (show ∃ y : Since w, y6.w = y.w by
        obtain ⟨u, hu⟩ := y2.trans yz
        exact ⟨u, by rw [hyz]; exact hu⟩)
      clear hv hV hvl hvI Huse HA HUy HRy H5 HE hyz Hrid
      go_wp2_with fail
      go_loopw [14, 15, 16] (fun sn si _ wr => ∃ (k : Nat) (y : Since y6.w), k ≤ R.length ∧ si = .int .i64 k ∧ sn = .int .i64 ((idxs (fun j => decide ((rAt R j).rd = rd)) k).length : Nat) ∧ wr = y.w) (fun _ si _ _ => R.length - (intOf si).toNat)
      case atStart => exact ⟨0, Since.self _, by omega, rfl, rfl, rfl⟩
      case round =>
        obtain ⟨k, y7, hk, rfl, rfl, rfl⟩ := hrel
        by_cases hlt : k < R.length
        · obtain ⟨e, he⟩ : ∃ e, R[k]? = some e := ⟨_, List.getElem?_eq_getElem hlt⟩
          have He := Lib.hid (rAt_eq he)
          obtain ⟨b1, off1, rfl, h1'⟩ := Els.ride HR6.out.c he
          have ra1 := h1'.c1
          have hk0 : (0 : Int) ≤ (k : Int) := by omega
          have hkl : (k : Int) < (R.length : Int) := by omega
          have hku : (k : Int) < (us.length : Int) := by have := Hlen.out; omega
          have Hix := Lib.hid (idxs_succ (fun j => decide ((rAt R j).rd = rd)) k)
          rw [rAt_eq he] at Hix
          clear h1' he
          by_cases hr : e.rd = rd
          · have hrb : (e.rd != rd) = false := by simpa using hr
            have Hn2 := Lib.hid (show (idxs (fun j => decide ((rAt R j).rd = rd)) (k + 1)).length = (idxs (fun j => decide ((rAt R j).rd = rd)) k).length + 1 by
              rw [Hix.out, if_pos (by simpa using hr)]; simp)
            obtain ⟨hn1, hn2⟩ := idxs_pos (p := fun j => decide ((rAt R j).rd = rd)) (k := k) (by rw [He.out]; simpa using hr) R.length hlt
            have Hn3 := Lib.hid hn2
            have hn4 : (idxs (fun j => decide ((rAt R j).rd = rd)) k).length < (rIx R rd).length := hn1
            clear hn1 hn2 hr Hix
            generalize hnn : (idxs (fun j => decide ((rAt R j).rd = rd)) k).length = nn at *
            have Hnn := Lib.hid hnn
            clear hnn
            have hnv : (nn : Int) < (vs.length : Int) := by have := Hvl.out; omega
            have hnv' : nn < vs.length := by have := Hvl.out; omega
            have hnn0 : (0 : Int) ≤ (nn : Int) := by omega
            have hnnb : (nn : Int) ≤ 30 := by have := Hofl.out; have := Hofn.out; omega
            obtain ⟨b2, off2, rfl, hb2, hc2⟩ := HU6.out k (by have := Hlen.out; omega)
            obtain ⟨b3, off3, rfl, hb3, hc3⟩ := HV.out nn hnv'
            have rb : ∀ y : Since y6.w, y.w.cell? ⟨b2, off2 + k, none⟩ = some (.int .i64 (at0 us k)) := Since.cell hc2 hb2
            have rc : ∀ y : Since y6.w, y.w.cell? ⟨b3, off3 + nn, none⟩ = some (.int .i64 (at0 vs nn)) := Since.cell hc3 hb3
            have hus : at0 us k = lift lp rd (at0 vs nn) := by
              have := Hr2.out nn hn4
              rw [show (rIx R rd).getD nn 0 = k from Hn3.out] at this
              exact this
            obtain ⟨hv0, hv1⟩ := HvR.out nn hn4
            clear hb2 hc2 hb3 hc3
            rcases (by omega : at0 vs nn = -1 ∨ 0 ≤ at0 vs nn) with hvn | hvn
            · rw [hvn] at rc
              rw [hus, hvn, show lift lp rd (-1) = -1 from rfl] at rb
              clear hus hvn hv0 hv1
              go_wp2_with fail
              go_roundw
              case rel => exact ⟨k + 1, y7, by omega, by go_num, by rw [Hn2.out]; go_num, rfl⟩
              case measure => simp [intOf] <;> omega
            · obtain ⟨m0, hm0⟩ : ∃ m0 : Nat, at0 vs nn = m0 := ⟨(at0 vs nn).toNat, by omega⟩
              have hm1 : m0 < (pIx lp rd).length := by have := Howl.out; omega
              have hl : lift lp rd (m0 : Int) = ((pIx lp rd).getD m0 0 : Nat) := by unfold lift; rw [if_pos (by omega)]; simp
              obtain ⟨b4, off4, rfl, hb4, hc4⟩ := HA6.out m0 hm1
              have rd4 : ∀ y : Since y6.w, y.w.cell? ⟨b4, off4 + m0, none⟩ = some (.int .i64 ((pIx lp rd).getD m0 0 : Nat)) := Since.cell hc4 hb4
              rw [hm0] at rc
              rw [hus, hm0, hl] at rb
              have hm2 : (0 : Int) ≤ (m0 : Int) := by omega
              have hm3 : (m0 : Int) < ((pIx lp rd).length : Int) := by omega
              generalize (pIx lp rd).getD m0 0 = zz at *
              have hzz : ((zz : Int) != (zz : Int)) = false := by simp
              clear hus hvn hv0 hv1 hm0 hl hb4 hc4
              go_wp2_with fail
              go_roundw
              case rel => exact ⟨k + 1, y7, by omega, by go_num, by rw [Hn2.out]; go_num, rfl⟩
              case measure => simp [intOf] <;> omega
          · have hrb : (e.rd != rd) = true := by simpa using hr
            have Hn2 := Lib.hid (show (idxs (fun j => decide ((rAt R j).rd = rd)) (k + 1)).length = (idxs (fun j => decide ((rAt R j).rd = rd)) k).length by
              rw [Hix.out, if_neg (by simpa using hr), List.append_nil])
            clear hr Hix
            go_wp2_with fail
            go_roundw
            case rel => exact ⟨k + 1, y7, by omega, by go_num, by rw [Hn2.out], rfl⟩
            case measure => simp [intOf] <;> omega
        · obtain rfl : k = R.length := by omega
          have hee : (((idxs (fun j => decide ((rAt R j).rd = rd)) R.length).length : Int) == (vs.length : Int)) = true := by
            have : (idxs (fun j => decide ((rAt R j).rd = rd)) R.length).length = vs.length := Hvl.out.symm
            rw [this]; simp
          obtain ⟨y8, h8⟩ := Hy6.out
          obtain ⟨y9, h9⟩ : ∃ y : Since w, y7.w = y.w := by
            obtain ⟨b, hb⟩ := y7
            obtain ⟨z, hz⟩ := y8.step (w := b) (by rw [← h8]; exact hb)
            exact ⟨z, hz⟩
          rw [h9]
          clear h8 h9
          go_wp2_with (go_at_call 9; ((with_reducible refine (Ha.out _).mono ?_); rintro _ _ ⟨rfl, y10, rfl⟩))
          go_ret
          exact ⟨rfl, _, rfl⟩
end Go.Proofs.Ytbkfcdheckkjaaa
