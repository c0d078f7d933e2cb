/- Trips between zones: tables of a part of the rides, of the rides in another order, of a part of the window; sums of cells: plain mathematics of the laws. -/
import Derived.Test.YtdmmjapccgeffaaTrMg
import Derived.IntWalk
set_option linter.all false
namespace Go.Proofs.Ytdmmjapccgeffaa
open Go.RowKit

theorem nodup_lt_lenT : ∀ (n : Nat) (l : List Nat), l.Nodup → (∀ x ∈ l, x < n) → l.length ≤ n
  | 0, [], _, _ => Nat.le_refl _
  | 0, x :: l, _, h => by have := h x (by simp); omega
  | n + 1, l, hn, h => by
    by_cases hm : n ∈ l
    · have h1 := nodup_lt_lenT n (l.erase n) (hn.erase n) (fun x hx => by
        have := h x (List.mem_of_mem_erase hx)
        have hne : x ≠ n := by rintro rfl; exact hn.not_mem_erase hx
        omega)
      have := List.length_erase_of_mem hm
      omega
    · have h1 := nodup_lt_lenT n l hn (fun x hx => by
        have := h x hx
        have hne : x ≠ n := by rintro rfl; exact hm hx
        omega)
      omega
/-- sums -/
def sumN (f : Nat → Int) : Nat → Int
  | 0 => 0
  | n + 1 => sumN f n + f n
theorem sumN_congr {f g : Nat → Int} : ∀ n, (∀ i, i < n → f i = g i) → sumN f n = sumN g n
  | 0, _ => rfl
  | n + 1, h => by simp only [sumN]; rw [sumN_congr n fun i hi => h i (by omega), h n (by omega)]
theorem sumN_add (f g : Nat → Int) : ∀ n, sumN (fun i => f i + g i) n = sumN f n + sumN g n
  | 0 => rfl
  | n + 1 => by simp only [sumN]; rw [sumN_add f g n]; omega
theorem sumN_zero : ∀ n, sumN (fun _ => 0) n = 0
  | 0 => rfl
  | n + 1 => by simp only [sumN]; rw [sumN_zero n]; rfl
theorem sumN_one (c : Int) : ∀ n : Nat, sumN (fun i => if c = (i : Int) then 1 else 0) n = if 0 ≤ c ∧ c < n then 1 else 0
  | 0 => by simp only [sumN]; rw [if_neg (by omega)]
  | n + 1 => by
    simp only [sumN]
    rw [sumN_one c n]
    by_cases h1 : c = (n : Int)
    · rw [if_pos h1, if_neg (by omega), if_pos (by omega)]; rfl
    · rw [if_neg h1]
      by_cases h2 : 0 ≤ c ∧ c < n
      · rw [if_pos h2, if_pos (by omega)]; rfl
      · rw [if_neg h2, if_neg (by omega)]; rfl
theorem sumN_nonneg {f : Nat → Int} (h : ∀ i, 0 ≤ f i) : ∀ n, 0 ≤ sumN f n
  | 0 => Int.le_refl _
  | n + 1 => by have := sumN_nonneg h n; have := h n; simp only [sumN]; omega
theorem sumN_mono {f : Nat → Int} (h : ∀ i, 0 ≤ f i) {m n : Nat} (hm : m ≤ n) : sumN f m ≤ sumN f n := by
  induction n with
  | zero =>
    obtain rfl : m = 0 := by omega
    exact Int.le_refl _
  | succ n ih =>
    by_cases hc : m ≤ n
    · have := ih hc; have := h n; simp only [sumN]; omega
    · obtain rfl : m = n + 1 := by omega
      exact Int.le_refl _
/-- the error of rides -/
theorem ridesE_of {R : List Ride} (h1 : R.length ≤ 256) (h2 : (R.map fun r : Ride => r.id).Nodup) (h3 : ∀ r ∈ R, rideE r = 0) : ridesE R = 0 := by
  unfold ridesE
  have hf : firstErr R = 0 := by
    unfold firstErr
    rw [List.find?_eq_none.2 (fun r hr => by rw [h3 r hr]; simp)]
  rw [if_neg (by omega), if_neg (by rw [hf]; simp), dupB_false h2]; rfl
theorem ridesE_sub {R S : List Ride} (h : ridesE R = 0) (hs : S.Sublist R) : ridesE S = 0 := by
  obtain ⟨h1, h2, h3⟩ := ridesE_zero h
  exact ridesE_of (Nat.le_trans hs.length_le h1) (h2.sublist (hs.map _)) fun r hr => h3 r (hs.subset hr)
theorem ridesE_perm {R S : List Ride} (h : ridesE R = 0) (hs : S.Perm R) : ridesE S = 0 := by
  obtain ⟨h1, h2, h3⟩ := ridesE_zero h
  exact ridesE_of (by rw [hs.length_eq]; exact h1) ((hs.map _).symm.nodup h2) fun r hr => h3 r (hs.mem_iff.1 hr)
theorem eachE_of {R S : List Ride} {each : Int} (h : eachE R each = 0) (hs : ridesE R = 0 → ridesE S = 0) : eachE S each = 0 := by
  obtain ⟨h0, h1, h2⟩ := eachE_zero h
  unfold eachE
  rw [if_neg (by omega)]; exact hs h2
/-- when a table has no error -/
def tabOk0 (zs : List Int) (size : Int) (R : List Ride) (f t each : Int) : Prop :=
  (1 ≤ size ∧ size ≤ 8 ∧ 0 ≤ f ∧ f ≤ t ∧ t ≤ 4294944000) ∧ eachE R each = 0 ∧ ∀ r ∈ cntL R each f t, endE zs r = 0 ∧ bigR zs size r = false
theorem endsE_zero {zs : List Int} {L : List Ride} (h : endsE zs L = 0) : ∀ r ∈ L, endE zs r = 0 := by
  intro r hr
  unfold endsE at h
  cases hf : L.find? (fun r => endE zs r != 0) with
  | none =>
    rw [List.find?_eq_none] at hf
    simpa using hf r hr
  | some x =>
    rw [hf] at h
    have := List.find?_some hf
    simp at this
    exact (this h).elim
theorem tabE_zero (zs : List Int) (size : Int) (R : List Ride) (f t each : Int) : tabE zs size R f t each = 0 ↔ tabOk0 zs size R f t each := by
  unfold tabE tabOk0
  by_cases h1 : size < 1 ∨ 8 < size ∨ f < 0 ∨ t < f ∨ 4294944000 < t
  · rw [if_pos h1]
    constructor
    · intro h; cases h
    · rintro ⟨h, _⟩; omega
  rw [if_neg h1]
  by_cases h2 : eachE R each ≠ 0
  · rw [if_pos h2]
    exact ⟨fun h => (h2 h).elim, fun h => (h2 h.2.1).elim⟩
  rw [if_neg h2]
  have h2' : eachE R each = 0 := by simpa using h2
  by_cases h3 : endsE zs (cntL R each f t) ≠ 0
  · rw [if_pos h3]
    exact ⟨fun h => (h3 h).elim, fun h => (h3 (endsE_no fun r hr => (h.2.2 r hr).1)).elim⟩
  rw [if_neg h3]
  have h3' : endsE zs (cntL R each f t) = 0 := by simpa using h3
  by_cases h4 : (cntL R each f t).any (bigR zs size) = true
  · rw [if_pos h4]
    constructor
    · intro h; cases h
    · intro h
      obtain ⟨r, hr, hb⟩ := List.any_eq_true.1 h4
      rw [(h.2.2 r hr).2] at hb; cases hb
  · rw [if_neg h4]
    refine ⟨fun _ => ⟨by omega, h2', fun r hr => ⟨endsE_zero h3' r hr, ?_⟩⟩, fun _ => rfl⟩
    cases hb : bigR zs size r
    · rfl
    · exact (h4 (List.any_eq_true.2 ⟨r, hr, hb⟩)).elim
theorem tabV_ok {zs : List Int} {size : Int} {R : List Ride} {f t each : Int} (h : tabE zs size R f t each = 0) : tabV zs size R f t each = ⟨size, size, cells zs size (cntL R each f t)⟩ := if_pos h
theorem tabV_no {zs : List Int} {size : Int} {R : List Ride} {f t each : Int} (h : tabE zs size R f t each ≠ 0) : tabV zs size R f t each = tab0 := if_neg h
theorem cells_len (zs : List Int) (size : Int) (L : List Ride) : (cells zs size L).length = (size * size).toNat := by simp [cells]
theorem cells_at {zs : List Int} {size : Int} {L : List Ride} {i : Nat} (h : i < (size * size).toNat) : at0 (cells zs size L) i = celN zs size L i := by
  simp [at0, cells, List.getD_eq_getElem?_getD, h]
/-- the sum of the cells -/
theorem celN_cons (zs : List Int) (size : Int) (r : Ride) (L : List Ride) (i : Nat) : celN zs size (r :: L) i = celN zs size L i + if (!bigR zs size r && decide (celR zs size r = (i : Int))) = true then 1 else 0 := by
  unfold celN
  rw [List.filter_cons]
  by_cases h : (!bigR zs size r && decide (celR zs size r = (i : Int))) = true
  · rw [if_pos h, if_pos h, List.length_cons]; push_cast; rfl
  · rw [if_neg h, if_neg h]; omega
theorem cel_in {zs : List Int} {size : Int} {r : Ride} (hs : 1 ≤ size ∧ size ≤ 8) (he : endE zs r = 0) (hb : bigR zs size r = false) : 0 ≤ celR zs size r ∧ celR zs size r < (size * size).toNat := by
  obtain ⟨_, _, ⟨a1, a2⟩, b1, b2⟩ := ends_zero he
  unfold bigR at hb
  rw [Bool.or_eq_false_iff, decide_eq_false_iff_not, decide_eq_false_iff_not] at hb
  have h := tab_idx a1 (by omega : fromZ zs r < size) b1 (by omega : toZ zs r < size) hs.2
  have hp : 0 ≤ size * size := Int.mul_nonneg (by omega) (by omega)
  unfold celR
  omega
theorem sum_cells {zs : List Int} {size : Int} (hs : 1 ≤ size ∧ size ≤ 8) : ∀ L : List Ride, (∀ r ∈ L, endE zs r = 0 ∧ bigR zs size r = false) → sumN (celN zs size L) (size * size).toNat = L.length
  | [], _ => by
    have : celN zs size [] = fun _ => 0 := by funext i; rfl
    rw [this, sumN_zero]; rfl
  | r :: L, h => by
    have ih := sum_cells hs L fun x hx => h x (List.mem_cons_of_mem _ hx)
    obtain ⟨he, hb⟩ := h r (by simp)
    have hf : celN zs size (r :: L) = fun i => celN zs size L i + if celR zs size r = (i : Int) then 1 else 0 := by
      funext i
      rw [celN_cons, hb]
      simp
    rw [hf, sumN_add, ih, sumN_one, if_pos (cel_in hs he hb), List.length_cons]; push_cast; rfl
theorem celN_part (zs : List Int) (size : Int) (q : Ride → Bool) (i : Nat) : ∀ L : List Ride, celN zs size L i = celN zs size (L.filter fun r => !q r) i + celN zs size (L.filter q) i
  | [] => rfl
  | r :: L => by
    have ih := celN_part zs size q i L
    rw [celN_cons, ih, List.filter_cons, List.filter_cons]
    cases hq : q r
    · simp only [Bool.not_false, if_true, Bool.false_eq_true, if_false]; rw [celN_cons]; omega
    · simp only [Bool.not_true, if_true, Bool.false_eq_true, if_false]; rw [celN_cons]; omega
/-- rides that are a part by rider and day -/
theorem ahd_part {R : List Ride} {q : Ride → Bool} (hq : ∀ r s, key r = key s → q r = q s) {x : Ride} (hx : q x = true) : ahd (R.filter q) x = ahd R x := by
  unfold ahd
  rw [List.filter_filter]
  congr 1
  refine List.filter_congr fun r _ => ?_
  cases hk : ofK (key x) r
  · simp
  · have : key r = key x := by
      unfold ofK at hk
      rw [Bool.and_eq_true, decide_eq_true_eq] at hk; exact hk.2
    rw [hq r x this, hx, Bool.and_true]
theorem eachL_part {R : List Ride} {q : Ride → Bool} (hq : ∀ r s, key r = key s → q r = q s) (each : Int) : eachL (R.filter q) each = (eachL R each).filter q := by
  unfold eachL
  rw [List.filter_filter, List.filter_filter]
  refine List.filter_congr fun r _ => ?_
  cases hr : q r
  · simp
  · unfold ctd
    rw [ahd_part hq hr]; simp
theorem cntL_part {R : List Ride} {q : Ride → Bool} (hq : ∀ r s, key r = key s → q r = q s) (each f t : Int) : cntL (R.filter q) each f t = (cntL R each f t).filter q := by
  unfold cntL
  rw [eachL_part hq, List.filter_filter, List.filter_filter]
  exact List.filter_congr fun r _ => Bool.and_comm _ _
theorem tabE_part {zs : List Int} {size : Int} {R : List Ride} {f t each : Int} {q : Ride → Bool} (hq : ∀ r s, key r = key s → q r = q s) (h : tabE zs size R f t each = 0) : tabE zs size (R.filter q) f t each = 0 := by
  rw [tabE_zero] at h ⊢
  obtain ⟨h1, h2, h3⟩ := h
  refine ⟨h1, eachE_of h2 fun h => ridesE_sub h List.filter_sublist, fun r hr => ?_⟩
  rw [cntL_part hq] at hr
  exact h3 r (List.mem_filter.1 hr).1
/-- at most so many of a rider and day -/
theorem filter_leT {α : Type} {p q : α → Bool} : ∀ L : List α, (∀ x, p x = true → q x = true) → (L.filter p).length ≤ (L.filter q).length
  | [], _ => Nat.le_refl _
  | x :: L, h => by
    have ih := filter_leT L h
    rw [List.filter_cons, List.filter_cons]
    cases hp : p x
    · cases hq : q x
      · simpa using ih
      · simp; omega
    · rw [h x hp]; simp; omega
theorem filter_ltT {α : Type} {p q : α → Bool} {r : α} (hp : p r = false) (hq : q r = true) (h : ∀ x, p x = true → q x = true) : ∀ L : List α, r ∈ L → (L.filter p).length < (L.filter q).length
  | [], hr => by cases hr
  | x :: L, hr => by
    rw [List.filter_cons, List.filter_cons]
    rcases List.mem_cons.1 hr with rfl | hr
    · rw [hp, hq]
      have := filter_leT L h
      simp; omega
    · have ih := filter_ltT hp hq h L hr
      cases hp' : p x
      · cases hq' : q x
        · simpa using ih
        · simp; omega
      · rw [h x hp']; simp; omega
theorem ahd_lt {R : List Ride} {r s : Ride} (hr : r ∈ R) (ho : r.op = false) (hk : key r = key s) (hb : bf r s = true) : ahd R r < ahd R s := by
  unfold ahd
  rw [hk]
  refine filter_ltT (r := r) ?_ ?_ ?_ R hr
  · rw [bf_irrefl]; simp
  · unfold ofK; rw [hb, ho, hk]; simp
  · intro x hx
    rw [Bool.and_eq_true] at hx ⊢
    exact ⟨hx.1, bf_trans hx.2 hb⟩
theorem each_bound {R : List Ride} {each : Int} (h : eachE R each = 0) (k : Int × Int) : (((eachL R each).filter fun r => decide (key r = k)).length : Int) ≤ each := by
  obtain ⟨e0, _, hr⟩ := eachE_zero h
  obtain ⟨_, hid, _⟩ := ridesE_zero hr
  have hm : ∀ r ∈ (eachL R each).filter (fun r => decide (key r = k)), r ∈ R ∧ r.op = false ∧ key r = k ∧ (ahd R r : Int) < each := by
    intro r hr
    obtain ⟨h1, h2⟩ := List.mem_filter.1 hr
    obtain ⟨h3, h4⟩ := List.mem_filter.1 h1
    unfold ctd at h4
    rw [Bool.and_eq_true, Bool.not_eq_true', decide_eq_true_eq] at h4
    exact ⟨h3, h4.1, of_decide_eq_true h2, h4.2⟩
  have hs : ((eachL R each).filter fun r => decide (key r = k)).Sublist R := List.filter_sublist.trans List.filter_sublist
  have hp : ((eachL R each).filter fun r => decide (key r = k)).Pairwise fun a b => a.id ≠ b.id := (List.pairwise_map.1 hid).sublist hs
  have hn : (((eachL R each).filter fun r => decide (key r = k)).map (ahd R)).Nodup := by
    refine List.pairwise_map.2 (hp.imp_of_mem fun {a b} ha hb hab => ?_)
    obtain ⟨a1, a2, a3, _⟩ := hm a ha
    obtain ⟨b1, b2, b3, _⟩ := hm b hb
    cases h1 : bf a b
    · cases h2 : bf b a
      · exact (hab (bf_total h1 h2)).elim
      · have := ahd_lt b1 b2 (b3.trans a3.symm) h2; omega
    · have := ahd_lt a1 a2 (a3.trans b3.symm) h1; omega
  have := nodup_lt_lenT each.toNat _ hn fun x hx => by
    obtain ⟨r, hr, rfl⟩ := List.mem_map.1 hx
    have := (hm r hr).2.2.2; omega
  rw [List.length_map] at this
  omega
theorem cnt_bound {R : List Ride} {each f t : Int} {q : Ride → Bool} {k : Int × Int} (h : eachE R each = 0) (hq : ∀ r, q r = true → key r = k) : (((cntL R each f t).filter q).length : Int) ≤ each := by
  have := each_bound h k
  have h2 : ((cntL R each f t).filter q).length ≤ ((eachL R each).filter fun r => decide (key r = k)).length := by
    unfold cntL
    rw [List.filter_filter]
    refine filter_leT _ fun x hx => ?_
    rw [Bool.and_eq_true] at hx
    exact decide_eq_true (hq x hx.1)
  omega
theorem apS_parts {a b : List Int} {c : Nat → Int} : ∀ n, (∀ i, i < n → at0 a i = at0 b i + c i ∧ 0 ≤ c i) → apS a b n = sumN c n
  | 0, _ => rfl
  | n + 1, h => by
    have ih := apS_parts n fun i hi => h i (by omega)
    obtain ⟨h1, h2⟩ := h n (by omega)
    simp only [apS, sumN]
    rw [ih, h1]
    omega
/-- a table is accepted -/
theorem cntL_len (R : List Ride) (each f t : Int) : (cntL R each f t).length ≤ R.length := by
  rw [cntL_eq]; exact List.length_filter_le _ _
theorem chk_table {zs : List Int} {size : Int} {R : List Ride} {f t each : Int} (h : tabE zs size R f t each = 0) : chkE (tabV zs size R f t each) = 0 := by
  rw [tabV_ok h]
  obtain ⟨h1, h2, _⟩ := (tabE_zero ..).1 h
  have hl := (ridesE_zero (eachE_zero h2).2.2).1
  have hp : 0 ≤ size * size := Int.mul_nonneg (by omega) (by omega)
  unfold chkE
  rw [if_neg (by show ¬ (size < 1 ∨ 8 < size ∨ size < 1 ∨ 8 < size); omega), if_neg (by show ¬ (((cells zs size (cntL R each f t)).length : Int) ≠ size * size); rw [cells_len]; omega), if_neg]
  show ¬ ((cells zs size (cntL R each f t)).any _ = true)
  rw [List.any_eq_true]
  rintro ⟨n, hn, hb⟩
  unfold cells at hn
  obtain ⟨i, _, rfl⟩ := List.mem_map.1 hn
  have := celN_range zs size (cntL R each f t) i
  have := cntL_len R each f t
  rw [Bool.or_eq_true, decide_eq_true_eq, decide_eq_true_eq] at hb
  omega
/-- another order -/
theorem ahd_rev (R : List Ride) (x : Ride) : ahd R.reverse x = ahd R x := by
  unfold ahd
  rw [List.filter_reverse, List.length_reverse]
theorem eachL_rev (R : List Ride) (each : Int) : eachL R.reverse each = (eachL R each).reverse := by
  unfold eachL
  rw [List.filter_reverse]
  congr 1
  refine List.filter_congr fun r _ => ?_
  unfold ctd
  rw [ahd_rev]
theorem cntL_rev (R : List Ride) (each f t : Int) : cntL R.reverse each f t = (cntL R each f t).reverse := by
  unfold cntL
  rw [eachL_rev, List.filter_reverse]
theorem celN_rev (zs : List Int) (size : Int) (L : List Ride) (i : Nat) : celN zs size L.reverse i = celN zs size L i := by
  unfold celN
  rw [List.filter_reverse, List.length_reverse]
theorem ridesE_rev {R : List Ride} (h : ridesE R = 0) : ridesE R.reverse = 0 := ridesE_perm h R.reverse_perm
theorem eachE_rev (R : List Ride) (each : Int) : eachE R.reverse each = 0 ↔ eachE R each = 0 :=
  ⟨fun h => eachE_of h fun h => by
    have := ridesE_rev h
    rwa [List.reverse_reverse] at this, fun h => eachE_of h ridesE_rev⟩
theorem tabE_rev1 {zs : List Int} {size : Int} {R : List Ride} {f t each : Int} (h : tabE zs size R f t each = 0) : tabE zs size R.reverse f t each = 0 := by
  rw [tabE_zero] at h ⊢
  refine ⟨h.1, (eachE_rev R each).2 h.2.1, fun r hr => ?_⟩
  rw [cntL_rev, List.mem_reverse] at hr
  exact h.2.2 r hr
theorem tabE_rev (zs : List Int) (size : Int) (R : List Ride) (f t each : Int) : tabE zs size R.reverse f t each = 0 ↔ tabE zs size R f t each = 0 :=
  ⟨fun h => by have := tabE_rev1 h; rwa [List.reverse_reverse] at this, tabE_rev1⟩
theorem tabV_rev (zs : List Int) (size : Int) (R : List Ride) (f t each : Int) : tabV zs size R.reverse f t each = tabV zs size R f t each := by
  by_cases h : tabE zs size R f t each = 0
  · rw [tabV_ok h, tabV_ok (tabE_rev1 h), cntL_rev]
    have : cells zs size (cntL R each f t).reverse = cells zs size (cntL R each f t) := by
      unfold cells
      exact List.map_congr_left fun i _ => celN_rev zs size _ i
    rw [this]
  · rw [tabV_no h, tabV_no (fun h2 => h ((tabE_rev ..).1 h2))]
theorem eachV_rev (R : List Ride) (each : Int) : eachV R.reverse each = (eachV R each).reverse := by
  unfold eachV
  by_cases h : eachE R each = 0
  · rw [if_pos h, if_pos ((eachE_rev R each).2 h), eachL_rev]
  · rw [if_neg h, if_neg (fun h2 => h ((eachE_rev R each).1 h2))]; rfl
/-- parts of the window -/
theorem cntL_lo {R : List Ride} {each f u t : Int} (h2 : u ≤ t) : cntL R each f u = (cntL R each f t).filter fun r => decide (r.s0 < u) := by
  unfold cntL
  rw [List.filter_filter]
  refine List.filter_congr fun r _ => ?_
  unfold inT
  by_cases h : r.s0 < u
  · rw [decide_eq_true h, decide_eq_true (show r.s0 < t by omega)]; simp
  · rw [decide_eq_false h]; simp
theorem cntL_hi {R : List Ride} {each f u t : Int} (h1 : f ≤ u) : cntL R each u t = (cntL R each f t).filter fun r => !decide (r.s0 < u) := by
  unfold cntL
  rw [List.filter_filter]
  refine List.filter_congr fun r _ => ?_
  unfold inT
  by_cases h : u ≤ r.s0
  · rw [decide_eq_true h, decide_eq_true (show f ≤ r.s0 by omega), decide_eq_false (show ¬ r.s0 < u by omega)]; simp
  · rw [decide_eq_false h, decide_eq_true (show r.s0 < u by omega)]; simp
theorem tabE_parts {zs : List Int} {size : Int} {R : List Ride} {each f u t : Int} (h1 : f ≤ u) (h2 : u ≤ t) : tabE zs size R f t each = 0 ↔ tabE zs size R f u each = 0 ∧ tabE zs size R u t each = 0 := by
  simp only [tabE_zero]
  unfold tabOk0
  rw [cntL_lo (f := f) h2, cntL_hi (t := t) h1]
  constructor
  · rintro ⟨a, b, c⟩
    exact ⟨⟨by omega, b, fun r hr => c r (List.mem_filter.1 hr).1⟩, by omega, b, fun r hr => c r (List.mem_filter.1 hr).1⟩
  · rintro ⟨⟨a, b, c⟩, a', _, c'⟩
    refine ⟨by omega, b, fun r hr => ?_⟩
    by_cases h : r.s0 < u
    · exact c r (List.mem_filter.2 ⟨hr, by simpa using h⟩)
    · exact c' r (List.mem_filter.2 ⟨hr, by simpa using h⟩)
theorem celN_parts {zs : List Int} {size : Int} {R : List Ride} {each f u t : Int} (h1 : f ≤ u) (h2 : u ≤ t) (i : Nat) : celN zs size (cntL R each f t) i = celN zs size (cntL R each f u) i + celN zs size (cntL R each u t) i := by
  rw [cntL_lo (f := f) h2, cntL_hi (t := t) h1, celN_part zs size (fun r => decide (r.s0 < u)) i]
  omega
/-- distances -/
theorem apS_symm (a b : List Int) : ∀ n, apS a b n = apS b a n
  | 0 => rfl
  | n + 1 => by simp only [apS]; rw [apS_symm a b n]; omega
theorem apS_tri (a b c : List Int) : ∀ n, apS a c n ≤ apS a b n + apS b c n
  | 0 => by simp [apS]
  | n + 1 => by have := apS_tri a b c n; simp only [apS]; omega
theorem apS_nonneg (a b : List Int) : ∀ n, 0 ≤ apS a b n
  | 0 => by simp [apS]
  | n + 1 => by have := apS_nonneg a b n; simp only [apS]; omega
theorem apS_zero {a b : List Int} : ∀ n, apS a b n = 0 ↔ ∀ i, i < n → at0 a i = at0 b i
  | 0 => by simp [apS]
  | n + 1 => by
    have ih := apS_zero (a := a) (b := b) n
    have h0 := apS_nonneg a b n
    simp only [apS]
    constructor
    · intro h i hi
      by_cases hc : i < n
      · exact ih.1 (by omega) i hc
      · obtain rfl : i = n := by omega
        omega
    · intro h
      have := ih.2 fun i hi => h i (by omega)
      have := h n (by omega)
      omega
theorem apE_ok {a b : Tab} (h : apE a b = 0) : TabOk a ∧ TabOk b ∧ a.r = b.r ∧ a.c = b.c ∧ a.l.length = b.l.length := by
  unfold apE at h
  by_cases h1 : chkE a = 0
  case neg => rw [if_pos h1] at h; exact (h1 h).elim
  rw [if_neg (by simpa using h1)] at h
  by_cases h2 : chkE b = 0
  case neg => rw [if_pos h2] at h; exact (h2 h).elim
  rw [if_neg (by simpa using h2)] at h
  by_cases h3 : a.r ≠ b.r ∨ a.c ≠ b.c
  · rw [if_pos h3] at h; cases h
  have ha := tabOk_of h1
  have hb := tabOk_of h2
  have e1 : a.r = b.r := by omega
  have e2 : a.c = b.c := by omega
  refine ⟨ha, hb, e1, e2, ?_⟩
  have h5 := ha.n
  have h6 := hb.n
  rw [e1, e2] at h5
  omega
theorem apE_chk {a b : Tab} (h : apE a b = 0) : chkE a = 0 ∧ chkE b = 0 := by
  unfold apE at h
  by_cases h1 : chkE a = 0
  case neg => rw [if_pos h1] at h; exact (h1 h).elim
  rw [if_neg (by simpa using h1)] at h
  by_cases h2 : chkE b = 0
  case neg => rw [if_pos h2] at h; exact (h2 h).elim
  exact ⟨h1, h2⟩
theorem apE_of {a b : Tab} (h1 : chkE a = 0) (h2 : chkE b = 0) (h3 : a.r = b.r) (h4 : a.c = b.c) : apE a b = 0 := by
  unfold apE
  rw [if_neg (by simpa using h1), if_neg (by simpa using h2), if_neg (by simp [h3, h4])]
theorem apart_back {a b : Tab} (h : apE a b = 0) : apE b a = 0 ∧ apV b a = apV a b ∧ (apV a b = 0 ↔ sameT a b = true) := by
  obtain ⟨h1, h2⟩ := apE_chk h
  obtain ⟨_, _, e1, e2, e3⟩ := apE_ok h
  have h' := apE_of h2 h1 e1.symm e2.symm
  refine ⟨h', ?_, ?_⟩
  · unfold apV
    rw [if_pos h, if_pos h', apS_symm, e3]
  · unfold apV sameT
    rw [if_pos h, apS_zero, decide_eq_true_eq]
    exact ⟨fun k => ⟨e1, e2, list_at e3 k⟩, fun k i _ => by rw [k.2.2]⟩
theorem apart_tri {a b c : Tab} (h1 : apE a b = 0) (h2 : apE a c = 0) (h3 : apE b c = 0) : apV a c ≤ apV a b + apV b c := by
  unfold apV
  rw [if_pos h1, if_pos h2, if_pos h3, ← (apE_ok h1).2.2.2.2]
  exact apS_tri _ _ _ _
theorem apV_range (a b : Tab) : 0 ≤ apV a b ∧ apV a b ≤ 128000000 := by
  unfold apV
  by_cases h : apE a b = 0
  · rw [if_pos h]
    obtain ⟨ha, hb, _, _, e⟩ := apE_ok h
    have := apS_range ha hb a.l.length (Nat.le_refl _) (by omega)
    have := ha.len
    omega
  · rw [if_neg h]; omega
end Go.Proofs.Ytdmmjapccgeffaa
/- The laws of trips: cases; the law's helpers few and table. -/
namespace Go.Proofs.Ytdmmjapccgeffaa
open Go.RowKit

/-- what a table is made of, with the places of its lists in memory -/
structure Cas where
  az : Option Addr
  zs : List Int
  cz : Nat
  n : Int
  e : Int
  a : Option Addr
  R : List Ride
  c : Nat
  f : Int
  t : Int
/-- the ends of rides are numbers of 64 bits -/
abbrev EndsI (R : List Ride) : Prop := ∀ r ∈ R, r.fp ≤ 9223372036854775807 ∧ r.pl ≤ 9223372036854775807
structure Cas.At (w : World) (q : Cas) : Prop where
  z : IntRow w q.az q.zs
  r : RideRow w q.a q.R
  zl : q.zs.length ≤ 9223372036854775807
  rl : q.R.length ≤ 9223372036854775807
  i : EndsI q.R
theorem Cas.At.to {w W : World} {q : Cas} (h : q.At w) (hW : ∃ z : Since w, W = z.w) : q.At W := ⟨h.z.to hW, h.r.to hW, h.zl, h.rl, h.i⟩
def fewC (q : Cas) : Bool := fewB q.R 30 && decide ((q.zs.length : Int) ≤ 200)
theorem fewC_rides {q : Cas} (h : fewC q = true) : q.R.length ≤ 30 ∧ ∀ r ∈ q.R, r.legs.length ≤ 100000 ∧ r.pauses.length ≤ 100000 := by
  unfold fewC fewB at h
  simp only [Bool.and_eq_true, decide_eq_true_eq, List.all_eq_true] at h
  exact ⟨by omega, fun r hr => by have := h.1.1 r hr; omega⟩
set_option maxHeartbeats 4000000 in
theorem few51_calls (w : World) (x : Since w) (q : Cas) (h : q.At w) :
    Calls Try.prog 18 #[.agg #[.slice q.az q.zs.length q.cz, .int .i64 q.n, .int .i64 q.e, .slice q.a q.R.length q.c, .int .i64 q.f, .int .i64 q.t]] x.w fun o w' => o = .returned (.bool (fewC q)) ∧ ∃ y : Since w, w' = y.w := by
  have H := Lib.hid h
  clear h
  have HF := Lib.hid (show fewC q = (fewB q.R 30 && decide ((q.zs.length : Int) ≤ 200)) from rfl)
  have hzl := H.out.zl
  go_enter Try.func18, Try.ntmps18
  go_upto_region 1 with fail
  have hb0_0 : ∀ y : Since (x.w.alloc (.cells #[.slice q.az q.zs.length q.cz, .int .i64 q.n, .int .i64 q.e, .slice q.a q.R.length q.c, .int .i64 q.f, .int .i64 q.t] 36)), y.w.cell? ⟨x.w.heap.size, 0, none⟩ = some (.slice q.az q.zs.length q.cz) := fun y => Since.cell (by simp [go_sem]) (by first | (simp; done) | (simp; omega)) y
  have hb0_1 : ∀ y : Since (x.w.alloc (.cells #[.slice q.az q.zs.length q.cz, .int .i64 q.n, .int .i64 q.e, .slice q.a q.R.length q.c, .int .i64 q.f, .int .i64 q.t] 36)), y.w.cell? ⟨x.w.heap.size, 1, none⟩ = some (.int .i64 q.n) := fun y => Since.cell (by simp [go_sem]) (by first | (simp; done) | (simp; omega)) y
  have hb0_2 : ∀ y : Since (x.w.alloc (.cells #[.slice q.az q.zs.length q.cz, .int .i64 q.n, .int .i64 q.e, .slice q.a q.R.length q.c, .int .i64 q.f, .int .i64 q.t] 36)), y.w.cell? ⟨x.w.heap.size, 2, none⟩ = some (.int .i64 q.e) := fun y => Since.cell (by simp [go_sem]) (by first | (simp; done) | (simp; omega)) y
  have hb0_3 : ∀ y : Since (x.w.alloc (.cells #[.slice q.az q.zs.length q.cz, .int .i64 q.n, .int .i64 q.e, .slice q.a q.R.length q.c, .int .i64 q.f, .int .i64 q.t] 36)), y.w.cell? ⟨x.w.heap.size, 3, none⟩ = some (.slice q.a q.R.length q.c) := fun y => Since.cell (by simp [go_sem]) (by first | (simp; done) | (simp; omega)) y
  have hb0_4 : ∀ y : Since (x.w.alloc (.cells #[.slice q.az q.zs.length q.cz, .int .i64 q.n, .int .i64 q.e, .slice q.a q.R.length q.c, .int .i64 q.f, .int .i64 q.t] 36)), y.w.cell? ⟨x.w.heap.size, 4, none⟩ = some (.int .i64 q.f) := fun y => Since.cell (by simp [go_sem]) (by first | (simp; done) | (simp; omega)) y
  have hb0_5 : ∀ y : Since (x.w.alloc (.cells #[.slice q.az q.zs.length q.cz, .int .i64 q.n, .int .i64 q.e, .slice q.a q.R.length q.c, .int .i64 q.f, .int .i64 q.t] 36)), y.w.cell? ⟨x.w.heap.size, 5, none⟩ = some (.int .i64 q.t) := fun y => Since.cell (by simp [go_sem]) (by first | (simp; done) | (simp; omega)) y
  have hf0 : ∀ (y : Since (x.w.alloc (.cells #[.slice q.az q.zs.length q.cz, .int .i64 q.n, .int .i64 q.e, .slice q.a q.R.length q.c, .int .i64 q.f, .int .i64 q.t] 36))) (o : Nat), y.w.frozen? ⟨x.w.heap.size, o, none⟩ = false := fun y o => Since.free (by simp [go_sem]) (by first | (simp; done) | (simp; omega)) y
  have hWup : ∃ z : Since w, (x.w.alloc (.cells #[.slice q.az q.zs.length q.cz, .int .i64 q.n, .int .i64 q.e, .slice q.a q.R.length q.c, .int .i64 q.f, .int .i64 q.t] 36)) = z.w := x.alloc _
  obtain ⟨y0, hy0⟩ := Since.refl (x.w.alloc (.cells #[.slice q.az q.zs.length q.cz, .int .i64 q.n, .int .i64 q.e, .slice q.a q.R.length q.c, .int .i64 q.f, .int .i64 q.t] 36))
  have Hbx := Lib.hid (And.intro x.b.size (show x.w.heap.size + 1 = (x.w.alloc (.cells #[.slice q.az q.zs.length q.cz, .int .i64 q.n, .int .i64 q.e, .slice q.a q.R.length q.c, .int .i64 q.f, .int .i64 q.t] 36)).heap.size from by simp))
  generalize hW : (x.w.alloc (.cells #[.slice q.az q.zs.length q.cz, .int .i64 q.n, .int .i64 q.e, .slice q.a q.R.length q.c, .int .i64 q.f, .int .i64 q.t] 36)) = W at *
  clear hW
  generalize x.w.heap.size = bx at *
  have Hup := Lib.hid (Since.up hWup)
  rw [hy0]
  clear hy0
  have Hfew := Lib.hid (fun y : Since W => few_calls W y q.a q.R q.c 30 (H.out.to hWup).r H.out.rl)
  clear hWup hf0
  generalize fewB q.R 30 = b at *
  cases b
  all_goals
    go_wp2_with (go_at_call 11; ((with_reducible refine (Hfew.out _).mono ?_); rintro _ _ ⟨rfl, y1, rfl⟩))
    go_ret
    exact ⟨ret_bool (by rw [HF.out]; simp), Hup.out _⟩
theorem row_set_ne {w : World} {a : Option Addr} {n : Nat} {f : Nat → Value} (h : Row w a n f) (g : Nat) (vs : List Value) (k : Nat) (hg : ∀ b, a = some b → g ≠ b.block) : Row (w.setCells g k vs) a n f := by
  induction vs generalizing w k with
  | nil => exact h
  | cons v vs ih => exact ih (w := w.setCell ⟨g, k, none⟩ v) (h.set _ _ fun b hb => fun e => hg b hb e.symm) (k + 1)
set_option maxHeartbeats 4000000 in
theorem table51_calls (w : World) (x : Since w) (q : Cas) (h : q.At w) (a : Option Addr) (R : List Ride) (c : Nat) (f t : Int) (hR : RideRow w a R) (hl : R.length ≤ 9223372036854775807) (hI : EndsI R) :
    Calls Try.prog 19 #[.agg #[.slice q.az q.zs.length q.cz, .int .i64 q.n, .int .i64 q.e, .slice q.a q.R.length q.c, .int .i64 q.f, .int .i64 q.t], .slice a R.length c, .agg #[.int .i64 f, .int .i64 t]] x.w (TabRes w (tabV q.zs q.n R f t q.e) (tabE q.zs q.n R f t q.e)) := by
  have H := Lib.hid h
  have HR := Lib.hid hR
  clear h hR
  have hzl := H.out.zl
  have HP := Lib.hid (fun (c' : Nat) (a' : Option Addr) (T : Tab) (e : Int) (hT : tabV q.zs q.n R f t q.e = T) (he : tabE q.zs q.n R f t q.e = e) (y : Since w) (h1 : IntRow y.w a' T.l) (h2 : T.l.length ≤ c') (h3 : ∀ b, a' = some b → w.heap.size ≤ b.block) => show TabRes w (tabV q.zs q.n R f t q.e) (tabE q.zs q.n R f t q.e) (.returned (.tuple #[.agg #[.int .i64 T.r, .int .i64 T.c, .slice a' T.l.length c'], .int .i64 e])) y.w from by subst hT; subst he; exact ⟨a', c', y, rfl, rfl, h1, h2, h3⟩)
  generalize hPO : TabRes w (tabV q.zs q.n R f t q.e) (tabE q.zs q.n R f t q.e) = PO at *
  clear hPO
  go_enter Try.func19, Try.ntmps19
  go_upto_region 1 with fail
  have hb0_0 : ∀ y : Since (((x.w.alloc (.cells #[.slice q.az q.zs.length q.cz, .int .i64 q.n, .int .i64 q.e, .slice q.a q.R.length q.c, .int .i64 q.f, .int .i64 q.t] 36)).alloc (.cells #[.int .i64 f, .int .i64 t] 34)).alloc (.cells #[.int .i64 0, .int .i64 0, .slice none 0 0] 39)), y.w.cell? ⟨x.w.heap.size, 0, none⟩ = some (.slice q.az q.zs.length q.cz) := fun y => Since.cell (by simp [go_sem]) (by first | (simp; done) | (simp; omega)) y
  have hb0_1 : ∀ y : Since (((x.w.alloc (.cells #[.slice q.az q.zs.length q.cz, .int .i64 q.n, .int .i64 q.e, .slice q.a q.R.length q.c, .int .i64 q.f, .int .i64 q.t] 36)).alloc (.cells #[.int .i64 f, .int .i64 t] 34)).alloc (.cells #[.int .i64 0, .int .i64 0, .slice none 0 0] 39)), y.w.cell? ⟨x.w.heap.size, 1, none⟩ = some (.int .i64 q.n) := fun y => Since.cell (by simp [go_sem]) (by first | (simp; done) | (simp; omega)) y
  have hb0_2 : ∀ y : Since (((x.w.alloc (.cells #[.slice q.az q.zs.length q.cz, .int .i64 q.n, .int .i64 q.e, .slice q.a q.R.length q.c, .int .i64 q.f, .int .i64 q.t] 36)).alloc (.cells #[.int .i64 f, .int .i64 t] 34)).alloc (.cells #[.int .i64 0, .int .i64 0, .slice none 0 0] 39)), y.w.cell? ⟨x.w.heap.size, 2, none⟩ = some (.int .i64 q.e) := fun y => Since.cell (by simp [go_sem]) (by first | (simp; done) | (simp; omega)) y
  have hb0_3 : ∀ y : Since (((x.w.alloc (.cells #[.slice q.az q.zs.length q.cz, .int .i64 q.n, .int .i64 q.e, .slice q.a q.R.length q.c, .int .i64 q.f, .int .i64 q.t] 36)).alloc (.cells #[.int .i64 f, .int .i64 t] 34)).alloc (.cells #[.int .i64 0, .int .i64 0, .slice none 0 0] 39)), y.w.cell? ⟨x.w.heap.size, 3, none⟩ = some (.slice q.a q.R.length q.c) := fun y => Since.cell (by simp [go_sem]) (by first | (simp; done) | (simp; omega)) y
  have hb0_4 : ∀ y : Since (((x.w.alloc (.cells #[.slice q.az q.zs.length q.cz, .int .i64 q.n, .int .i64 q.e, .slice q.a q.R.length q.c, .int .i64 q.f, .int .i64 q.t] 36)).alloc (.cells #[.int .i64 f, .int .i64 t] 34)).alloc (.cells #[.int .i64 0, .int .i64 0, .slice none 0 0] 39)), y.w.cell? ⟨x.w.heap.size, 4, none⟩ = some (.int .i64 q.f) := fun y => Since.cell (by simp [go_sem]) (by first | (simp; done) | (simp; omega)) y
  have hb0_5 : ∀ y : Since (((x.w.alloc (.cells #[.slice q.az q.zs.length q.cz, .int .i64 q.n, .int .i64 q.e, .slice q.a q.R.length q.c, .int .i64 q.f, .int .i64 q.t] 36)).alloc (.cells #[.int .i64 f, .int .i64 t] 34)).alloc (.cells #[.int .i64 0, .int .i64 0, .slice none 0 0] 39)), y.w.cell? ⟨x.w.heap.size, 5, none⟩ = some (.int .i64 q.t) := fun y => Since.cell (by simp [go_sem]) (by first | (simp; done) | (simp; omega)) y
  have hf0 : ∀ (y : Since (((x.w.alloc (.cells #[.slice q.az q.zs.length q.cz, .int .i64 q.n, .int .i64 q.e, .slice q.a q.R.length q.c, .int .i64 q.f, .int .i64 q.t] 36)).alloc (.cells #[.int .i64 f, .int .i64 t] 34)).alloc (.cells #[.int .i64 0, .int .i64 0, .slice none 0 0] 39))) (o : Nat), y.w.frozen? ⟨x.w.heap.size, o, none⟩ = false := fun y o => Since.free (by simp [go_sem]) (by first | (simp; done) | (simp; omega)) y
  have hb1_0 : ∀ y : Since (((x.w.alloc (.cells #[.slice q.az q.zs.length q.cz, .int .i64 q.n, .int .i64 q.e, .slice q.a q.R.length q.c, .int .i64 q.f, .int .i64 q.t] 36)).alloc (.cells #[.int .i64 f, .int .i64 t] 34)).alloc (.cells #[.int .i64 0, .int .i64 0, .slice none 0 0] 39)), y.w.cell? ⟨x.w.heap.size + 1, 0, none⟩ = some (.int .i64 f) := fun y => Since.cell (by simp [go_sem]) (by first | (simp; done) | (simp; omega)) y
  have hb1_1 : ∀ y : Since (((x.w.alloc (.cells #[.slice q.az q.zs.length q.cz, .int .i64 q.n, .int .i64 q.e, .slice q.a q.R.length q.c, .int .i64 q.f, .int .i64 q.t] 36)).alloc (.cells #[.int .i64 f, .int .i64 t] 34)).alloc (.cells #[.int .i64 0, .int .i64 0, .slice none 0 0] 39)), y.w.cell? ⟨x.w.heap.size + 1, 1, none⟩ = some (.int .i64 t) := fun y => Since.cell (by simp [go_sem]) (by first | (simp; done) | (simp; omega)) y
  have hf1 : ∀ (y : Since (((x.w.alloc (.cells #[.slice q.az q.zs.length q.cz, .int .i64 q.n, .int .i64 q.e, .slice q.a q.R.length q.c, .int .i64 q.f, .int .i64 q.t] 36)).alloc (.cells #[.int .i64 f, .int .i64 t] 34)).alloc (.cells #[.int .i64 0, .int .i64 0, .slice none 0 0] 39))) (o : Nat), y.w.frozen? ⟨x.w.heap.size + 1, o, none⟩ = false := fun y o => Since.free (by simp [go_sem]) (by first | (simp; done) | (simp; omega)) y
  have hb2_0 : ∀ y : Since (((x.w.alloc (.cells #[.slice q.az q.zs.length q.cz, .int .i64 q.n, .int .i64 q.e, .slice q.a q.R.length q.c, .int .i64 q.f, .int .i64 q.t] 36)).alloc (.cells #[.int .i64 f, .int .i64 t] 34)).alloc (.cells #[.int .i64 0, .int .i64 0, .slice none 0 0] 39)), y.w.cell? ⟨x.w.heap.size + 2, 0, none⟩ = some (.int .i64 0) := fun y => Since.cell (by simp [go_sem]) (by first | (simp; done) | (simp; omega)) y
  have hb2_1 : ∀ y : Since (((x.w.alloc (.cells #[.slice q.az q.zs.length q.cz, .int .i64 q.n, .int .i64 q.e, .slice q.a q.R.length q.c, .int .i64 q.f, .int .i64 q.t] 36)).alloc (.cells #[.int .i64 f, .int .i64 t] 34)).alloc (.cells #[.int .i64 0, .int .i64 0, .slice none 0 0] 39)), y.w.cell? ⟨x.w.heap.size + 2, 1, none⟩ = some (.int .i64 0) := fun y => Since.cell (by simp [go_sem]) (by first | (simp; done) | (simp; omega)) y
  have hb2_2 : ∀ y : Since (((x.w.alloc (.cells #[.slice q.az q.zs.length q.cz, .int .i64 q.n, .int .i64 q.e, .slice q.a q.R.length q.c, .int .i64 q.f, .int .i64 q.t] 36)).alloc (.cells #[.int .i64 f, .int .i64 t] 34)).alloc (.cells #[.int .i64 0, .int .i64 0, .slice none 0 0] 39)), y.w.cell? ⟨x.w.heap.size + 2, 2, none⟩ = some (.slice none 0 0) := fun y => Since.cell (by simp [go_sem]) (by first | (simp; done) | (simp; omega)) y
  have hf2 : ∀ (y : Since (((x.w.alloc (.cells #[.slice q.az q.zs.length q.cz, .int .i64 q.n, .int .i64 q.e, .slice q.a q.R.length q.c, .int .i64 q.f, .int .i64 q.t] 36)).alloc (.cells #[.int .i64 f, .int .i64 t] 34)).alloc (.cells #[.int .i64 0, .int .i64 0, .slice none 0 0] 39))) (o : Nat), y.w.frozen? ⟨x.w.heap.size + 2, o, none⟩ = false := fun y o => Since.free (by simp [go_sem]) (by first | (simp; done) | (simp; omega)) y
  have hWup : ∃ z : Since w, (((x.w.alloc (.cells #[.slice q.az q.zs.length q.cz, .int .i64 q.n, .int .i64 q.e, .slice q.a q.R.length q.c, .int .i64 q.f, .int .i64 q.t] 36)).alloc (.cells #[.int .i64 f, .int .i64 t] 34)).alloc (.cells #[.int .i64 0, .int .i64 0, .slice none 0 0] 39)) = z.w := Since.allocs x [.cells #[.slice q.az q.zs.length q.cz, .int .i64 q.n, .int .i64 q.e, .slice q.a q.R.length q.c, .int .i64 q.f, .int .i64 q.t] 36, .cells #[.int .i64 f, .int .i64 t] 34, .cells #[.int .i64 0, .int .i64 0, .slice none 0 0] 39]
  obtain ⟨y0, hy0⟩ := Since.refl (((x.w.alloc (.cells #[.slice q.az q.zs.length q.cz, .int .i64 q.n, .int .i64 q.e, .slice q.a q.R.length q.c, .int .i64 q.f, .int .i64 q.t] 36)).alloc (.cells #[.int .i64 f, .int .i64 t] 34)).alloc (.cells #[.int .i64 0, .int .i64 0, .slice none 0 0] 39))
  have Hbx := Lib.hid (And.intro x.b.size (show x.w.heap.size + 3 = (((x.w.alloc (.cells #[.slice q.az q.zs.length q.cz, .int .i64 q.n, .int .i64 q.e, .slice q.a q.R.length q.c, .int .i64 q.f, .int .i64 q.t] 36)).alloc (.cells #[.int .i64 f, .int .i64 t] 34)).alloc (.cells #[.int .i64 0, .int .i64 0, .slice none 0 0] 39)).heap.size from by simp))
  generalize hW : (((x.w.alloc (.cells #[.slice q.az q.zs.length q.cz, .int .i64 q.n, .int .i64 q.e, .slice q.a q.R.length q.c, .int .i64 q.f, .int .i64 q.t] 36)).alloc (.cells #[.int .i64 f, .int .i64 t] 34)).alloc (.cells #[.int .i64 0, .int .i64 0, .slice none 0 0] 39)) = W at *
  clear hW
  generalize x.w.heap.size = bx at *
  have Hup := Lib.hid (Since.up hWup)
  rw [hy0]
  clear hy0
  replace H := Lib.hid (H.out.to hWup)
  have Htb := Lib.hid (fun y : Since W => table_calls W y q.az q.zs q.cz q.n a R c f t q.e H.out.z H.out.zl (HR.out.to hWup) hl hI)
  clear hWup hf0 hf1
  generalize hT : tabV q.zs q.n R f t q.e = T at *
  generalize he : tabE q.zs q.n R f t q.e = e at *
  go_wp2_with fail
  refine (Htb.out _).mono ?_
  rintro _ _ ⟨a1, c1, y1, rfl, rfl, h1, h2, h3⟩
  have Hrow := Lib.hid (fun vs => row_set_ne h1 (bx + 2) vs 0 (fun b hb e => by have := h3 b hb; have := Hbx.out; omega))
  have Ha := Lib.hid (fun b (hb : a1 = some b) => show w.heap.size ≤ b.block by have := h3 b hb; have := Hbx.out; omega)
  clear h1 h3
  go_wp2_with fail
  have hrow := Hrow.out [.int .i64 T.r, .int .i64 T.c, .slice a1 T.l.length c1]
  have hsm : ∀ j, j < 3 → (y1.w.cell? ⟨bx + 2, j, none⟩).isSome = true := fun j hj => by
    match j, hj with
    | 0, _ => rw [hb2_0 y1]; rfl
    | 1, _ => rw [hb2_1 y1]; rfl
    | 2, _ => rw [hb2_2 y1]; rfl
  obtain ⟨z, hz, hc⟩ := set_many y1 (g := bx + 2) [.int .i64 T.r, .int .i64 T.c, .slice a1 T.l.length c1] hsm (Hup.out y1) (by have := Hbx.out; omega)
  simp only [World.setCells, Nat.reduceAdd] at hz
  rw [hz]
  have hc0 := hc 0 _ rfl
  have hc1 := hc 1 _ rfl
  have hc2 := hc 2 _ rfl
  exact bodyPost_ret (v := .tuple #[.agg #[.int .i64 T.r, .int .i64 T.c, .slice a1 T.l.length c1], .int .i64 e]) (by simp [results, Try.results19, go_sem, hc0, hc1, hc2]) rfl (HP.out c1 a1 T e rfl rfl z (hz ▸ hrow) h2 Ha.out)
end Go.Proofs.Ytdmmjapccgeffaa
/- The laws of trips: contracts of the law's helpers at a world that is later than a base. -/
namespace Go.Proofs.Ytdmmjapccgeffaa
open Go.RowKit

/-- a table and an error -/
def TabS (W w : World) (T : Tab) (e : Int) (o : Ending) (w' : World) : Prop :=
  ∃ (a : Option Addr) (c : Nat) (y : Since W), o = .returned (.tuple #[.agg #[.int .i64 T.r, .int .i64 T.c, .slice a T.l.length c], .int .i64 e]) ∧ w' = y.w ∧ (∃ z : Since w, y.w = z.w) ∧ IntRow y.w a T.l
theorem TabRes.s {W w : World} (hw : IsSince W w) {T : Tab} {e : Int} {o : Ending} {w' : World} (h : TabRes w T e o w') : TabS W w T e o w' := by
  obtain ⟨a, c, z, ho, rfl, h1, _⟩ := h
  obtain ⟨x, rfl⟩ := hw
  obtain ⟨y, hy⟩ := x.trans z
  exact ⟨a, c, y, ho, hy, ⟨z, hy.symm⟩, hy ▸ h1⟩
theorem table51_s {W : World} (w' : World) (hw : IsSince W w') (q : Cas) (h : q.At w') (a : Option Addr) (R : List Ride) (c : Nat) (f t : Int) (hR : RideRow w' a R) (hl : R.length ≤ 9223372036854775807) (hI : EndsI R) :
    Calls Try.prog 19 #[.agg #[.slice q.az q.zs.length q.cz, .int .i64 q.n, .int .i64 q.e, .slice q.a q.R.length q.c, .int .i64 q.f, .int .i64 q.t], .slice a R.length c, .agg #[.int .i64 f, .int .i64 t]] w' (TabS W w' (tabV q.zs q.n R f t q.e) (tabE q.zs q.n R f t q.e)) :=
  (table51_calls w' (Since.self w') q h a R c f t hR hl hI).mono fun _ _ k => k.s hw
theorem rtable_s {W : World} (w' : World) (hw : IsSince W w') (q : Cas) (h : q.At w') :
    Calls Try.prog 20 #[.slice q.az q.zs.length q.cz, .int .i64 q.n, .slice q.a q.R.length q.c, .agg #[.int .i64 q.f, .int .i64 q.t], .int .i64 q.e] w' (TabS W w' (tabV q.zs q.n q.R q.f q.t q.e) (tabE q.zs q.n q.R q.f q.t q.e)) :=
  (rtable_calls w' (Since.self w') q.az q.zs q.cz q.n q.a q.R q.c q.f q.t q.e h.z h.zl h.r h.rl h.i).mono fun _ _ k => k.s hw
theorem tabV_len (zs : List Int) (size : Int) (R : List Ride) (f t each : Int) : (tabV zs size R f t each).l.length ≤ 64 := by
  by_cases h : tabE zs size R f t each = 0
  · exact (tabOk_of (chk_table h)).len
  · rw [tabV_no h]; simp [tab0]
theorem same_s {W : World} (w' : World) (hw : IsSince W w') (T : Tab) (a1 : Option Addr) (c1 : Nat) (a2 : Option Addr) (c2 : Nat) (hT : T.l.length ≤ 64) (h1 : IntRow w' a1 T.l) (h2 : IntRow w' a2 T.l) :
    Calls Try.prog 21 #[.agg #[.int .i64 T.r, .int .i64 T.c, .slice a1 T.l.length c1], .agg #[.int .i64 T.r, .int .i64 T.c, .slice a2 T.l.length c2]] w' (Ends W w' (fun o => o = .returned (.bool true))) := by
  refine (later hw fun x => rtsame_calls w' x T T a1 c1 a2 c2 h1 h2 (by omega) (by omega)).mono ?_
  rintro o _ ⟨ho, h⟩
  exact ⟨by rw [ho, show sameT T T = true from decide_eq_true ⟨rfl, rfl, rfl⟩], h⟩
theorem apart_l {W : World} (w' : World) (hw : IsSince W w') (s t : Tab) (a1 : Option Addr) (c1 : Nat) (a2 : Option Addr) (c2 : Nat) (h1 : IntRow w' a1 s.l) (h2 : IntRow w' a2 t.l) (hs : s.l.length ≤ 100) (ht : t.l.length ≤ 100) :
    Calls Try.prog 22 #[.agg #[.int .i64 s.r, .int .i64 s.c, .slice a1 s.l.length c1], .agg #[.int .i64 t.r, .int .i64 t.c, .slice a2 t.l.length c2]] w' (Ends W w' (fun o => o = .returned (.tuple #[.int .i64 (apV s t), .int .i64 (apE s t)]))) :=
  later hw fun x => apart_calls w' x s t a1 c1 a2 c2 h1 h2 (by omega) (by omega)
theorem check_l {W : World} (w' : World) (hw : IsSince W w') (t : Tab) (a : Option Addr) (c : Nat) (h : IntRow w' a t.l) (ht : t.l.length ≤ 100) :
    Calls Try.prog 24 #[.agg #[.int .i64 t.r, .int .i64 t.c, .slice a t.l.length c]] w' (Ends W w' (fun o => o = .returned (.int .i64 (chkE t)))) :=
  later hw fun x => tcheck_calls w' x t a c h (by omega)
/-- rides and an error -/
def EachS (W w : World) (L : List Ride) (e : Int) (o : Ending) (w' : World) : Prop :=
  ∃ (a : Option Addr) (c : Nat) (L' : List Ride) (y : Since W), o = .returned (.tuple #[.slice a L'.length c, .int .i64 e]) ∧ w' = y.w ∧ (∃ z : Since w, y.w = z.w) ∧ RideRow y.w a L' ∧ L'.map Ride.bare = L.map Ride.bare
theorem each_l {W : World} (w' : World) (hw : IsSince W w') (a : Option Addr) (R : List Ride) (c : Nat) (each : Int) (h : RideRow w' a R) (hl : R.length ≤ 9223372036854775807) (hlp : ∀ r ∈ R, r.legs.length ≤ 100000 ∧ r.pauses.length ≤ 100000) :
    Calls Try.prog 13 #[.slice a R.length c, .int .i64 each] w' (EachS W w' (eachV R each) (eachE R each)) := by
  refine (each_calls w' (Since.self w') a R c each h hl hlp).mono ?_
  rintro o _ ⟨a', c', L', z, ho, rfl, h1, _, h3⟩
  obtain ⟨x, rfl⟩ := hw
  obtain ⟨y, hy⟩ := x.trans z
  exact ⟨a', c', L', y, ho, hy, ⟨z, hy.symm⟩, hy ▸ h1, h3⟩
/-- the numbers of a list of cells lie in memory at every later world -/
theorem row_at {B : World} {b off n : Nat} {f : Nat → Value} (h : Row B (some ⟨b, off, none⟩) n f) (i : Nat) (hi : i < n) (y : Since B) : y.w.cell? ⟨b, off + i, none⟩ = some (f i) := Since.at h i hi y
theorem isSince_to {w W z : World} (h : IsSince w W) (hz : ∃ v : Since W, z = v.w) : IsSince w z := h.trans hz
end Go.Proofs.Ytdmmjapccgeffaa
/- The frame of the laws of trips: opening tables and cases. -/
namespace Go.Proofs.Ytdmmjapccgeffaa
open Go.ChangeShapes Go.WideShapes Go.ChangeAt Go.RowKit

theorem cInts : Try.prog.cellsOf 29 = 1 := by kernel_rfl
theorem cRides : Try.prog.cellsOf 22 = 1 := by kernel_rfl
theorem cWin : Try.prog.cellsOf 34 = 2 := by kernel_rfl
theorem cTable : Try.prog.cellsOf 39 = 3 := by kernel_rfl
theorem cCase : Try.prog.cellsOf 36 = 6 := by kernel_rfl
noncomputable def winF : Array Field := Try.prog.fieldsOf 34
theorem uWin : Try.prog.underlying 34 = some (.struct winF) := by kernel_rfl
theorem winL : (winF.toList.map fun f => (f.offset, f.type)) = [(0, 3), (1, 3)] := by kernel_rfl
noncomputable def tableF : Array Field := Try.prog.fieldsOf 39
theorem uTable : Try.prog.underlying 39 = some (.struct tableF) := by kernel_rfl
theorem tableL : (tableF.toList.map fun f => (f.offset, f.type)) = [(0, 3), (1, 3), (2, 29)] := by kernel_rfl
noncomputable def caseF : Array Field := Try.prog.fieldsOf 36
theorem uCase : Try.prog.underlying 36 = some (.struct caseF) := by kernel_rfl
theorem caseL : (caseF.toList.map fun f => (f.offset, f.type)) = [(0, 29), (1, 3), (2, 3), (3, 22), (4, 34)] := by kernel_rfl
section
variable {H : Type} {enc : TypeId × Value → H} {w : World} {base fuel : Nat} {spare : Nat → Bool} {held : Bool} {cs : List Value} {y : DataW H × List MemPlace}
theorem win1 {c d : Value} (h : DataW.trod enc Try.prog w base spare held fuel 34 [c, d] = some y) : ∃ m n : Int, c = .int .i64 m ∧ d = .int .i64 n ∧ I64 m ∧ I64 n := by
  obtain ⟨_, hf⟩ := trod_fields uWin winL h
  obtain ⟨_, _, h0⟩ := hf 0 _ rfl
  obtain ⟨_, _, h1⟩ := hf 1 _ rfl
  simp only [cInt] at h0 h1
  obtain ⟨m, rfl, hm⟩ := int1 h0
  obtain ⟨n, rfl, hn⟩ := int1 h1
  exact ⟨m, n, rfl, rfl, hm, hn⟩
set_option maxRecDepth 20000 in
theorem table1 (h : DataW.trod enc Try.prog w base spare held fuel 39 cs = some y) : ∃ (T : Tab) (a : Option Addr) (c : Nat), cs = [.int .i64 T.r, .int .i64 T.c, .slice a T.l.length c] ∧ IntRow w a T.l ∧ T.l.length ≤ 9223372036854775807 ∧ I64 T.r ∧ I64 T.c ∧ ∀ z ∈ T.l, I64 z := by
  obtain ⟨hl, hf⟩ := trod_fields uTable tableL h
  rw [cTable] at hl
  match cs, hl with
  | [c0, c1, c2], _ =>
    obtain ⟨_, _, h0⟩ := hf 0 _ rfl
    obtain ⟨_, _, h1⟩ := hf 1 _ rfl
    obtain ⟨_, _, h2⟩ := hf 2 _ rfl
    simp only [cInt, cInts] at h0 h1 h2
    obtain ⟨r, rfl, i0⟩ := int1 h0
    obtain ⟨c, rfl, i1⟩ := int1 h1
    obtain ⟨a, l, cap, rfl, k1, k2, k3, k4⟩ := open_row Try.underlying29 Try.underlying3 cInt h2
    exact ⟨⟨r, c, l⟩, a, cap, rfl, k3, Nat.le_trans k1 k2, i0, i1, fun z hz => wf_i64 (k4 z hz)⟩
set_option maxRecDepth 20000 in
theorem case1 (h : DataW.trod enc Try.prog w base spare held fuel 36 cs = some y) : ∃ q : Cas, cs = [.slice q.az q.zs.length q.cz, .int .i64 q.n, .int .i64 q.e, .slice q.a q.R.length q.c, .int .i64 q.f, .int .i64 q.t] ∧ q.At w := by
  obtain ⟨hl, hf⟩ := trod_fields uCase caseL h
  rw [cCase] at hl
  match cs, hl with
  | [c0, c1, c2, c3, c4, c5], _ =>
    obtain ⟨_, _, h0⟩ := hf 0 _ rfl
    obtain ⟨_, _, h1⟩ := hf 1 _ rfl
    obtain ⟨_, _, h2⟩ := hf 2 _ rfl
    obtain ⟨_, _, h3⟩ := hf 3 _ rfl
    obtain ⟨_, _, h4⟩ := hf 4 _ rfl
    simp only [cInt, cInts, cRides, cWin] at h0 h1 h2 h3 h4
    obtain ⟨az, zs, cz, rfl, k1, k2, k3, k4⟩ := open_row Try.underlying29 Try.underlying3 cInt h0
    obtain ⟨n, rfl, i1⟩ := int1 h1
    obtain ⟨e, rfl, i2⟩ := int1 h2
    obtain ⟨a, R, c, hs, m1, m2, m3, m4, m5⟩ := open_sliceG (encA := Ride.cs) (Q := RideIn w) Try.underlying22 cRide (by decide) Ride.len (fun _ _ _ h => ride1 h) h3
    subst hs
    obtain ⟨f, t, rfl, rfl, i3, i4⟩ := win1 h4
    exact ⟨⟨az, zs, cz, n, e, a, R, c, f, t⟩, rfl, k3, ⟨m4, fun x hx => (m5 x hx).1⟩, Nat.le_trans k1 k2, Nat.le_trans m1 m2, fun r hr => by
      obtain ⟨_, ⟨_, _, _, _, _, _, _, i7, _, i9, _⟩, _⟩ := m5 r hr
      exact ⟨i7.2, i9.2⟩⟩
end
section
variable {H : Type} {enc : TypeId × Value → H} {w : World} {b0 : Nat} {r : Reach} {held : Bool} {v : Value} {d : DataW H} {p : List MemPlace}
set_option maxRecDepth 20000 in
theorem open_case (hv : Value.okWide Try.prog w r b0 36 v) (h : DataW.Trod enc Try.prog w 0 (fun _ => true) held 36 v d p) :
    ∃ q : Cas, v = .agg #[.slice q.az q.zs.length q.cz, .int .i64 q.n, .int .i64 q.e, .slice q.a q.R.length q.c, .int .i64 q.f, .int .i64 q.t] ∧ q.At w := by
  obtain ⟨cs, rfl, hsz⟩ := okWide_struct uCase hv
  obtain ⟨l⟩ := cs
  obtain ⟨fuel, hf⟩ := h
  obtain ⟨q, hq, hi⟩ := case1 (show DataW.trod enc Try.prog w 0 (fun _ => true) held fuel 36 l = some (d, p) from hf)
  subst hq
  exact ⟨q, rfl, hi⟩
set_option maxRecDepth 20000 in
theorem open_table (hv : Value.okWide Try.prog w r b0 39 v) (h : DataW.Trod enc Try.prog w 0 (fun _ => true) held 39 v d p) :
    ∃ (T : Tab) (a : Option Addr) (c : Nat), v = .agg #[.int .i64 T.r, .int .i64 T.c, .slice a T.l.length c] ∧ IntRow w a T.l ∧ T.l.length ≤ 9223372036854775807 ∧ I64 T.r ∧ I64 T.c ∧ ∀ z ∈ T.l, I64 z := by
  obtain ⟨cs, rfl, hsz⟩ := okWide_struct uTable hv
  obtain ⟨l⟩ := cs
  obtain ⟨fuel, hf⟩ := h
  obtain ⟨T, a, c, hq, hi⟩ := table1 (show DataW.trod enc Try.prog w 0 (fun _ => true) held fuel 39 l = some (d, p) from hf)
  subst hq
  exact ⟨T, a, c, rfl, hi⟩
end
end Go.Proofs.Ytdmmjapccgeffaa
