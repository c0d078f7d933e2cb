/- Trips between zones: tables of a part of the rides, of the rides in another order, of a part of the window; sums of cells: plain mathematics of the laws. -/
import Derived.Test.YtdkcclngionihaaDoorRlMn
import Derived.IntWalk
set_option linter.all false
namespace Go.Proofs.YtdkcclngionihaaDoor
open Go.RowKit

theorem nodup_lt_lenT : ∀ (n : Nat) (l : List Nat), l.Nodup → (∀ x ∈ l, x < n) → l.length ≤ n
  | 0, [], _, _ => Nat.le_refl _
  | 0, x :: l, _, h => by have := h x (by simp); omega
  | n + 1, l, hn, h => by
    by_cases hm : n ∈ l
    · have h1 := nodup_lt_lenT n (l.erase n) (hn.erase n) (fun x hx => by
        have := h x (List.mem_of_mem_erase hx)
        have hne : x ≠ n := by rintro rfl; exact hn.not_mem_erase hx
        omega)
      have := List.length_erase_of_mem hm
      omega
    · have h1 := nodup_lt_lenT n l hn (fun x hx => by
        have := h x hx
        have hne : x ≠ n := by rintro rfl; exact hm hx
        omega)
      omega
/-- sums -/
def tsumN (f : Nat → Int) : Nat → Int
  | 0 => 0
  | n + 1 => tsumN f n + f n
theorem tsumN_congr {f g : Nat → Int} : ∀ n, (∀ i, i < n → f i = g i) → tsumN f n = tsumN g n
  | 0, _ => rfl
  | n + 1, h => by simp only [tsumN]; rw [tsumN_congr n fun i hi => h i (by omega), h n (by omega)]
theorem tsumN_add (f g : Nat → Int) : ∀ n, tsumN (fun i => f i + g i) n = tsumN f n + tsumN g n
  | 0 => rfl
  | n + 1 => by simp only [tsumN]; rw [tsumN_add f g n]; omega
theorem tsumN_zero : ∀ n, tsumN (fun _ => 0) n = 0
  | 0 => rfl
  | n + 1 => by simp only [tsumN]; rw [tsumN_zero n]; rfl
theorem tsumN_one (c : Int) : ∀ n : Nat, tsumN (fun i => if c = (i : Int) then 1 else 0) n = if 0 ≤ c ∧ c < n then 1 else 0
  | 0 => by simp only [tsumN]; rw [if_neg (by omega)]
  | n + 1 => by
    simp only [tsumN]
    rw [tsumN_one c n]
    by_cases h1 : c = (n : Int)
    · rw [if_pos h1, if_neg (by omega), if_pos (by omega)]; rfl
    · rw [if_neg h1]
      by_cases h2 : 0 ≤ c ∧ c < n
      · rw [if_pos h2, if_pos (by omega)]; rfl
      · rw [if_neg h2, if_neg (by omega)]; rfl
theorem tsumN_nonneg {f : Nat → Int} (h : ∀ i, 0 ≤ f i) : ∀ n, 0 ≤ tsumN f n
  | 0 => Int.le_refl _
  | n + 1 => by have := tsumN_nonneg h n; have := h n; simp only [tsumN]; omega
theorem tsumN_mono {f : Nat → Int} (h : ∀ i, 0 ≤ f i) {m n : Nat} (hm : m ≤ n) : tsumN f m ≤ tsumN f n := by
  induction n with
  | zero =>
    obtain rfl : m = 0 := by omega
    exact Int.le_refl _
  | succ n ih =>
    by_cases hc : m ≤ n
    · have := ih hc; have := h n; simp only [tsumN]; omega
    · obtain rfl : m = n + 1 := by omega
      exact Int.le_refl _
/-- the error of rides -/
theorem ridesE_of {R : List Ride} (h1 : R.length ≤ 256) (h2 : (R.map fun r : Ride => r.id).Nodup) (h3 : ∀ r ∈ R, rideE r = 0) : ridesE R = 0 := by
  unfold ridesE
  have hf : firstErr R = 0 := by
    unfold firstErr
    rw [List.find?_eq_none.2 (fun r hr => by rw [h3 r hr]; simp)]
  rw [if_neg (by omega), if_neg (by rw [hf]; simp), dupB_false h2]; rfl
theorem ridesE_sub {R S : List Ride} (h : ridesE R = 0) (hs : S.Sublist R) : ridesE S = 0 := by
  obtain ⟨h1, h2, h3⟩ := ridesE_zero h
  exact ridesE_of (Nat.le_trans hs.length_le h1) (h2.sublist (hs.map _)) fun r hr => h3 r (hs.subset hr)
theorem ridesE_perm {R S : List Ride} (h : ridesE R = 0) (hs : S.Perm R) : ridesE S = 0 := by
  obtain ⟨h1, h2, h3⟩ := ridesE_zero h
  exact ridesE_of (by rw [hs.length_eq]; exact h1) ((hs.map _).symm.nodup h2) fun r hr => h3 r (hs.mem_iff.1 hr)
theorem eachE_of {R S : List Ride} {each : Int} (h : eachE R each = 0) (hs : ridesE R = 0 → ridesE S = 0) : eachE S each = 0 := by
  obtain ⟨h0, h1, h2⟩ := eachE_zero h
  unfold eachE
  rw [if_neg (by omega)]; exact hs h2
/-- when a table has no error -/
def tabOk0 (zs : List Int) (size : Int) (R : List Ride) (f t each : Int) : Prop :=
  (1 ≤ size ∧ size ≤ 8 ∧ 0 ≤ f ∧ f ≤ t ∧ t ≤ 4294944000) ∧ eachE R each = 0 ∧ ∀ r ∈ cntL R each f t, endE zs r = 0 ∧ bigR zs size r = false
theorem endsE_zero {zs : List Int} {L : List Ride} (h : endsE zs L = 0) : ∀ r ∈ L, endE zs r = 0 := by
  intro r hr
  unfold endsE at h
  cases hf : L.find? (fun r => endE zs r != 0) with
  | none =>
    rw [List.find?_eq_none] at hf
    simpa using hf r hr
  | some x =>
    rw [hf] at h
    have := List.find?_some hf
    simp at this
    exact (this h).elim
theorem tabE_zero (zs : List Int) (size : Int) (R : List Ride) (f t each : Int) : tabE zs size R f t each = 0 ↔ tabOk0 zs size R f t each := by
  unfold tabE tabOk0
  by_cases h1 : size < 1 ∨ 8 < size ∨ f < 0 ∨ t < f ∨ 4294944000 < t
  · rw [if_pos h1]
    constructor
    · intro h; cases h
    · rintro ⟨h, _⟩; omega
  rw [if_neg h1]
  by_cases h2 : eachE R each ≠ 0
  · rw [if_pos h2]
    exact ⟨fun h => (h2 h).elim, fun h => (h2 h.2.1).elim⟩
  rw [if_neg h2]
  have h2' : eachE R each = 0 := by simpa using h2
  by_cases h3 : endsE zs (cntL R each f t) ≠ 0
  · rw [if_pos h3]
    exact ⟨fun h => (h3 h).elim, fun h => (h3 (endsE_no fun r hr => (h.2.2 r hr).1)).elim⟩
  rw [if_neg h3]
  have h3' : endsE zs (cntL R each f t) = 0 := by simpa using h3
  by_cases h4 : (cntL R each f t).any (bigR zs size) = true
  · rw [if_pos h4]
    constructor
    · intro h; cases h
    · intro h
      obtain ⟨r, hr, hb⟩ := List.any_eq_true.1 h4
      rw [(h.2.2 r hr).2] at hb; cases hb
  · rw [if_neg h4]
    refine ⟨fun _ => ⟨by omega, h2', fun r hr => ⟨endsE_zero h3' r hr, ?_⟩⟩, fun _ => rfl⟩
    cases hb : bigR zs size r
    · rfl
    · exact (h4 (List.any_eq_true.2 ⟨r, hr, hb⟩)).elim
theorem tabV_ok {zs : List Int} {size : Int} {R : List Ride} {f t each : Int} (h : tabE zs size R f t each = 0) : tabV zs size R f t each = ⟨size, size, cells zs size (cntL R each f t)⟩ := if_pos h
theorem tabV_no {zs : List Int} {size : Int} {R : List Ride} {f t each : Int} (h : tabE zs size R f t each ≠ 0) : tabV zs size R f t each = tab0 := if_neg h
theorem cells_len (zs : List Int) (size : Int) (L : List Ride) : (cells zs size L).length = (size * size).toNat := by simp [cells]
theorem cells_at {zs : List Int} {size : Int} {L : List Ride} {i : Nat} (h : i < (size * size).toNat) : at0 (cells zs size L) i = celN zs size L i := by
  simp [at0, cells, List.getD_eq_getElem?_getD, h]
/-- the sum of the cells -/
theorem celN_cons (zs : List Int) (size : Int) (r : Ride) (L : List Ride) (i : Nat) : celN zs size (r :: L) i = celN zs size L i + if (!bigR zs size r && decide (celR zs size r = (i : Int))) = true then 1 else 0 := by
  unfold celN
  rw [List.filter_cons]
  by_cases h : (!bigR zs size r && decide (celR zs size r = (i : Int))) = true
  · rw [if_pos h, if_pos h, List.length_cons]; push_cast; rfl
  · rw [if_neg h, if_neg h]; omega
theorem cel_in {zs : List Int} {size : Int} {r : Ride} (hs : 1 ≤ size ∧ size ≤ 8) (he : endE zs r = 0) (hb : bigR zs size r = false) : 0 ≤ celR zs size r ∧ celR zs size r < (size * size).toNat := by
  obtain ⟨_, _, ⟨a1, a2⟩, b1, b2⟩ := ends_zero he
  unfold bigR at hb
  rw [Bool.or_eq_false_iff, decide_eq_false_iff_not, decide_eq_false_iff_not] at hb
  have h := tab_idx a1 (by omega : fromZ zs r < size) b1 (by omega : toZ zs r < size) hs.2
  have hp : 0 ≤ size * size := Int.mul_nonneg (by omega) (by omega)
  unfold celR
  omega
theorem sum_cells {zs : List Int} {size : Int} (hs : 1 ≤ size ∧ size ≤ 8) : ∀ L : List Ride, (∀ r ∈ L, endE zs r = 0 ∧ bigR zs size r = false) → tsumN (celN zs size L) (size * size).toNat = L.length
  | [], _ => by
    have : celN zs size [] = fun _ => 0 := by funext i; rfl
    rw [this, tsumN_zero]; rfl
  | r :: L, h => by
    have ih := sum_cells hs L fun x hx => h x (List.mem_cons_of_mem _ hx)
    obtain ⟨he, hb⟩ := h r (by simp)
    have hf : celN zs size (r :: L) = fun i => celN zs size L i + if celR zs size r = (i : Int) then 1 else 0 := by
      funext i
      rw [celN_cons, hb]
      simp
    rw [hf, tsumN_add, ih, tsumN_one, if_pos (cel_in hs he hb), List.length_cons]; push_cast; rfl
theorem celN_part (zs : List Int) (size : Int) (q : Ride → Bool) (i : Nat) : ∀ L : List Ride, celN zs size L i = celN zs size (L.filter fun r => !q r) i + celN zs size (L.filter q) i
  | [] => rfl
  | r :: L => by
    have ih := celN_part zs size q i L
    rw [celN_cons, ih, List.filter_cons, List.filter_cons]
    cases hq : q r
    · simp only [Bool.not_false, if_true, Bool.false_eq_true, if_false]; rw [celN_cons]; omega
    · simp only [Bool.not_true, if_true, Bool.false_eq_true, if_false]; rw [celN_cons]; omega
/-- rides that are a part by rider and day -/
theorem ahd_part {R : List Ride} {q : Ride → Bool} (hq : ∀ r s, key r = key s → q r = q s) {x : Ride} (hx : q x = true) : ahd (R.filter q) x = ahd R x := by
  unfold ahd
  rw [List.filter_filter]
  congr 1
  refine List.filter_congr fun r _ => ?_
  cases hk : ofK (key x) r
  · simp
  · have : key r = key x := by
      unfold ofK at hk
      rw [Bool.and_eq_true, decide_eq_true_eq] at hk; exact hk.2
    rw [hq r x this, hx, Bool.and_true]
theorem eachL_part {R : List Ride} {q : Ride → Bool} (hq : ∀ r s, key r = key s → q r = q s) (each : Int) : eachL (R.filter q) each = (eachL R each).filter q := by
  unfold eachL
  rw [List.filter_filter, List.filter_filter]
  refine List.filter_congr fun r _ => ?_
  cases hr : q r
  · simp
  · unfold ctd
    rw [ahd_part hq hr]; simp
theorem cntL_part {R : List Ride} {q : Ride → Bool} (hq : ∀ r s, key r = key s → q r = q s) (each f t : Int) : cntL (R.filter q) each f t = (cntL R each f t).filter q := by
  unfold cntL
  rw [eachL_part hq, List.filter_filter, List.filter_filter]
  exact List.filter_congr fun r _ => Bool.and_comm _ _
theorem tabE_part {zs : List Int} {size : Int} {R : List Ride} {f t each : Int} {q : Ride → Bool} (hq : ∀ r s, key r = key s → q r = q s) (h : tabE zs size R f t each = 0) : tabE zs size (R.filter q) f t each = 0 := by
  rw [tabE_zero] at h ⊢
  obtain ⟨h1, h2, h3⟩ := h
  refine ⟨h1, eachE_of h2 fun h => ridesE_sub h List.filter_sublist, fun r hr => ?_⟩
  rw [cntL_part hq] at hr
  exact h3 r (List.mem_filter.1 hr).1
/-- at most so many of a rider and day -/
theorem filter_leT {α : Type} {p q : α → Bool} : ∀ L : List α, (∀ x, p x = true → q x = true) → (L.filter p).length ≤ (L.filter q).length
  | [], _ => Nat.le_refl _
  | x :: L, h => by
    have ih := filter_leT L h
    rw [List.filter_cons, List.filter_cons]
    cases hp : p x
    · cases hq : q x
      · simpa using ih
      · simp; omega
    · rw [h x hp]; simp; omega
theorem filter_ltT {α : Type} {p q : α → Bool} {r : α} (hp : p r = false) (hq : q r = true) (h : ∀ x, p x = true → q x = true) : ∀ L : List α, r ∈ L → (L.filter p).length < (L.filter q).length
  | [], hr => by cases hr
  | x :: L, hr => by
    rw [List.filter_cons, List.filter_cons]
    rcases List.mem_cons.1 hr with rfl | hr
    · rw [hp, hq]
      have := filter_leT L h
      simp; omega
    · have ih := filter_ltT hp hq h L hr
      cases hp' : p x
      · cases hq' : q x
        · simpa using ih
        · simp; omega
      · rw [h x hp']; simp; omega
theorem ahd_lt {R : List Ride} {r s : Ride} (hr : r ∈ R) (ho : r.op = false) (hk : key r = key s) (hb : bf r s = true) : ahd R r < ahd R s := by
  unfold ahd
  rw [hk]
  refine filter_ltT (r := r) ?_ ?_ ?_ R hr
  · rw [bf_irrefl]; simp
  · unfold ofK; rw [hb, ho, hk]; simp
  · intro x hx
    rw [Bool.and_eq_true] at hx ⊢
    exact ⟨hx.1, bf_trans hx.2 hb⟩
theorem each_bound {R : List Ride} {each : Int} (h : eachE R each = 0) (k : Int × Int) : (((eachL R each).filter fun r => decide (key r = k)).length : Int) ≤ each := by
  obtain ⟨e0, _, hr⟩ := eachE_zero h
  obtain ⟨_, hid, _⟩ := ridesE_zero hr
  have hm : ∀ r ∈ (eachL R each).filter (fun r => decide (key r = k)), r ∈ R ∧ r.op = false ∧ key r = k ∧ (ahd R r : Int) < each := by
    intro r hr
    obtain ⟨h1, h2⟩ := List.mem_filter.1 hr
    obtain ⟨h3, h4⟩ := List.mem_filter.1 h1
    unfold ctd at h4
    rw [Bool.and_eq_true, Bool.not_eq_true', decide_eq_true_eq] at h4
    exact ⟨h3, h4.1, of_decide_eq_true h2, h4.2⟩
  have hs : ((eachL R each).filter fun r => decide (key r = k)).Sublist R := List.filter_sublist.trans List.filter_sublist
  have hp : ((eachL R each).filter fun r => decide (key r = k)).Pairwise fun a b => a.id ≠ b.id := (List.pairwise_map.1 hid).sublist hs
  have hn : (((eachL R each).filter fun r => decide (key r = k)).map (ahd R)).Nodup := by
    refine List.pairwise_map.2 (hp.imp_of_mem fun {a b} ha hb hab => ?_)
    obtain ⟨a1, a2, a3, _⟩ := hm a ha
    obtain ⟨b1, b2, b3, _⟩ := hm b hb
    cases h1 : bf a b
    · cases h2 : bf b a
      · exact (hab (bf_total h1 h2)).elim
      · have := ahd_lt b1 b2 (b3.trans a3.symm) h2; omega
    · have := ahd_lt a1 a2 (a3.trans b3.symm) h1; omega
  have := nodup_lt_lenT each.toNat _ hn fun x hx => by
    obtain ⟨r, hr, rfl⟩ := List.mem_map.1 hx
    have := (hm r hr).2.2.2; omega
  rw [List.length_map] at this
  omega
theorem cnt_bound {R : List Ride} {each f t : Int} {q : Ride → Bool} {k : Int × Int} (h : eachE R each = 0) (hq : ∀ r, q r = true → key r = k) : (((cntL R each f t).filter q).length : Int) ≤ each := by
  have := each_bound h k
  have h2 : ((cntL R each f t).filter q).length ≤ ((eachL R each).filter fun r => decide (key r = k)).length := by
    unfold cntL
    rw [List.filter_filter]
    refine filter_leT _ fun x hx => ?_
    rw [Bool.and_eq_true] at hx
    exact decide_eq_true (hq x hx.1)
  omega
theorem apS_parts {a b : List Int} {c : Nat → Int} : ∀ n, (∀ i, i < n → at0 a i = at0 b i + c i ∧ 0 ≤ c i) → apS a b n = tsumN c n
  | 0, _ => rfl
  | n + 1, h => by
    have ih := apS_parts n fun i hi => h i (by omega)
    obtain ⟨h1, h2⟩ := h n (by omega)
    simp only [apS, tsumN]
    rw [ih, h1]
    omega
/-- a table is accepted -/
theorem cntL_len (R : List Ride) (each f t : Int) : (cntL R each f t).length ≤ R.length := by
  rw [cntL_eq]; exact List.length_filter_le _ _
theorem chk_table {zs : List Int} {size : Int} {R : List Ride} {f t each : Int} (h : tabE zs size R f t each = 0) : chkE (tabV zs size R f t each) = 0 := by
  rw [tabV_ok h]
  obtain ⟨h1, h2, _⟩ := (tabE_zero ..).1 h
  have hl := (ridesE_zero (eachE_zero h2).2.2).1
  have hp : 0 ≤ size * size := Int.mul_nonneg (by omega) (by omega)
  unfold chkE
  rw [if_neg (by show ¬ (size < 1 ∨ 8 < size ∨ size < 1 ∨ 8 < size); omega), if_neg (by show ¬ (((cells zs size (cntL R each f t)).length : Int) ≠ size * size); rw [cells_len]; omega), if_neg]
  show ¬ ((cells zs size (cntL R each f t)).any _ = true)
  rw [List.any_eq_true]
  rintro ⟨n, hn, hb⟩
  unfold cells at hn
  obtain ⟨i, _, rfl⟩ := List.mem_map.1 hn
  have := celN_range zs size (cntL R each f t) i
  have := cntL_len R each f t
  rw [Bool.or_eq_true, decide_eq_true_eq, decide_eq_true_eq] at hb
  omega
/-- another order -/
theorem ahd_rev (R : List Ride) (x : Ride) : ahd R.reverse x = ahd R x := by
  unfold ahd
  rw [List.filter_reverse, List.length_reverse]
theorem eachL_rev (R : List Ride) (each : Int) : eachL R.reverse each = (eachL R each).reverse := by
  unfold eachL
  rw [List.filter_reverse]
  congr 1
  refine List.filter_congr fun r _ => ?_
  unfold ctd
  rw [ahd_rev]
theorem cntL_rev (R : List Ride) (each f t : Int) : cntL R.reverse each f t = (cntL R each f t).reverse := by
  unfold cntL
  rw [eachL_rev, List.filter_reverse]
theorem celN_rev (zs : List Int) (size : Int) (L : List Ride) (i : Nat) : celN zs size L.reverse i = celN zs size L i := by
  unfold celN
  rw [List.filter_reverse, List.length_reverse]
theorem ridesE_rev {R : List Ride} (h : ridesE R = 0) : ridesE R.reverse = 0 := ridesE_perm h R.reverse_perm
theorem eachE_rev (R : List Ride) (each : Int) : eachE R.reverse each = 0 ↔ eachE R each = 0 :=
  ⟨fun h => eachE_of h fun h => by
    have := ridesE_rev h
    rwa [List.reverse_reverse] at this, fun h => eachE_of h ridesE_rev⟩
theorem tabE_rev1 {zs : List Int} {size : Int} {R : List Ride} {f t each : Int} (h : tabE zs size R f t each = 0) : tabE zs size R.reverse f t each = 0 := by
  rw [tabE_zero] at h ⊢
  refine ⟨h.1, (eachE_rev R each).2 h.2.1, fun r hr => ?_⟩
  rw [cntL_rev, List.mem_reverse] at hr
  exact h.2.2 r hr
theorem tabE_rev (zs : List Int) (size : Int) (R : List Ride) (f t each : Int) : tabE zs size R.reverse f t each = 0 ↔ tabE zs size R f t each = 0 :=
  ⟨fun h => by have := tabE_rev1 h; rwa [List.reverse_reverse] at this, tabE_rev1⟩
theorem tabV_rev (zs : List Int) (size : Int) (R : List Ride) (f t each : Int) : tabV zs size R.reverse f t each = tabV zs size R f t each := by
  by_cases h : tabE zs size R f t each = 0
  · rw [tabV_ok h, tabV_ok (tabE_rev1 h), cntL_rev]
    have : cells zs size (cntL R each f t).reverse = cells zs size (cntL R each f t) := by
      unfold cells
      exact List.map_congr_left fun i _ => celN_rev zs size _ i
    rw [this]
  · rw [tabV_no h, tabV_no (fun h2 => h ((tabE_rev ..).1 h2))]
theorem eachV_rev (R : List Ride) (each : Int) : eachV R.reverse each = (eachV R each).reverse := by
  unfold eachV
  by_cases h : eachE R each = 0
  · rw [if_pos h, if_pos ((eachE_rev R each).2 h), eachL_rev]
  · rw [if_neg h, if_neg (fun h2 => h ((eachE_rev R each).1 h2))]; rfl
/-- parts of the window -/
theorem cntL_lo {R : List Ride} {each f u t : Int} (h2 : u ≤ t) : cntL R each f u = (cntL R each f t).filter fun r => decide (r.s0 < u) := by
  unfold cntL
  rw [List.filter_filter]
  refine List.filter_congr fun r _ => ?_
  unfold inT
  by_cases h : r.s0 < u
  · rw [decide_eq_true h, decide_eq_true (show r.s0 < t by omega)]; simp
  · rw [decide_eq_false h]; simp
theorem cntL_hi {R : List Ride} {each f u t : Int} (h1 : f ≤ u) : cntL R each u t = (cntL R each f t).filter fun r => !decide (r.s0 < u) := by
  unfold cntL
  rw [List.filter_filter]
  refine List.filter_congr fun r _ => ?_
  unfold inT
  by_cases h : u ≤ r.s0
  · rw [decide_eq_true h, decide_eq_true (show f ≤ r.s0 by omega), decide_eq_false (show ¬ r.s0 < u by omega)]; simp
  · rw [decide_eq_false h, decide_eq_true (show r.s0 < u by omega)]; simp
theorem tabE_parts {zs : List Int} {size : Int} {R : List Ride} {each f u t : Int} (h1 : f ≤ u) (h2 : u ≤ t) : tabE zs size R f t each = 0 ↔ tabE zs size R f u each = 0 ∧ tabE zs size R u t each = 0 := by
  simp only [tabE_zero]
  unfold tabOk0
  rw [cntL_lo (f := f) h2, cntL_hi (t := t) h1]
  constructor
  · rintro ⟨a, b, c⟩
    exact ⟨⟨by omega, b, fun r hr => c r (List.mem_filter.1 hr).1⟩, by omega, b, fun r hr => c r (List.mem_filter.1 hr).1⟩
  · rintro ⟨⟨a, b, c⟩, a', _, c'⟩
    refine ⟨by omega, b, fun r hr => ?_⟩
    by_cases h : r.s0 < u
    · exact c r (List.mem_filter.2 ⟨hr, by simpa using h⟩)
    · exact c' r (List.mem_filter.2 ⟨hr, by simpa using h⟩)
theorem celN_parts {zs : List Int} {size : Int} {R : List Ride} {each f u t : Int} (h1 : f ≤ u) (h2 : u ≤ t) (i : Nat) : celN zs size (cntL R each f t) i = celN zs size (cntL R each f u) i + celN zs size (cntL R each u t) i := by
  rw [cntL_lo (f := f) h2, cntL_hi (t := t) h1, celN_part zs size (fun r => decide (r.s0 < u)) i]
  omega
/-- distances -/
theorem apS_symm (a b : List Int) : ∀ n, apS a b n = apS b a n
  | 0 => rfl
  | n + 1 => by simp only [apS]; rw [apS_symm a b n]; omega
theorem apS_tri (a b c : List Int) : ∀ n, apS a c n ≤ apS a b n + apS b c n
  | 0 => by simp [apS]
  | n + 1 => by have := apS_tri a b c n; simp only [apS]; omega
theorem apS_nonneg (a b : List Int) : ∀ n, 0 ≤ apS a b n
  | 0 => by simp [apS]
  | n + 1 => by have := apS_nonneg a b n; simp only [apS]; omega
theorem apS_zero {a b : List Int} : ∀ n, apS a b n = 0 ↔ ∀ i, i < n → at0 a i = at0 b i
  | 0 => by simp [apS]
  | n + 1 => by
    have ih := apS_zero (a := a) (b := b) n
    have h0 := apS_nonneg a b n
    simp only [apS]
    constructor
    · intro h i hi
      by_cases hc : i < n
      · exact ih.1 (by omega) i hc
      · obtain rfl : i = n := by omega
        omega
    · intro h
      have := ih.2 fun i hi => h i (by omega)
      have := h n (by omega)
      omega
theorem apE_ok {a b : Tab} (h : apE a b = 0) : TabOk a ∧ TabOk b ∧ a.r = b.r ∧ a.c = b.c ∧ a.l.length = b.l.length := by
  unfold apE at h
  by_cases h1 : chkE a = 0
  case neg => rw [if_pos h1] at h; exact (h1 h).elim
  rw [if_neg (by simpa using h1)] at h
  by_cases h2 : chkE b = 0
  case neg => rw [if_pos h2] at h; exact (h2 h).elim
  rw [if_neg (by simpa using h2)] at h
  by_cases h3 : a.r ≠ b.r ∨ a.c ≠ b.c
  · rw [if_pos h3] at h; cases h
  have ha := tabOk_of h1
  have hb := tabOk_of h2
  have e1 : a.r = b.r := by omega
  have e2 : a.c = b.c := by omega
  refine ⟨ha, hb, e1, e2, ?_⟩
  have h5 := ha.n
  have h6 := hb.n
  rw [e1, e2] at h5
  omega
theorem apE_chk {a b : Tab} (h : apE a b = 0) : chkE a = 0 ∧ chkE b = 0 := by
  unfold apE at h
  by_cases h1 : chkE a = 0
  case neg => rw [if_pos h1] at h; exact (h1 h).elim
  rw [if_neg (by simpa using h1)] at h
  by_cases h2 : chkE b = 0
  case neg => rw [if_pos h2] at h; exact (h2 h).elim
  exact ⟨h1, h2⟩
theorem apE_of {a b : Tab} (h1 : chkE a = 0) (h2 : chkE b = 0) (h3 : a.r = b.r) (h4 : a.c = b.c) : apE a b = 0 := by
  unfold apE
  rw [if_neg (by simpa using h1), if_neg (by simpa using h2), if_neg (by simp [h3, h4])]
theorem apart_tri {a b c : Tab} (h1 : apE a b = 0) (h2 : apE a c = 0) (h3 : apE b c = 0) : apV a c ≤ apV a b + apV b c := by
  unfold apV
  rw [if_pos h1, if_pos h2, if_pos h3, ← (apE_ok h1).2.2.2.2]
  exact apS_tri _ _ _ _
theorem apV_range (a b : Tab) : 0 ≤ apV a b ∧ apV a b ≤ 128000000 := by
  unfold apV
  by_cases h : apE a b = 0
  · rw [if_pos h]
    obtain ⟨ha, hb, _, _, e⟩ := apE_ok h
    have := apS_range ha hb a.l.length (Nat.le_refl _) (by omega)
    have := ha.len
    omega
  · rw [if_neg h]; omega
end Go.Proofs.YtdkcclngionihaaDoor
/- Cases of tables. -/
namespace Go.Proofs.YtdkcclngionihaaDoor
open Go.RowKit

/-- what a table is made of, with the places of its lists in memory -/
structure Cas where
  az : Option Addr
  zs : List Int
  cz : Nat
  n : Int
  e : Int
  a : Option Addr
  R : List Ride
  c : Nat
  f : Int
  t : Int
/-- the ends of rides are numbers of 64 bits -/
abbrev EndsI (R : List Ride) : Prop := ∀ r ∈ R, r.fp ≤ 9223372036854775807 ∧ r.pl ≤ 9223372036854775807
structure Cas.At (w : World) (q : Cas) : Prop where
  z : IntRow w q.az q.zs
  r : RideRow w q.a q.R
  zl : q.zs.length ≤ 9223372036854775807
  rl : q.R.length ≤ 9223372036854775807
  i : EndsI q.R
theorem Cas.At.to {w W : World} {q : Cas} (h : q.At w) (hW : ∃ z : Since w, W = z.w) : q.At W := ⟨h.z.to hW, h.r.to hW, h.zl, h.rl, h.i⟩
end Go.Proofs.YtdkcclngionihaaDoor
/- Tables without a rider's day: plain mathematics. -/
namespace Go.Proofs.YtdkcclngionihaaDoor
open Go.RowKit

/-- of this rider and day -/
def ofD (rider dd : Int) (r : Ride) : Bool := decide (r.rd = rider ∧ r.s0 / 86400 = dd)
theorem ofD_key {rider dd : Int} (r s : Ride) (h : key r = key s) : ofD rider dd r = ofD rider dd s := by
  have h1 : r.rd = s.rd := congrArg Prod.fst h
  have h2 : r.s0 / 86400 = s.s0 / 86400 := congrArg Prod.snd h
  unfold ofD
  rw [h1, h2]
theorem tabV_l' {zs : List Int} {size : Int} {R : List Ride} {f t each : Int} (h : tabE zs size R f t each = 0) : (tabV zs size R f t each).l = cells zs size (cntL R each f t) := by rw [tabV_ok h]
theorem bound_facts {q : Cas} {rider dd : Int} (h : tabE q.zs q.n q.R q.f q.t q.e = 0) :
    tabE q.zs q.n (q.R.filter fun r => !ofD rider dd r) q.f q.t q.e = 0 ∧ tabE q.zs q.n (q.R.filter (ofD rider dd)) q.f q.t q.e = 0 ∧
    (tabV q.zs q.n (q.R.filter fun r => !ofD rider dd r) q.f q.t q.e).l.length = (tabV q.zs q.n q.R q.f q.t q.e).l.length ∧ (tabV q.zs q.n (q.R.filter (ofD rider dd)) q.f q.t q.e).l.length = (tabV q.zs q.n q.R q.f q.t q.e).l.length ∧ (tabV q.zs q.n q.R q.f q.t q.e).l.length ≤ 64 ∧
    (∀ j, j < (tabV q.zs q.n q.R q.f q.t q.e).l.length → at0 (tabV q.zs q.n q.R q.f q.t q.e).l j = at0 (tabV q.zs q.n (q.R.filter fun r => !ofD rider dd r) q.f q.t q.e).l j + at0 (tabV q.zs q.n (q.R.filter (ofD rider dd)) q.f q.t q.e).l j ∧ 0 ≤ at0 (tabV q.zs q.n (q.R.filter fun r => !ofD rider dd r) q.f q.t q.e).l j ∧ at0 (tabV q.zs q.n (q.R.filter fun r => !ofD rider dd r) q.f q.t q.e).l j ≤ 256 ∧ 0 ≤ at0 (tabV q.zs q.n (q.R.filter (ofD rider dd)) q.f q.t q.e).l j ∧ at0 (tabV q.zs q.n (q.R.filter (ofD rider dd)) q.f q.t q.e).l j ≤ 256) ∧
    apV (tabV q.zs q.n q.R q.f q.t q.e) (tabV q.zs q.n (q.R.filter fun r => !ofD rider dd r) q.f q.t q.e) = tsumN (at0 (tabV q.zs q.n (q.R.filter (ofD rider dd)) q.f q.t q.e).l) (tabV q.zs q.n q.R q.f q.t q.e).l.length ∧
    apE (tabV q.zs q.n q.R q.f q.t q.e) (tabV q.zs q.n (q.R.filter fun r => !ofD rider dd r) q.f q.t q.e) = 0 ∧
    ∀ j, j ≤ (tabV q.zs q.n q.R q.f q.t q.e).l.length → 0 ≤ tsumN (at0 (tabV q.zs q.n (q.R.filter (ofD rider dd)) q.f q.t q.e).l) j ∧ tsumN (at0 (tabV q.zs q.n (q.R.filter (ofD rider dd)) q.f q.t q.e).l) j ≤ q.e ∧ q.e ≤ 256 := by
  have hkn : ∀ r s, key r = key s → (!ofD rider dd r) = !ofD rider dd s := fun r s h => by rw [ofD_key r s h]
  have hu := tabE_part (q := fun r => !ofD rider dd r) hkn h
  have hv := tabE_part (q := ofD rider dd) ofD_key h
  obtain ⟨h1, h2, h3⟩ := (tabE_zero ..).1 h
  obtain ⟨e0, e1, hrz⟩ := eachE_zero h2
  have hR := (ridesE_zero hrz).1
  have h64 : (tabV q.zs q.n q.R q.f q.t q.e).l.length ≤ 64 := by
    rw [tabV_l' h, cells_len]
    have : q.n * q.n ≤ 8 * 8 := Int.mul_le_mul h1.2.1 h1.2.1 (by omega) (by decide)
    omega
  have hck := chk_table h
  have hcu := chk_table hu
  have hap : apE (tabV q.zs q.n q.R q.f q.t q.e) (tabV q.zs q.n (q.R.filter fun r => !ofD rider dd r) q.f q.t q.e) = 0 := apE_of hck hcu (by rw [tabV_ok h, tabV_ok hu]) (by rw [tabV_ok h, tabV_ok hu])
  have hlv : (tabV q.zs q.n (q.R.filter (ofD rider dd)) q.f q.t q.e).l.length = (tabV q.zs q.n q.R q.f q.t q.e).l.length := by rw [tabV_l' h, tabV_l' hv, cells_len, cells_len]
  have hlu : (tabV q.zs q.n (q.R.filter fun r => !ofD rider dd r) q.f q.t q.e).l.length = (tabV q.zs q.n q.R q.f q.t q.e).l.length := by rw [tabV_l' h, tabV_l' hu, cells_len, cells_len]
  have hj : ∀ j, j < (tabV q.zs q.n q.R q.f q.t q.e).l.length → at0 (tabV q.zs q.n q.R q.f q.t q.e).l j = at0 (tabV q.zs q.n (q.R.filter fun r => !ofD rider dd r) q.f q.t q.e).l j + at0 (tabV q.zs q.n (q.R.filter (ofD rider dd)) q.f q.t q.e).l j ∧ 0 ≤ at0 (tabV q.zs q.n (q.R.filter fun r => !ofD rider dd r) q.f q.t q.e).l j ∧ at0 (tabV q.zs q.n (q.R.filter fun r => !ofD rider dd r) q.f q.t q.e).l j ≤ 256 ∧ 0 ≤ at0 (tabV q.zs q.n (q.R.filter (ofD rider dd)) q.f q.t q.e).l j ∧ at0 (tabV q.zs q.n (q.R.filter (ofD rider dd)) q.f q.t q.e).l j ≤ 256 := by
    intro j hj
    rw [tabV_l' h, cells_len] at hj
    rw [tabV_l' h, tabV_l' hu, tabV_l' hv, cells_at hj, cells_at hj, cells_at hj]
    have a1 := celN_range q.zs q.n (cntL (q.R.filter fun r => !ofD rider dd r) q.e q.f q.t) j
    have a2 := celN_range q.zs q.n (cntL (q.R.filter (ofD rider dd)) q.e q.f q.t) j
    have b1 := Nat.le_trans (cntL_len (q.R.filter fun r => !ofD rider dd r) q.e q.f q.t) (List.length_filter_le _ _)
    have b2 := Nat.le_trans (cntL_len (q.R.filter (ofD rider dd)) q.e q.f q.t) (List.length_filter_le _ _)
    refine ⟨?_, a1.1, by omega, a2.1, by omega⟩
    rw [cntL_part hkn, cntL_part ofD_key]
    exact celN_part q.zs q.n (ofD rider dd) j _
  refine ⟨hu, hv, hlu, hlv, h64, hj, ?_, hap, fun j hj2 => ⟨?_, ?_, e1⟩⟩
  · unfold apV
    rw [if_pos hap]
    exact apS_parts _ fun i hi => ⟨(hj i hi).1, (hj i hi).2.2.2.1⟩
  · have hc : tsumN (at0 (tabV q.zs q.n (q.R.filter (ofD rider dd)) q.f q.t q.e).l) j = tsumN (celN q.zs q.n (cntL (q.R.filter (ofD rider dd)) q.e q.f q.t)) j := tsumN_congr j fun i hi => by rw [tabV_l' hv]; exact cells_at (by rw [tabV_l' h, cells_len] at hj2; omega)
    rw [hc]
    exact tsumN_nonneg (fun i => (celN_range ..).1) j
  · have hc : tsumN (at0 (tabV q.zs q.n (q.R.filter (ofD rider dd)) q.f q.t q.e).l) j = tsumN (celN q.zs q.n (cntL (q.R.filter (ofD rider dd)) q.e q.f q.t)) j := tsumN_congr j fun i hi => by rw [tabV_l' hv]; exact cells_at (by rw [tabV_l' h, cells_len] at hj2; omega)
    rw [hc]
    have hj3 : j ≤ (q.n * q.n).toNat := by rw [tabV_l' h, cells_len] at hj2; exact hj2
    have hm := tsumN_mono (f := celN q.zs q.n (cntL (q.R.filter (ofD rider dd)) q.e q.f q.t)) (fun i => (celN_range ..).1) hj3
    rw [sum_cells (zs := q.zs) ⟨h1.1, h1.2.1⟩ _ ((tabE_zero ..).1 hv).2.2, cntL_part ofD_key] at hm
    have hb := cnt_bound (f := q.f) (t := q.t) (q := ofD rider dd) (k := (rider, dd)) h2 (fun r hr => by
      have hr2 : r.rd = rider ∧ r.s0 / 86400 = dd := of_decide_eq_true hr
      exact Prod.ext hr2.1 hr2.2)
    rw [cntL_part ofD_key]
    omega
end Go.Proofs.YtdkcclngionihaaDoor
/- What is hidden: the small cells, and as many as make the intervals wide; intervals lie in range: plain mathematics. -/
namespace Go.Proofs.YtdkcclngionihaaDoor

theorem sumF_split (f : Nat → Int) (m : Nat) : ∀ n, sumF f (m + n) = sumF f m + sumF (fun i => f (m + i)) n
  | 0 => by simp [sumF]
  | n + 1 => by
    have := sumF_split f m n
    show sumF f (m + n) + f (m + n) = sumF f m + (sumF (fun i => f (m + i)) n + f (m + n))
    omega
theorem arcAt_left {a b : List Arc} {i : Nat} (h : i < a.length) : arcAt (a ++ b) i = arcAt a i := by
  unfold arcAt
  rw [List.getD_eq_getElem?_getD, List.getElem?_append_left h, ← List.getD_eq_getElem?_getD]
theorem arcAt_right (a b : List Arc) (i : Nat) : arcAt (a ++ b) (a.length + i) = arcAt b i := by
  unfold arcAt
  rw [List.getD_eq_getElem?_getD, List.getElem?_append_right (by omega), show a.length + i - a.length = i by omega, ← List.getD_eq_getElem?_getD]
theorem cutC_append (a b : List Arc) (S : Int → Bool) : cutC (a ++ b) S = cutC a S + cutC b S := by
  unfold cutC
  rw [List.length_append, sumF_split]
  rw [sumF_congr a.length (g := fun i => if S (arcAt a i).u = true ∧ S (arcAt a i).v = false then (arcAt a i).cap else 0) (fun i hi => by rw [arcAt_left hi])]
  rw [sumF_congr b.length (g := fun i => if S (arcAt b i).u = true ∧ S (arcAt b i).v = false then (arcAt b i).cap else 0) (fun i hi => by rw [arcAt_right])]
theorem cut_col {R C : Nat} {l : List Int} (hG : SG R C l) (h : List Bool) (but : Nat) (s : Nat) (hs : R ≤ s) : ∀ k, k ≤ l.length → cutC (netN R C l h but k) (fun v => decide (v = (s : Int))) ≤ sumF (fun j => if j = but then 0 else at0 l j) k
  | 0, _ => Int.le_refl _
  | k + 1, hk => by
    have ih := cut_col hG h but s hs k (by omega)
    obtain ⟨z0, z1, z2, z3⟩ := hG.cell (i := k) (by omega)
    rw [netN, cutC_append]
    simp only [sumF]
    have hc : cutC (netC R C l h but k) (fun v => decide (v = (s : Int))) ≤ if k = but then 0 else at0 l k := by
      unfold netC
      by_cases hb : bo h k = true ∧ k ≠ but
      · rw [if_pos hb, if_neg hb.2]
        have hne : ¬ ((k / C : Nat) : Int) = (s : Int) := by
          have := Int.ofNat_lt.2 z0
          omega
        show 0 + (if decide (((R + k % C : Nat) : Int) = (s : Int)) = true ∧ decide (((k / C : Nat) : Int) = (s : Int)) = false then at0 l k else 0) + (if decide (((k / C : Nat) : Int) = (s : Int)) = true ∧ decide (((R + k % C : Nat) : Int) = (s : Int)) = false then (65536 : Int) else 0) ≤ at0 l k
        rw [if_neg (c := decide (((k / C : Nat) : Int) = (s : Int)) = true ∧ _) (by rw [decide_eq_false hne]; simp)]
        split <;> omega
      · rw [if_neg hb]
        show (0 : Int) ≤ _
        split <;> omega
    omega
theorem sum_but (f : Nat → Int) (b n : Nat) (hb : b < n) : sumF (fun j => if j = b then 0 else f j) n = sumF f n - f b := by
  have h1 := sumF_set f b (-f b) n
  rw [if_pos hb] at h1
  rw [sumF_congr n (g := fun i => if i = b then f i + -f b else f i) (fun i hi => by
    by_cases e : i = b
    · subst e; rw [if_pos rfl, if_pos rfl]; omega
    · rw [if_neg e, if_neg e]), h1]
  omega
theorem gain_le {R C : Nat} {l : List Int} (hG : SG R C l) (h : List Bool) {i : Nat} (hi : i < l.length) : gainV R C l h i ≤ sumF (at0 l) l.length - at0 l i := by
  obtain ⟨z0, z1, z2, z3⟩ := hG.cell (i := i) hi
  have h1 := cut_col hG h i (R + i % C) (by omega) l.length (Nat.le_refl _)
  rw [sum_but _ _ _ hi] at h1
  have h2 := sumF_one l.length i hG.z hi
  unfold gainV mostV
  split
  case isTrue hv =>
    obtain ⟨⟨f, hF⟩, _⟩ := hv.choose_spec
    have h3 := hF.le_cut (hG.netOk h i) (nat_in (by omega)) (S := fun v => decide (v = ((R + i % C : Nat) : Int))) (by simp) (by
      have : ¬ ((i / C : Nat) : Int) = ((R + i % C : Nat) : Int) := by
        have := Int.ofNat_lt.2 z0
        omega
      exact decide_eq_false this)
    omega
  case isFalse => omega
theorem hi_le {R C : Nat} {l : List Int} (hG : SG R C l) (h : List Bool) {i : Nat} (hi : i < l.length) : hiV R C l h i ≤ 65536 := by
  have h1 := gain_le hG h hi
  have h2 := hG.s
  have h3 := sumF_one l.length i hG.z hi
  unfold hiV
  split <;> omega
theorem hideF_keep {R C : Nat} {l : List Int} {width : Int} {i : Nat} : ∀ (f : Nat) (h k : List Bool), hideF R C l width f h = some k → bo h i = true → bo k i = true
  | 0, _, _, e, _ => by cases e
  | f + 1, h, k, e, hb => by
    rw [hideF] at e
    cases hu : unsV R C l h width with
    | none => rw [hu] at e; simp at e; rw [← e]; exact hb
    | some j =>
      rw [hu] at e
      dsimp only at e
      cases hn : nextV C h j with
      | none => rw [hn] at e; cases e
      | some q =>
        rw [hn] at e
        refine hideF_keep f _ _ e ?_
        rw [bo_set _ _ _ _ (nextV_some hn).1]
        split
        · rfl
        · exact hb
theorem hideF_safe {R C : Nat} {l : List Int} {width : Int} : ∀ (f : Nat) (h k : List Bool), hideF R C l width f h = some k → unsV R C l k width = none
  | 0, _, _, e => by cases e
  | f + 1, h, k, e => by
    rw [hideF] at e
    cases hu : unsV R C l h width with
    | none => rw [hu] at e; simp at e; rw [← e]; exact hu
    | some j =>
      rw [hu] at e
      dsimp only at e
      cases hn : nextV C h j with
      | none => rw [hn] at e; cases e
      | some q => rw [hn] at e; exact hideF_safe f _ _ e
/-- what is not hidden is not small; the interval of what is hidden is wide -/
theorem hide_facts {R C : Nat} {l : List Int} (hG : SG R C l) {least width : Int} {h : List Bool} (e : hideV R C l least width = some h) {i : Nat} (hi : i < l.length) :
    (bo h i = false → ¬ (1 ≤ at0 l i ∧ at0 l i < least)) ∧ (bo h i = true → 0 ≤ loV R C l h i ∧ hiV R C l h i ≤ 65536 ∧ ¬ hiV R C l h i - loV R C l h i < width ∧ loV R C l h i ≤ at0 l i ∧ at0 l i ≤ hiV R C l h i) := by
  have hl := hideV_len e
  refine ⟨fun hb hs => ?_, fun hb => ?_⟩
  · have := hideF_keep (i := i) _ _ _ e (by
      rw [bo_map _ _ _ hi]
      unfold smallB
      rw [decide_eq_true hs.1, decide_eq_true hs.2]; rfl)
    rw [hb] at this; cases this
  · obtain ⟨a1, a2, a3, _⟩ := hG.iv h hi
    have hn := fstP_no (hideF_safe _ _ _ e) i (by omega)
    unfold narrow at hn
    rw [hb, Bool.true_and, decide_eq_false_iff_not] at hn
    exact ⟨a1, hi_le hG h hi, hn, a2, a3⟩
/-- a release that succeeds -/
theorem ex_facts {zs : List Int} {size : Int} {R : List Ride} {f t each least width : Int} (h : exE zs size R f t each least width = 0) (hl : R.length ≤ 1024) :
    ∃ (n : Nat) (l : List Int) (hd : List Bool), size = (n : Int) ∧ tabE zs size R f t each = 0 ∧ tabV zs size R f t each = ⟨n, n, l⟩ ∧ SG n n l ∧ hideV n n l least width = some hd ∧ exR zs size R f t each least width = ⟨f, t, each, n, n, hidL l hd, hd, rowL n n l l.length, colL n l l.length, []⟩ := by
  have h1 : rlE zs size R f t each = 0 := by
    unfold exE at h
    by_cases h0 : rlE zs size R f t each = 0
    · exact h0
    · rw [if_pos h0] at h; exact absurd h h0
  have ht : tabE zs size R f t each = 0 := by
    unfold rlE at h1
    by_cases h0 : tabE zs size R f t each = 0
    · exact h0
    · rw [if_pos h0] at h1; exact absurd h1 h0
  obtain ⟨n, l, rfl, hT, hG⟩ := rl_good h1 hl
  have hV : tabV zs (n : Int) R f t each = ⟨n, n, l⟩ := by
    rw [← hT]; unfold rlT; rw [if_pos h1]
  have h2 : hideE n n l least width = 0 := by
    unfold exE at h
    rw [if_neg (by rw [h1]; simp), hT, Int.toNat_natCast] at h
    exact h
  have h3 : ∃ hd, hideV n n l least width = some hd := by
    unfold hideE at h2
    by_cases hb : badH least width
    · rw [if_pos hb] at h2; cases h2
    · rw [if_neg hb] at h2
      by_cases hv : hideV n n l least width = none
      · rw [if_pos hv] at h2; cases h2
      · exact Option.ne_none_iff_exists'.1 hv
  obtain ⟨hd, hv⟩ := h3
  refine ⟨n, l, hd, rfl, ht, hV, hG, hv, ?_⟩
  unfold exR
  rw [if_pos h, hT, Int.toNat_natCast]
  show (match hideV n n l least width with | some h => (⟨f, t, each, n, n, hidL l h, h, rowL n n l l.length, colL n l l.length, []⟩ : Rel) | none => rel0) = _
  rw [hv]
theorem hidL_at {l : List Int} {h : List Bool} {i : Nat} (hi : i < l.length) : at0 (hidL l h) i = if bo h i = true then 0 else at0 l i := by
  unfold hidL; rw [at0_map _ _ _ hi]
theorem exR_no {zs : List Int} {size : Int} {R : List Ride} {f t each least width : Int} (h : exE zs size R f t each least width ≠ 0) : exR zs size R f t each least width = rel0 := by unfold exR; rw [if_neg h]
end Go.Proofs.YtdkcclngionihaaDoor
/- The frame of the laws of releases: opening questions, noise that is asked for. -/
namespace Go.Proofs.YtdkcclngionihaaDoor
open Go.ChangeShapes Go.WideShapes Go.ChangeAt Go.RowKit

theorem cRides : Tryd.prog.cellsOf 23 = 1 := by kernel_rfl
theorem cAsk : Tryd.prog.cellsOf 27 = 6 := by kernel_rfl
theorem cNoisy : Tryd.prog.cellsOf 60 = 6 := by kernel_rfl
noncomputable def askF : Array Field := Tryd.prog.fieldsOf 27
theorem uAsk : Tryd.prog.underlying 27 = some (.struct askF) := by kernel_rfl
theorem askL : (askF.toList.map fun f => (f.offset, f.type)) = [(0, 22), (1, 3), (2, 23), (3, 25), (5, 3)] := by kernel_rfl
noncomputable def noisyF : Array Field := Tryd.prog.fieldsOf 60
theorem uNoisy : Tryd.prog.underlying 60 = some (.struct noisyF) := by kernel_rfl
theorem noisyL : (noisyF.toList.map fun f => (f.offset, f.type)) = [(0, 3), (1, 50), (3, 31)] := by kernel_rfl
section
variable {H : Type} {enc : TypeId × Value → H} {w : World} {base fuel : Nat} {spare : Nat → Bool} {held : Bool} {cs : List Value} {y : DataW H × List MemPlace}
set_option maxRecDepth 20000 in
theorem ask1 (h : DataW.trod enc Tryd.prog w base spare held fuel 27 cs = some y) : ∃ q : Cas, cs = [.slice q.az q.zs.length q.cz, .int .i64 q.n, .slice q.a q.R.length q.c, .int .i64 q.f, .int .i64 q.t, .int .i64 q.e] ∧ q.At w ∧ ∀ r ∈ q.R, -9223372036854775808 ≤ r.s0 ∧ r.s0 ≤ 9223372036854775807 := by
  obtain ⟨hl, hf⟩ := trod_fields uAsk askL h
  rw [cAsk] at hl
  match cs, hl with
  | [c0, c1, c2, c3, c4, c5], _ =>
    obtain ⟨_, _, h0⟩ := hf 0 _ rfl
    obtain ⟨_, _, h1⟩ := hf 1 _ rfl
    obtain ⟨_, _, h2⟩ := hf 2 _ rfl
    obtain ⟨_, _, h3⟩ := hf 3 _ rfl
    obtain ⟨_, _, h4⟩ := hf 4 _ rfl
    simp only [cInt, cInts, cRides, cWin] at h0 h1 h2 h3 h4
    obtain ⟨az, zs, cz, rfl, k1, k2, k3, k4⟩ := open_row Tryd.underlying22 Tryd.underlying3 cInt h0
    obtain ⟨n, rfl, i1⟩ := int1 h1
    obtain ⟨a, R, c, hs, m1, m2, m3, m4, m5⟩ := open_sliceG (encA := Ride.cs) (Q := RideIn w) Tryd.underlying23 cRide (by decide) Ride.len (fun _ _ _ h => ride1 h) h2
    subst hs
    obtain ⟨f, t, rfl, rfl, i3, i4⟩ := win1 h3
    obtain ⟨e, rfl, i2⟩ := int1 h4
    exact ⟨⟨az, zs, cz, n, e, a, R, c, f, t⟩, rfl, ⟨k3, ⟨m4, fun x hx => (m5 x hx).1⟩, Nat.le_trans k1 k2, Nat.le_trans m1 m2, fun r hr => by
      obtain ⟨_, ⟨_, _, _, _, _, _, _, i7, _, i9, _⟩, _⟩ := m5 r hr
      exact ⟨i7.2, i9.2⟩⟩, fun r hr => by
      obtain ⟨_, ⟨_, _, i5, _⟩, _⟩ := m5 r hr
      exact i5⟩
set_option maxRecDepth 20000 in
theorem noisy1 (h : DataW.trod enc Tryd.prog w base spare held fuel 60 cs = some y) : ∃ (rad num den : Int) (T : Tab) (a : Option Addr) (c : Nat), cs = [.int .i64 rad, .int .i64 num, .int .i64 den, .int .i64 T.r, .int .i64 T.c, .slice a T.l.length c] ∧ IntRow w a T.l ∧ T.l.length ≤ 9223372036854775807 := by
  obtain ⟨hl, hf⟩ := trod_fields uNoisy noisyL h
  rw [cNoisy] at hl
  match cs, hl with
  | [d0, d1, d2, d3, d4, d5], _ =>
    obtain ⟨_, _, h0⟩ := hf 0 _ rfl
    obtain ⟨_, _, h1⟩ := hf 1 _ rfl
    obtain ⟨_, _, h2⟩ := hf 2 _ rfl
    simp only [cInt, cRatio, cTable] at h0 h1 h2
    obtain ⟨rad, rfl, _⟩ := int1 h0
    obtain ⟨num, den, e1⟩ := ratio1 h1
    obtain ⟨T, a, c, e2, k1, k2, _⟩ := table1 h2
    obtain ⟨rfl, rfl⟩ : d1 = .int .i64 num ∧ d2 = .int .i64 den := by simpa using e1
    obtain ⟨rfl, rfl, rfl⟩ : d3 = .int .i64 T.r ∧ d4 = .int .i64 T.c ∧ d5 = .slice a T.l.length c := by simpa using e2
    exact ⟨rad, num, den, T, a, c, rfl, k1, k2⟩
end
section
variable {H : Type} {enc : TypeId × Value → H} {w : World} {b0 : Nat} {r : Reach} {held : Bool} {v : Value} {d : DataW H} {p : List MemPlace}
set_option maxRecDepth 20000 in
theorem open_ask (hv : Value.okWide Tryd.prog w r b0 27 v) (h : DataW.Trod enc Tryd.prog w 0 (fun _ => true) held 27 v d p) :
    ∃ q : Cas, v = .agg #[.slice q.az q.zs.length q.cz, .int .i64 q.n, .slice q.a q.R.length q.c, .int .i64 q.f, .int .i64 q.t, .int .i64 q.e] ∧ q.At w ∧ ∀ r ∈ q.R, -9223372036854775808 ≤ r.s0 ∧ r.s0 ≤ 9223372036854775807 := by
  obtain ⟨cs, rfl, hsz⟩ := okWide_struct uAsk hv
  obtain ⟨l⟩ := cs
  obtain ⟨fuel, hf⟩ := h
  obtain ⟨q, hq, hi⟩ := ask1 (show DataW.trod enc Tryd.prog w 0 (fun _ => true) held fuel 27 l = some (d, p) from hf)
  subst hq
  exact ⟨q, rfl, hi⟩
set_option maxRecDepth 20000 in
theorem open_noisy (hv : Value.okWide Tryd.prog w r b0 60 v) (h : DataW.Trod enc Tryd.prog w 0 (fun _ => true) held 60 v d p) :
    ∃ (rad num den : Int) (T : Tab) (a : Option Addr) (c : Nat), v = .agg #[.int .i64 rad, .int .i64 num, .int .i64 den, .int .i64 T.r, .int .i64 T.c, .slice a T.l.length c] ∧ IntRow w a T.l ∧ T.l.length ≤ 9223372036854775807 := by
  obtain ⟨cs, rfl, hsz⟩ := okWide_struct uNoisy hv
  obtain ⟨l⟩ := cs
  obtain ⟨fuel, hf⟩ := h
  obtain ⟨rad, num, den, T, a, c, hq, hi⟩ := noisy1 (show DataW.trod enc Tryd.prog w 0 (fun _ => true) held fuel 60 l = some (d, p) from hf)
  subst hq
  exact ⟨rad, num, den, T, a, c, rfl, hi⟩
end
end Go.Proofs.YtdkcclngionihaaDoor
/- The laws of releases: few questions, rides without those of a rider on a day. -/
namespace Go.Proofs.YtdkcclngionihaaDoor
open Go.RowKit

def fewR (r : Ride) : Bool := decide (r.legs.length ≤ 10) && decide (r.pauses.length ≤ 10)
def fewQ (q : Cas) : Bool := decide (q.R.length ≤ 30 ∧ q.zs.length ≤ 100 ∧ q.n ≤ 4) && q.R.all fewR
theorem allR_no {l : List Ride} {k : Nat} {e : Ride} (he : l[k]? = some e) (h : fewR e = false) : l.all fewR = false := by
  rw [List.all_eq_false]
  exact ⟨e, List.mem_of_getElem? he, by rw [h]; simp⟩
theorem allR_yes {l : List Ride} (h : ∀ j, j < l.length → ∀ e, l[j]? = some e → fewR e = true) : l.all fewR = true := by
  rw [List.all_eq_true]
  intro e he
  obtain ⟨j, hj⟩ := List.mem_iff_getElem?.1 he
  exact h j (List.getElem?_eq_some_iff.1 hj).1 e hj
set_option maxRecDepth 100000 in
set_option maxHeartbeats 4000000 in
theorem few56_calls (w : World) (x : Since w) (q : Cas) (h : q.At w) :
    Calls Tryd.prog 10 #[.agg #[.slice q.az q.zs.length q.cz, .int .i64 q.n, .slice q.a q.R.length q.c, .int .i64 q.f, .int .i64 q.t, .int .i64 q.e]] x.w fun o w' => o = .returned (.bool (fewQ q)) ∧ ∃ y : Since w, w' = y.w := by
  have HR := Lib.hid h.r
  have hrl := h.rl
  have hzl := h.zl
  have HF := Lib.hid (show fewQ q = (decide (q.R.length ≤ 30 ∧ q.zs.length ≤ 100 ∧ q.n ≤ 4) && q.R.all fewR) from rfl)
  obtain ⟨az, zs, cz, n, e, a, R, c, f, t⟩ := q
  dsimp only at hrl hzl HR HF ⊢
  generalize fewQ ⟨az, zs, cz, n, e, a, R, c, f, t⟩ = FQ at *
  clear h
  go_enter Tryd.func10, Tryd.ntmps10
  go_upto_region 1 with fail
  have hb0_0 : ∀ y : Since (x.w.alloc (.cells #[.slice az zs.length cz, .int .i64 n, .slice a R.length c, .int .i64 f, .int .i64 t, .int .i64 e] 27)), y.w.cell? ⟨x.w.heap.size, 0, none⟩ = some (.slice az zs.length cz) := fun y => Since.cell (by simp [go_sem]) (by first | (simp; done) | (simp; omega)) y
  have hb0_1 : ∀ y : Since (x.w.alloc (.cells #[.slice az zs.length cz, .int .i64 n, .slice a R.length c, .int .i64 f, .int .i64 t, .int .i64 e] 27)), y.w.cell? ⟨x.w.heap.size, 1, none⟩ = some (.int .i64 n) := fun y => Since.cell (by simp [go_sem]) (by first | (simp; done) | (simp; omega)) y
  have hb0_2 : ∀ y : Since (x.w.alloc (.cells #[.slice az zs.length cz, .int .i64 n, .slice a R.length c, .int .i64 f, .int .i64 t, .int .i64 e] 27)), y.w.cell? ⟨x.w.heap.size, 2, none⟩ = some (.slice a R.length c) := fun y => Since.cell (by simp [go_sem]) (by first | (simp; done) | (simp; omega)) y
  have hb0_3 : ∀ y : Since (x.w.alloc (.cells #[.slice az zs.length cz, .int .i64 n, .slice a R.length c, .int .i64 f, .int .i64 t, .int .i64 e] 27)), y.w.cell? ⟨x.w.heap.size, 3, none⟩ = some (.int .i64 f) := fun y => Since.cell (by simp [go_sem]) (by first | (simp; done) | (simp; omega)) y
  have hb0_4 : ∀ y : Since (x.w.alloc (.cells #[.slice az zs.length cz, .int .i64 n, .slice a R.length c, .int .i64 f, .int .i64 t, .int .i64 e] 27)), y.w.cell? ⟨x.w.heap.size, 4, none⟩ = some (.int .i64 t) := fun y => Since.cell (by simp [go_sem]) (by first | (simp; done) | (simp; omega)) y
  have hb0_5 : ∀ y : Since (x.w.alloc (.cells #[.slice az zs.length cz, .int .i64 n, .slice a R.length c, .int .i64 f, .int .i64 t, .int .i64 e] 27)), y.w.cell? ⟨x.w.heap.size, 5, none⟩ = some (.int .i64 e) := fun y => Since.cell (by simp [go_sem]) (by first | (simp; done) | (simp; omega)) y
  have hf0 : ∀ (y : Since (x.w.alloc (.cells #[.slice az zs.length cz, .int .i64 n, .slice a R.length c, .int .i64 f, .int .i64 t, .int .i64 e] 27))) (o : Nat), y.w.frozen? ⟨x.w.heap.size, o, none⟩ = false := fun y o => Since.free (by simp [go_sem]) (by first | (simp; done) | (simp; omega)) y
  have hWup : ∃ z : Since w, (x.w.alloc (.cells #[.slice az zs.length cz, .int .i64 n, .slice a R.length c, .int .i64 f, .int .i64 t, .int .i64 e] 27)) = z.w := x.alloc _
  obtain ⟨y0, hy0⟩ := Since.refl (x.w.alloc (.cells #[.slice az zs.length cz, .int .i64 n, .slice a R.length c, .int .i64 f, .int .i64 t, .int .i64 e] 27))
  have Hbx := Lib.hid (And.intro x.b.size (show x.w.heap.size + 1 = (x.w.alloc (.cells #[.slice az zs.length cz, .int .i64 n, .slice a R.length c, .int .i64 f, .int .i64 t, .int .i64 e] 27)).heap.size from by simp))
  generalize hW : (x.w.alloc (.cells #[.slice az zs.length cz, .int .i64 n, .slice a R.length c, .int .i64 f, .int .i64 t, .int .i64 e] 27)) = W at *
  clear hW
  generalize x.w.heap.size = bx at *
  have Hup := Lib.hid (Since.up hWup)
  rw [hy0]
  clear hy0
  replace HR := Lib.hid (HR.out.to hWup)
  clear hWup hf0
  by_cases hok : R.length ≤ 30 ∧ zs.length ≤ 100 ∧ n ≤ 4
  · have HF2 := Lib.hid (show FQ = R.all fewR by rw [HF.out, decide_eq_true hok, Bool.true_and])
    obtain ⟨g1, g2, g3⟩ := hok
    clear HF
    go_upto_region 4 with fail
    go_loopw [3] (fun i wr => ∃ (k : Nat) (y : Since W), k ≤ R.length ∧ i = .int .i64 k ∧ wr = y.w ∧ ∀ j, j < k → ∀ e : Ride, R[j]? = some e → fewR e = true) (fun i _ => R.length - (intOf i).toNat)
    case atStart => exact ⟨0, y0, by omega, rfl, rfl, fun j hj => by omega⟩
    case round =>
      obtain ⟨k, y, hk, rfl, rfl, hok⟩ := hrel
      have Hok := Lib.hid hok; clear hok
      by_cases hlt : k < R.length
      · obtain ⟨e2, he⟩ : ∃ e, R[k]? = some e := ⟨_, List.getElem?_eq_getElem hlt⟩
        obtain ⟨b1, off1, rfl, h1'⟩ := Els.ride HR.out.c he
        have hlm := (HR.out.r e2 (List.mem_of_getElem? he)).lm
        have hpm := (HR.out.r e2 (List.mem_of_getElem? he)).pm
        have pa7 := h1'.c7
        have pa8 := h1'.c8
        have hk0 : (0 : Int) ≤ (k : Int) := by omega
        have hkl : (k : Int) < (R.length : Int) := by omega
        have He := Lib.hid he
        clear h1' he
        rcases (by omega : 10 < e2.legs.length ∨ (e2.legs.length ≤ 10 ∧ 10 < e2.pauses.length) ∨ (e2.legs.length ≤ 10 ∧ e2.pauses.length ≤ 10)) with h1 | ⟨h1, h2⟩ | ⟨h1, h2⟩
        case inr.inr =>
          have Hv := Lib.hid (fun j (hj : j < k + 1) (e3 : Ride) (h3 : R[j]? = some e3) => show fewR e3 = true from by
            by_cases e4 : j = k
            · subst e4
              rw [He.out] at h3
              cases h3
              unfold fewR; simp [h1, h2]
            · exact Hok.out j (by omega) e3 h3)
          go_wp2_with fail
          go_roundw
          case rel => exact ⟨k + 1, y, by omega, by go_num, rfl, Hv.out⟩
          case measure => simp [intOf] <;> omega
        all_goals
          have Hr := Lib.hid (show FQ = false by rw [HF2.out]; exact allR_no He.out (by unfold fewR; first | (rw [decide_eq_false (show ¬ e2.legs.length ≤ 10 by omega)]; rfl) | (rw [decide_eq_false (show ¬ e2.pauses.length ≤ 10 by omega), Bool.and_false])))
          go_wp2_with fail
          go_ret
          exact ⟨ret_bool Hr.out.symm, Hup.out y⟩
      · obtain rfl : k = R.length := by omega
        have Hr := Lib.hid (show FQ = true by rw [HF2.out]; exact allR_yes Hok.out)
        go_wp2_with fail
        go_ret
        exact ⟨ret_bool Hr.out.symm, Hup.out y⟩
  · have Hr := Lib.hid (show FQ = false by rw [HF.out, decide_eq_false hok]; rfl)
    have hx : 30 < R.length ∨ (R.length ≤ 30 ∧ 100 < zs.length) ∨ (R.length ≤ 30 ∧ zs.length ≤ 100 ∧ 4 < n) := by omega
    clear hok HF
    rcases hx with h1 | ⟨h1, h2⟩ | ⟨h1, h2, h3⟩
    all_goals
      go_wp2_with fail
      go_ret
      exact ⟨ret_bool Hr.out.symm, Hup.out y0⟩
/-- not of this rider on this day, as the law's helper reckons -/
def keepR (rider day : Int) (r : Ride) : Bool := (r.rd != rider) || (Int.tdiv r.s0 86400 != day)
theorem keepR_ofD {rider day : Int} {r : Ride} (h : 0 ≤ r.s0) : keepR rider day r = !ofD rider day r := by
  unfold keepR ofD
  rw [Int.tdiv_eq_ediv_of_nonneg h]
  by_cases h1 : r.rd = rider
  · by_cases h2 : r.s0 / 86400 = day
    · rw [decide_eq_true ⟨h1, h2⟩, h1, h2]; simp
    · rw [decide_eq_false fun h => h2 h.2]; simp [h2]
  · rw [decide_eq_false fun h => h1 h.1]; simp [h1]
theorem keep_all {rider day : Int} {R : List Ride} (h : ∀ r ∈ R, 0 ≤ r.s0) : R.filter (keepR rider day) = R.filter fun r => !ofD rider day r :=
  List.filter_congr fun r hr => keepR_ofD (h r hr)
set_option maxRecDepth 100000 in
set_option maxHeartbeats 4000000 in
theorem without_calls (w : World) (x : Since w) (a : Option Addr) (R : List Ride) (c : Nat) (rider day : Int) (h : RideRow w a R) (hl : R.length ≤ 30) (hI : ∀ r ∈ R, -9223372036854775808 ≤ r.s0 ∧ r.s0 ≤ 9223372036854775807) :
    Calls Tryd.prog 23 #[.slice a R.length c, .int .i64 rider, .int .i64 day] x.w fun o w' => ∃ (a' : Option Addr) (c' : Nat) (y : Since w), o = .returned (.slice a' (R.filter (keepR rider day)).length c') ∧ w' = y.w ∧ RideRow y.w a' (R.filter (keepR rider day)) := by
  have HR := Lib.hid h
  have HI := Lib.hid hI
  clear h hI
  go_enter Tryd.func23, Tryd.ntmps23
  go_upto_region 3 with fail
  go_loopw [7, 8] (fun v si wr => ∃ (k m : Nat) (y : Since w), k ≤ R.length ∧ si = .int .i64 (k : Int) ∧ wr = y.w ∧ y.w.ownsRow w.heap.size 73 13 v m (flat Ride.cs ((R.take k).filter (keepR rider day))) ∧ m ≤ k) (fun _ si _ => R.length - (intOf si).toNat)
  case atStart => exact ⟨0, 0, x, by omega, rfl, rfl, ⟨rfl, .inl ⟨rfl, rfl⟩⟩, Nat.le_refl _⟩
  case round =>
    obtain ⟨k, m, y, hk, rfl, rfl, hown, hmk⟩ := hrel
    have Hown := Lib.hid hown
    clear hown
    by_cases hlt : k < R.length
    · obtain ⟨e, he⟩ : ∃ e, R[k]? = some e := ⟨_, List.getElem?_eq_getElem hlt⟩
      obtain ⟨b1, off1, rfl, h1'⟩ := Els.ride HR.out.c he
      have hk0 : (0 : Int) ≤ (k : Int) := by omega
      have hkl : (k : Int) < (R.length : Int) := by omega
      obtain ⟨s0, s1⟩ := HI.out e (List.mem_of_getElem? he)
      have htk : R.take (k + 1) = R.take k ++ [e] := by rw [List.take_add_one, he]; rfl
      have Hno := Lib.hid (fun (hp : keepR rider day e = false) => show y.w.ownsRow w.heap.size 73 13 u7 m (flat Ride.cs ((R.take (k + 1)).filter (keepR rider day))) from by
        rw [htk, List.filter_append, List.filter_cons, hp]; simp; exact Hown.out)
      have Hye := Lib.hid (fun (hp : keepR rider day e = true) => show flat Ride.cs ((R.take (k + 1)).filter (keepR rider day)) = flat Ride.cs ((R.take k).filter (keepR rider day)) ++ e.cs from by
        rw [htk, List.filter_append, List.filter_cons, hp]; simp only [List.filter_nil, if_true]; rw [flat_append, flat_one])
      have HK := Lib.hid (show keepR rider day e = ((e.rd != rider) || (Int.tdiv e.s0 86400 != day)) from rfl)
      have htd : -9223372036854775808 ≤ Int.tdiv e.s0 86400 ∧ Int.tdiv e.s0 86400 ≤ 9223372036854775807 := by
        rcases Int.le_total 0 e.s0 with h | h
        · rw [Int.tdiv_eq_ediv_of_nonneg h]; omega
        · have h2 : Int.tdiv e.s0 86400 = -((-e.s0) / 86400) := by
            have := Int.neg_tdiv (-e.s0) 86400
            rw [Int.neg_neg] at this
            rw [this, Int.tdiv_eq_ediv_of_nonneg (by omega)]
          rw [h2]; omega
      generalize hD : Int.tdiv e.s0 86400 = D at *
      have ws : IntKind.i64.wrap D = D := IntWalk.i64_in _ htd
      have ra0 := h1'.c0
      have ra1 := h1'.c1
      have ra2 := h1'.c2
      have ra3 := h1'.c3
      have ra4 := h1'.c4
      have ra5 := h1'.c5
      have ra6 := h1'.c6
      have ra7 := h1'.c7
      have ra8 := h1'.c8
      have ra9 := h1'.c9
      have ra10 := h1'.c10
      have ra11 := h1'.c11
      have ra12 := h1'.c12
      clear h1' he htk
      by_cases h1 : e.rd = rider
      · by_cases h2 : D = day
        · have Hs2 := Lib.hid (Hno.out (by rw [HK.out, h1, h2]; simp))
          have d1 : (e.rd != rider) = false := by simpa using h1
          have d2 : (D != day) = false := by simpa using h2
          clear Hno Hye h1 h2
          go_wp2_with fail
          go_roundw
          case rel => exact ⟨k + 1, m, y, by omega, by go_num, rfl, Hs2.out, by omega⟩
          case measure => simp [intOf] <;> omega
        · have Hf2 := Lib.hid (Hye.out (by rw [HK.out]; simp [h2]))
          have d1 : (e.rd != rider) = false := by simpa using h1
          have d2 : (D != day) = true := by simpa using h2
          clear Hno Hye h1 h2
          go_wp2_with (at_builtin; (refine wpList_appendK (w0 := w) ?hw rfl _ _ 23 rfl w.heap.size (Nat.le_refl _) ?hb 73 zeroRide 136 sRide u7 m (flat Ride.cs ((R.take k).filter (keepR rider day))) rfl ?hown ⟨y.w.heap.size, 0, none⟩ 1 1 e.cs rfl rfl ?hc (ride_one _) ?h63 ?hbytes ?_; rotate_right 1; intro v2 q2 hown4 _ hg4))
          case hw => exact IsSince.alloc (IsSince.of y) _
          case hb => have := y.b.size; simp; omega
          case hown => exact own_to Hown.out (IsSince.alloc (IsSince.self _) _)
          case hc => exact cell_new_at y.w e.cs _
          case h63 => unfold maxLen; omega
          case hbytes => omega
          have Hown4 := Lib.hid (show q2.w.ownsRow w.heap.size 73 13 v2 (m + 1) (flat Ride.cs ((R.take (k + 1)).filter (keepR rider day))) by rw [Hf2.out]; exact hown4)
          clear hown4 hg4
          go_wp2_with fail
          go_roundw
          case rel => exact ⟨k + 1, m + 1, q2, by omega, by go_num, rfl, Hown4.out, by omega⟩
          case measure => simp [intOf] <;> omega
      · have Hf2 := Lib.hid (Hye.out (by rw [HK.out]; simp [h1]))
        have d1 : (e.rd != rider) = true := by simpa using h1
        clear Hno Hye h1
        go_wp2_with (at_builtin; (refine wpList_appendK (w0 := w) ?hw rfl _ _ 23 rfl w.heap.size (Nat.le_refl _) ?hb 73 zeroRide 136 sRide u7 m (flat Ride.cs ((R.take k).filter (keepR rider day))) rfl ?hown ⟨y.w.heap.size, 0, none⟩ 1 1 e.cs rfl rfl ?hc (ride_one _) ?h63 ?hbytes ?_; rotate_right 1; intro v2 q2 hown4 _ hg4))
        case hw => exact IsSince.alloc (IsSince.of y) _
        case hb => have := y.b.size; simp; omega
        case hown => exact own_to Hown.out (IsSince.alloc (IsSince.self _) _)
        case hc => exact cell_new_at y.w e.cs _
        case h63 => unfold maxLen; omega
        case hbytes => omega
        have Hown4 := Lib.hid (show q2.w.ownsRow w.heap.size 73 13 v2 (m + 1) (flat Ride.cs ((R.take (k + 1)).filter (keepR rider day))) by rw [Hf2.out]; exact hown4)
        clear hown4 hg4
        go_wp2_with fail
        go_roundw
        case rel => exact ⟨k + 1, m + 1, q2, by omega, by go_num, rfl, Hown4.out, by omega⟩
        case measure => simp [intOf] <;> omega
    · obtain rfl : k = R.length := by omega
      obtain ⟨hlen2, a3, c3, rfl, hc3, he3, _, _⟩ := own_els Ride.len (by decide) Hown.out
      rw [List.take_length] at he3 hlen2
      have H3 := Lib.hid (show RideRow y.w a3 (R.filter (keepR rider day)) from ⟨he3, fun r hr => (HR.out.r r ((List.mem_filter.1 hr).1)).since y⟩)
      clear he3 hlen2 hc3
      go_wp2_with fail
      go_ret
      exact ⟨a3, c3, y, (by show Ending.returned (.slice a3 (List.filter (keepR rider day) (List.take R.length R)).length c3) = _; rw [List.take_length]), rfl, H3.out⟩
end Go.Proofs.YtdkcclngionihaaDoor
/- The law ReleaseHidden, walked. Written by mkk4.py. -/
namespace Go.Proofs.YtdkcclngionihaaDoor
open Go.RowKit

set_option linter.unusedSimpArgs false in
set_option maxRecDepth 100000 in
set_option maxHeartbeats 32000000 in
theorem releaseHidden_calls (w : World) (x : Since w) (hs : Signs w) (q : Cas) (least width : Int) (h : q.At w) :
    Calls Tryd.prog 6 #[.agg #[.slice q.az q.zs.length q.cz, .int .i64 q.n, .slice q.a q.R.length q.c, .int .i64 q.f, .int .i64 q.t, .int .i64 q.e], .int .i64 least, .int .i64 width] x.w fun o w' => o = .returned (.bool true) ∧ ∃ y : Since w, w' = y.w := by
  have H := Lib.hid h; have HY := Lib.hid hs
  have HF := Lib.hid (fun (W : World) (y : Since W) h => few56_calls W y q h)
  have HFw := Lib.hid (show fewQ q = true → q.R.length ≤ 30 from fun h => by
    unfold fewQ at h
    rw [Bool.and_eq_true, decide_eq_true_eq] at h
    exact h.1.1)
  generalize fewQ q = FQ at *
  obtain ⟨az, zs, cz, n, e, a, R, c, f, t⟩ := q
  dsimp only at H HF HFw ⊢
  clear h hs
  go_enter Tryd.func6, Tryd.ntmps6
  go_upto_region 1 with fail
  have hb0_0 : ∀ y : Since (x.w.alloc (.cells #[.slice az zs.length cz, .int .i64 n, .slice a R.length c, .int .i64 f, .int .i64 t, .int .i64 e] 27)), y.w.cell? ⟨x.w.heap.size, 0, none⟩ = some (.slice az zs.length cz) := fun y => Since.cell (by simp [go_sem]) (by first | (simp; done) | (simp; omega)) y
  have hb0_1 : ∀ y : Since (x.w.alloc (.cells #[.slice az zs.length cz, .int .i64 n, .slice a R.length c, .int .i64 f, .int .i64 t, .int .i64 e] 27)), y.w.cell? ⟨x.w.heap.size, 1, none⟩ = some (.int .i64 n) := fun y => Since.cell (by simp [go_sem]) (by first | (simp; done) | (simp; omega)) y
  have hb0_2 : ∀ y : Since (x.w.alloc (.cells #[.slice az zs.length cz, .int .i64 n, .slice a R.length c, .int .i64 f, .int .i64 t, .int .i64 e] 27)), y.w.cell? ⟨x.w.heap.size, 2, none⟩ = some (.slice a R.length c) := fun y => Since.cell (by simp [go_sem]) (by first | (simp; done) | (simp; omega)) y
  have hb0_3 : ∀ y : Since (x.w.alloc (.cells #[.slice az zs.length cz, .int .i64 n, .slice a R.length c, .int .i64 f, .int .i64 t, .int .i64 e] 27)), y.w.cell? ⟨x.w.heap.size, 3, none⟩ = some (.int .i64 f) := fun y => Since.cell (by simp [go_sem]) (by first | (simp; done) | (simp; omega)) y
  have hb0_4 : ∀ y : Since (x.w.alloc (.cells #[.slice az zs.length cz, .int .i64 n, .slice a R.length c, .int .i64 f, .int .i64 t, .int .i64 e] 27)), y.w.cell? ⟨x.w.heap.size, 4, none⟩ = some (.int .i64 t) := fun y => Since.cell (by simp [go_sem]) (by first | (simp; done) | (simp; omega)) y
  have hb0_5 : ∀ y : Since (x.w.alloc (.cells #[.slice az zs.length cz, .int .i64 n, .slice a R.length c, .int .i64 f, .int .i64 t, .int .i64 e] 27)), y.w.cell? ⟨x.w.heap.size, 5, none⟩ = some (.int .i64 e) := fun y => Since.cell (by simp [go_sem]) (by first | (simp; done) | (simp; omega)) y
  have hf0 : ∀ (y : Since (x.w.alloc (.cells #[.slice az zs.length cz, .int .i64 n, .slice a R.length c, .int .i64 f, .int .i64 t, .int .i64 e] 27))) (o : Nat), y.w.frozen? ⟨x.w.heap.size, o, none⟩ = false := fun y o => Since.free (by simp [go_sem]) (by first | (simp; done) | (simp; omega)) y
  have hWup : ∃ z : Since w, (x.w.alloc (.cells #[.slice az zs.length cz, .int .i64 n, .slice a R.length c, .int .i64 f, .int .i64 t, .int .i64 e] 27)) = z.w := x.alloc _
  obtain ⟨y0, hy0⟩ := Since.refl (x.w.alloc (.cells #[.slice az zs.length cz, .int .i64 n, .slice a R.length c, .int .i64 f, .int .i64 t, .int .i64 e] 27))
  have Hbx := Lib.hid (And.intro x.b.size (show x.w.heap.size + 1 = (x.w.alloc (.cells #[.slice az zs.length cz, .int .i64 n, .slice a R.length c, .int .i64 f, .int .i64 t, .int .i64 e] 27)).heap.size from by simp))
  generalize hW : (x.w.alloc (.cells #[.slice az zs.length cz, .int .i64 n, .slice a R.length c, .int .i64 f, .int .i64 t, .int .i64 e] 27)) = W at *
  clear hW
  generalize x.w.heap.size = bx at *
  have Hup := Lib.hid (Since.up hWup)
  rw [hy0]
  clear hy0
  have HAw := Lib.hid (fun z : Since W => awake_calls W z (HY.out.to hWup))
  have HSg := Lib.hid (HY.out.to hWup)
  have HF1 := Lib.hid (fun z : Since W => HF.out W z (H.out.to hWup))
  have HQ := Lib.hid (show Cas.At W ⟨az, zs, cz, n, e, a, R, c, f, t⟩ from H.out.to hWup)
  clear H HF HY hWup hf0
  cases FQ with
  | false =>
    clear HFw
    go_wp2_with (first | (go_at_call 10; ((with_reducible refine (HF1.out _).mono ?_); rintro _ _ ⟨rfl, z, rfl⟩)) | (go_at_call 11; ((with_reducible refine (HAw.out _).mono ?_); rintro _ _ ⟨rfl, yw, rfl⟩)))
    go_ret
    exact ⟨rfl, Hup.out _⟩
  | true =>
    have hR30 := HFw.out rfl
    clear HFw
    go_upto_region 3 with (go_at_call 10; ((with_reducible refine (HF1.out _).mono ?_); rintro _ _ ⟨rfl, z, rfl⟩))
    clear HF1
    have HX := Lib.hid (fun z : Since W => exact_calls W z az zs cz n a R c f t e least width HQ.out.z HQ.out.zl HQ.out.r (by omega) HQ.out.i)
    have HT := Lib.hid (fun (u : World) (hu : IsSince W u) => show Calls Tryd.prog 21 #[.slice az zs.length cz, .int .i64 n, .slice a R.length c, .agg #[.int .i64 f, .int .i64 t], .int .i64 e] u (TabRes u (tabV zs n R f t e) (tabE zs n R f t e)) from table_calls u (Since.self u) az zs cz n a R c f t e (HQ.out.z.to hu) HQ.out.zl (HQ.out.r.to hu) HQ.out.rl HQ.out.i)
    have HE := Lib.hid (fun h => ex_facts (zs := zs) (size := n) (R := R) (f := f) (t := t) (each := e) (least := least) (width := width) h (by omega))
    have HE0 := Lib.hid (fun h => exR_no (zs := zs) (size := n) (R := R) (f := f) (t := t) (each := e) (least := least) (width := width) h)
    generalize exE zs n R f t e least width = E at *
    generalize exR zs n R f t e least width = X at *
    generalize tabE zs n R f t e = E1 at *
    generalize tabV zs n R f t e = T1 at *
    clear HQ
    go_upto_region 4 with (go_at_call 12; ((with_reducible refine (HX.out _).mono ?_); rintro _ _ ⟨a1, a2, a3, a4, a5, c1, c2, c3, c4, c5, y1, rfl, rfl, r1, r2, -, -, -, -⟩))
    have HR1 := Lib.hid r1; have HR2 := Lib.hid r2
    clear r1 r2 HX
    have hx0 : (y1.w.alloc (.cells #[.int .i64 X.f, .int .i64 X.t, .int .i64 X.each, .int .i64 X.r, .int .i64 X.c, .slice a1 X.cells.length c1, .slice a2 X.hid.length c2, .slice a3 X.rows.length c3, .slice a4 X.cols.length c4, .slice a5 X.ws.length c5] 36)).cell? ⟨y1.w.heap.size, 0, none⟩ = some (.int .i64 X.f) := by simp [go_sem]
    have hx1 : (y1.w.alloc (.cells #[.int .i64 X.f, .int .i64 X.t, .int .i64 X.each, .int .i64 X.r, .int .i64 X.c, .slice a1 X.cells.length c1, .slice a2 X.hid.length c2, .slice a3 X.rows.length c3, .slice a4 X.cols.length c4, .slice a5 X.ws.length c5] 36)).cell? ⟨y1.w.heap.size, 1, none⟩ = some (.int .i64 X.t) := by simp [go_sem]
    have hx2 : (y1.w.alloc (.cells #[.int .i64 X.f, .int .i64 X.t, .int .i64 X.each, .int .i64 X.r, .int .i64 X.c, .slice a1 X.cells.length c1, .slice a2 X.hid.length c2, .slice a3 X.rows.length c3, .slice a4 X.cols.length c4, .slice a5 X.ws.length c5] 36)).cell? ⟨y1.w.heap.size, 2, none⟩ = some (.int .i64 X.each) := by simp [go_sem]
    have hx3 : (y1.w.alloc (.cells #[.int .i64 X.f, .int .i64 X.t, .int .i64 X.each, .int .i64 X.r, .int .i64 X.c, .slice a1 X.cells.length c1, .slice a2 X.hid.length c2, .slice a3 X.rows.length c3, .slice a4 X.cols.length c4, .slice a5 X.ws.length c5] 36)).cell? ⟨y1.w.heap.size, 3, none⟩ = some (.int .i64 X.r) := by simp [go_sem]
    have hx4 : (y1.w.alloc (.cells #[.int .i64 X.f, .int .i64 X.t, .int .i64 X.each, .int .i64 X.r, .int .i64 X.c, .slice a1 X.cells.length c1, .slice a2 X.hid.length c2, .slice a3 X.rows.length c3, .slice a4 X.cols.length c4, .slice a5 X.ws.length c5] 36)).cell? ⟨y1.w.heap.size, 4, none⟩ = some (.int .i64 X.c) := by simp [go_sem]
    have hx5 : (y1.w.alloc (.cells #[.int .i64 X.f, .int .i64 X.t, .int .i64 X.each, .int .i64 X.r, .int .i64 X.c, .slice a1 X.cells.length c1, .slice a2 X.hid.length c2, .slice a3 X.rows.length c3, .slice a4 X.cols.length c4, .slice a5 X.ws.length c5] 36)).cell? ⟨y1.w.heap.size, 5, none⟩ = some (.slice a1 X.cells.length c1) := by simp [go_sem]
    have hx6 : (y1.w.alloc (.cells #[.int .i64 X.f, .int .i64 X.t, .int .i64 X.each, .int .i64 X.r, .int .i64 X.c, .slice a1 X.cells.length c1, .slice a2 X.hid.length c2, .slice a3 X.rows.length c3, .slice a4 X.cols.length c4, .slice a5 X.ws.length c5] 36)).cell? ⟨y1.w.heap.size, 6, none⟩ = some (.slice a2 X.hid.length c2) := by simp [go_sem]
    have hx7 : (y1.w.alloc (.cells #[.int .i64 X.f, .int .i64 X.t, .int .i64 X.each, .int .i64 X.r, .int .i64 X.c, .slice a1 X.cells.length c1, .slice a2 X.hid.length c2, .slice a3 X.rows.length c3, .slice a4 X.cols.length c4, .slice a5 X.ws.length c5] 36)).cell? ⟨y1.w.heap.size, 7, none⟩ = some (.slice a3 X.rows.length c3) := by simp [go_sem]
    have hx8 : (y1.w.alloc (.cells #[.int .i64 X.f, .int .i64 X.t, .int .i64 X.each, .int .i64 X.r, .int .i64 X.c, .slice a1 X.cells.length c1, .slice a2 X.hid.length c2, .slice a3 X.rows.length c3, .slice a4 X.cols.length c4, .slice a5 X.ws.length c5] 36)).cell? ⟨y1.w.heap.size, 8, none⟩ = some (.slice a4 X.cols.length c4) := by simp [go_sem]
    have hx9 : (y1.w.alloc (.cells #[.int .i64 X.f, .int .i64 X.t, .int .i64 X.each, .int .i64 X.r, .int .i64 X.c, .slice a1 X.cells.length c1, .slice a2 X.hid.length c2, .slice a3 X.rows.length c3, .slice a4 X.cols.length c4, .slice a5 X.ws.length c5] 36)).cell? ⟨y1.w.heap.size, 9, none⟩ = some (.slice a5 X.ws.length c5) := by simp [go_sem]
    have hxf : ∀ o, (y1.w.alloc (.cells #[.int .i64 X.f, .int .i64 X.t, .int .i64 X.each, .int .i64 X.r, .int .i64 X.c, .slice a1 X.cells.length c1, .slice a2 X.hid.length c2, .slice a3 X.rows.length c3, .slice a4 X.cols.length c4, .slice a5 X.ws.length c5] 36)).frozen? ⟨y1.w.heap.size, o, none⟩ = false := fun o => by simp [go_sem]
    have hlt0 : y1.w.heap.size < (y1.w.alloc (.cells #[.int .i64 X.f, .int .i64 X.t, .int .i64 X.each, .int .i64 X.r, .int .i64 X.c, .slice a1 X.cells.length c1, .slice a2 X.hid.length c2, .slice a3 X.rows.length c3, .slice a4 X.cols.length c4, .slice a5 X.ws.length c5] 36)).heap.size := by simp
    have hst0 : ∃ zz : Since y1.w, (y1.w.alloc (.cells #[.int .i64 X.f, .int .i64 X.t, .int .i64 X.each, .int .i64 X.r, .int .i64 X.c, .slice a1 X.cells.length c1, .slice a2 X.hid.length c2, .slice a3 X.rows.length c3, .slice a4 X.cols.length c4, .slice a5 X.ws.length c5] 36)) = zz.w := IsSince.alloc (IsSince.self _) _
    have hsz0 := y1.b.size
    obtain ⟨y2, e2⟩ := IsSince.alloc (IsSince.of y1) (.cells #[.int .i64 X.f, .int .i64 X.t, .int .i64 X.each, .int .i64 X.r, .int .i64 X.c, .slice a1 X.cells.length c1, .slice a2 X.hid.length c2, .slice a3 X.rows.length c3, .slice a4 X.cols.length c4, .slice a5 X.ws.length c5] 36)
    rw [e2] at hx0 hx1 hx2 hx3 hx4 hx5 hx6 hx7 hx8 hx9 hxf hlt0 hst0 ⊢
    (replace HR1 := Lib.hid (HR1.out.to hst0); replace HR2 := Lib.hid (HR2.out.to hst0))
    clear e2 hst0
    generalize y1.w.heap.size = gx at *
    have Hhx0 : ∀ q : Since y2.w, q.w.cell? ⟨gx, 0, none⟩ = some (.int .i64 X.f) := fun q => Since.cell hx0 (by omega) q
    have Hhx1 : ∀ q : Since y2.w, q.w.cell? ⟨gx, 1, none⟩ = some (.int .i64 X.t) := fun q => Since.cell hx1 (by omega) q
    have Hhx2 : ∀ q : Since y2.w, q.w.cell? ⟨gx, 2, none⟩ = some (.int .i64 X.each) := fun q => Since.cell hx2 (by omega) q
    have Hhx3 : ∀ q : Since y2.w, q.w.cell? ⟨gx, 3, none⟩ = some (.int .i64 X.r) := fun q => Since.cell hx3 (by omega) q
    have Hhx4 : ∀ q : Since y2.w, q.w.cell? ⟨gx, 4, none⟩ = some (.int .i64 X.c) := fun q => Since.cell hx4 (by omega) q
    have Hhx5 : ∀ q : Since y2.w, q.w.cell? ⟨gx, 5, none⟩ = some (.slice a1 X.cells.length c1) := fun q => Since.cell hx5 (by omega) q
    have Hhx6 : ∀ q : Since y2.w, q.w.cell? ⟨gx, 6, none⟩ = some (.slice a2 X.hid.length c2) := fun q => Since.cell hx6 (by omega) q
    have Hhx7 : ∀ q : Since y2.w, q.w.cell? ⟨gx, 7, none⟩ = some (.slice a3 X.rows.length c3) := fun q => Since.cell hx7 (by omega) q
    have Hhx8 : ∀ q : Since y2.w, q.w.cell? ⟨gx, 8, none⟩ = some (.slice a4 X.cols.length c4) := fun q => Since.cell hx8 (by omega) q
    have Hhx9 : ∀ q : Since y2.w, q.w.cell? ⟨gx, 9, none⟩ = some (.slice a5 X.ws.length c5) := fun q => Since.cell hx9 (by omega) q
    have Hhxf : ∀ (q : Since y2.w) (o : Nat), q.w.frozen? ⟨gx, o, none⟩ = false := fun q o => Since.free (hxf o) (by omega) q
    have Hhxg := Lib.hid (And.intro hsz0 hlt0)
    clear hlt0 hsz0
    clear hx0 hx1 hx2 hx3 hx4 hx5 hx6 hx7 hx8 hx9 hxf Hhxf Hhxg Hhx0 Hhx1 Hhx2 Hhx7 Hhx8 Hhx9
    by_cases hE : E = 0
    case neg =>
      have hX := HE0.out hE
      subst hX
      have hE' := intrel_ne hE
      have l1 : rel0.cells.length = 0 := rfl
      have l2 : rel0.hid.length = 0 := rfl
      obtain ⟨y3, h3⟩ := Since.refl y2.w
      clear HR1 HR2 HT HE HE0 hE
      rw [l1] at Hhx5
      rw [l2] at Hhx6
      rw [h3]
      clear h3
      replace HAw := Lib.hid (fun q : Since y2.w => show Calls Tryd.prog 11 #[] q.w (fun o w' => o = .returned (.bool true) ∧ ∃ y : Since y2.w, w' = y.w) from by
        obtain ⟨q1, e1⟩ := y2.trans q
        have := awake_calls q.w (Since.self q.w) ((HSg.out.to ⟨y2, rfl⟩).to ⟨q, rfl⟩)
        refine this.mono ?_
        rintro _ _ ⟨rfl, z, rfl⟩
        obtain ⟨z1, e2⟩ := q.trans z
        exact ⟨rfl, z1, e2⟩)
      go_wp2_with (go_at_call 11; ((with_reducible refine (HAw.out _).mono ?_); rintro _ _ ⟨rfl, yw, rfl⟩))
      go_ret
      obtain ⟨z1, e1⟩ := y2.trans yw
      rw [e1]
      exact ⟨rfl, Hup.out _⟩
    case pos =>
    obtain ⟨m, l, hd, rfl, ht, hV, hG, hv, hXe⟩ := HE.out hE
    subst hXe
    subst hV
    have hlh := hideV_len hv
    have HH := Lib.hid (fun (i : Nat) (hi : i < l.length) => hide_facts hG hv hi)
    have hm64 := hG.len
    have HRg := Lib.hid (fun (W : World) (y : Since W) (i : Nat) (a9 : Option Addr) (c9 : Nat) h1 h2 hi => srange_calls W y m m l hd i a9 a2 c9 c2 h1 h2 hG hlh hi)
    have Hcell := Lib.hid (fun i hi => (hG.cell (i := i) hi).2.2)
    have Hiv := Lib.hid (fun i (hi : i < l.length) => hG.iv hd hi)
    have HhL := Lib.hid (fun (i : Nat) (hi : i < l.length) => hidL_at (l := l) (h := hd) hi)
    subst hE
    subst ht
    dsimp only at HR1 HR2 Hhx3 Hhx4 Hhx5 Hhx6 ⊢
    rw [hidL_len] at Hhx5
    rw [hlh] at Hhx6
    rw [hlh] at HRg
    simp only [hidL_len, hlh]
    have Hlh := Lib.hid hlh
    have HlL := Lib.hid (hidL_len l hd)
    clear HE HE0 hG hv hlh
    go_upto_region 7 with (go_at_call 21; ((with_reducible refine (HT.out _ (IsSince.of y2)).mono ?_); rintro _ _ ⟨a9, c9, y3, rfl, rfl, r9, -, -, -⟩))
    have HR9 := Lib.hid (show IntRow y3.w a9 l from r9)
    clear r9 HT
    have hu0 : (y3.w.alloc (.cells #[.int .i64 (m : Int), .int .i64 (m : Int), .slice a9 l.length c9] 31)).cell? ⟨y3.w.heap.size, 0, none⟩ = some (.int .i64 (m : Int)) := by simp [go_sem]
    have hu1 : (y3.w.alloc (.cells #[.int .i64 (m : Int), .int .i64 (m : Int), .slice a9 l.length c9] 31)).cell? ⟨y3.w.heap.size, 1, none⟩ = some (.int .i64 (m : Int)) := by simp [go_sem]
    have hu2 : (y3.w.alloc (.cells #[.int .i64 (m : Int), .int .i64 (m : Int), .slice a9 l.length c9] 31)).cell? ⟨y3.w.heap.size, 2, none⟩ = some (.slice a9 l.length c9) := by simp [go_sem]
    have huf : ∀ o, (y3.w.alloc (.cells #[.int .i64 (m : Int), .int .i64 (m : Int), .slice a9 l.length c9] 31)).frozen? ⟨y3.w.heap.size, o, none⟩ = false := fun o => by simp [go_sem]
    have hlt0 : y3.w.heap.size < (y3.w.alloc (.cells #[.int .i64 (m : Int), .int .i64 (m : Int), .slice a9 l.length c9] 31)).heap.size := by simp
    have hst0 : ∃ zz : Since y3.w, (y3.w.alloc (.cells #[.int .i64 (m : Int), .int .i64 (m : Int), .slice a9 l.length c9] 31)) = zz.w := IsSince.alloc (IsSince.self _) _
    have hsz0 := y3.b.size
    obtain ⟨y4, e2⟩ := IsSince.alloc (IsSince.of y3) (.cells #[.int .i64 (m : Int), .int .i64 (m : Int), .slice a9 l.length c9] 31)
    rw [e2] at hu0 hu1 hu2 huf hlt0 hst0 ⊢
    (replace HR9 := Lib.hid (HR9.out.to hst0))
    clear e2 hst0
    generalize y3.w.heap.size = gt at *
    have Hhu0 : ∀ q : Since y4.w, q.w.cell? ⟨gt, 0, none⟩ = some (.int .i64 (m : Int)) := fun q => Since.cell hu0 (by omega) q
    have Hhu1 : ∀ q : Since y4.w, q.w.cell? ⟨gt, 1, none⟩ = some (.int .i64 (m : Int)) := fun q => Since.cell hu1 (by omega) q
    have Hhu2 : ∀ q : Since y4.w, q.w.cell? ⟨gt, 2, none⟩ = some (.slice a9 l.length c9) := fun q => Since.cell hu2 (by omega) q
    have Hhuf : ∀ (q : Since y4.w) (o : Nat), q.w.frozen? ⟨gt, o, none⟩ = false := fun q o => Since.free (huf o) (by omega) q
    have Hhug := Lib.hid (And.intro hsz0 hlt0)
    clear hlt0 hsz0
    clear hu0 hu1 hu2 huf Hhuf Hhug
    replace HR1 := Lib.hid (HR1.out.to ⟨y4, rfl⟩)
    replace HR2 := Lib.hid (HR2.out.to ⟨y4, rfl⟩)
    replace Hhx3 := Since.cellTo ⟨y4, rfl⟩ Hhx3
    replace Hhx4 := Since.cellTo ⟨y4, rfl⟩ Hhx4
    replace Hhx5 := Since.cellTo ⟨y4, rfl⟩ Hhx5
    replace Hhx6 := Since.cellTo ⟨y4, rfl⟩ Hhx6
    have hb1' := Since.cellTo ⟨y4, rfl⟩ (Since.cellTo ⟨y2, rfl⟩ hb0_1)
    have HUp := Lib.hid (fun q : Since y4.w => show ∃ z : Since w, q.w = z.w from by
      obtain ⟨z0, e0⟩ := y4.trans q
      obtain ⟨z1, e1⟩ := y2.trans z0
      rw [e0, e1]; exact Hup.out z1)
    have HAw4 := Lib.hid (fun q : Since y4.w => awake_calls y4.w q (((HSg.out.to ⟨y2, rfl⟩)).to ⟨y4, rfl⟩))
    clear HAw
    obtain ⟨q4, hq0⟩ := Since.refl y4.w
    rw [hq0]
    clear hq0
    go_upto_region 10 with fail
    go_loopw [11] (fun si wr => ∃ (k : Nat) (y : Since y4.w), k ≤ l.length ∧ si = .int .i64 (k : Int) ∧ wr = y.w) (fun si _ => l.length - (intOf si).toNat)
    case atStart => exact ⟨0, q4, by omega, rfl, rfl⟩
    case round =>
      obtain ⟨k, y, hk, rfl, rfl⟩ := hrel
      by_cases hlt : k < l.length
      · have hk0 : (0 : Int) ≤ (k : Int) := by omega
        have hkl : (k : Int) < (l.length : Int) := by omega
        obtain ⟨g1, o1, ha1, hb1, hc1⟩ := HR1.out k (by rw [HlL.out]; exact hlt)
        have p1 : ∀ q : Since y4.w, q.w.cell? ⟨g1, o1 + k, none⟩ = some (.int .i64 (at0 (hidL l hd) k)) := fun q => Since.cell hc1 hb1 q
        obtain ⟨g2, o2, ha2, hb2, hc2⟩ := HR2.out k (by rw [Hlh.out]; exact hlt)
        have p2 : ∀ q : Since y4.w, q.w.cell? ⟨g2, o2 + k, none⟩ = some (.bool (bo hd k)) := fun q => Since.cell hc2 hb2 q
        obtain ⟨g3, o3, ha3, hb3, hc3⟩ := HR9.out k hlt
        have p3 : ∀ q : Since y4.w, q.w.cell? ⟨g3, o3 + k, none⟩ = some (.int .i64 (at0 l k)) := fun q => Since.cell hc3 hb3 q
        subst ha1
        subst ha2
        subst ha3
        clear hb1 hc1 hb2 hc2 hb3 hc3
        rw [HhL.out k hlt] at p1
        have HHk := Lib.hid (HH.out k hlt)
        obtain ⟨v0, v1⟩ := Hcell.out k hlt
        obtain ⟨i0, i1, i2, i3⟩ := Hiv.out k hlt
        have HRk := Lib.hid (fun z : Since y4.w => HRg.out y4.w z k _ c9 HR9.out HR2.out hlt)
        generalize loV m m l hd k = LO at *
        generalize hiV m m l hd k = HI at *
        generalize at0 l k = v at *
        have P1 := Lib.hid p1; have P2 := Lib.hid p2; have P3 := Lib.hid p3
        replace p1 := Since.cellTo ⟨y, rfl⟩ p1
        replace p2 := Since.cellTo ⟨y, rfl⟩ p2
        replace p3 := Since.cellTo ⟨y, rfl⟩ p3
        have x5 := Since.cellTo ⟨y, rfl⟩ Hhx5
        have x6 := Since.cellTo ⟨y, rfl⟩ Hhx6
        have u2 := Since.cellTo ⟨y, rfl⟩ Hhu2
        have HT := Lib.hid (fun z : Since y.w => show ∃ q : Since y4.w, z.w = q.w from y.trans z)
        cases hb : bo hd k
        · rw [hb] at p1 p2
          rw [if_neg (by simp)] at p1
          have hns := HHk.out.1 hb
          clear HHk HRk HRg HH Hcell Hiv HhL P1 P2 P3
          have d0 : (v != v) = false := by simp
          change Code.wp _ _ _ _ (Since.self y.w).w
          by_cases h1 : 1 ≤ v
          · have d1 : decide (1 ≤ v) = true := decide_eq_true h1
            have d2 : decide (v < least) = false := decide_eq_false fun h => hns ⟨h1, h⟩
            clear hns h1
            go_upto_region 13 with fail
            refine wp_region_since (by kernel_rfl) (by kernel_rfl) ?_
            repeat (go_big_quiet_step (fail))
            refine wpQuiet_nil ?_
            rintro _ ⟨z, rfl⟩
            obtain ⟨z2, e2⟩ := HT.out z
            rw [e2]
            go_wp2_with fail
            go_roundw
            case rel => exact ⟨k + 1, z2, by omega, by go_num, rfl⟩
            case measure => simp [intOf] <;> omega
          · have d1 : decide (1 ≤ v) = false := decide_eq_false h1
            clear hns h1
            go_upto_region 13 with fail
            refine wp_region_since (by kernel_rfl) (by kernel_rfl) ?_
            repeat (go_big_quiet_step (fail))
            refine wpQuiet_nil ?_
            rintro _ ⟨z, rfl⟩
            obtain ⟨z2, e2⟩ := HT.out z
            rw [e2]
            go_wp2_with fail
            go_roundw
            case rel => exact ⟨k + 1, z2, by omega, by go_num, rfl⟩
            case measure => simp [intOf] <;> omega
        · rw [hb] at p1 p2
          rw [if_pos rfl] at p1
          obtain ⟨w0, w1, w2, w3, w4⟩ := HHk.out.2 hb
          clear HHk HRg HH Hcell Hiv HhL p1 p2 p3 x5 x6 u2 HT
          have p2 := P2.out
          rw [hb] at p2
          have p1 := P1.out
          rw [hb, if_pos rfl] at p1
          have p3 := P3.out
          clear P1 P2 P3
          go_upto_region 16 with (go_at_call 22; ((with_reducible refine (HRk.out _).mono ?_); rintro _ _ ⟨rfl, y5, rfl⟩))
          have hs0 : (y5.w.alloc (.cells #[.int .i64 LO, .int .i64 HI] 56)).cell? ⟨y5.w.heap.size, 0, none⟩ = some (.int .i64 LO) := by simp [go_sem]
          have hs1 : (y5.w.alloc (.cells #[.int .i64 LO, .int .i64 HI] 56)).cell? ⟨y5.w.heap.size, 1, none⟩ = some (.int .i64 HI) := by simp [go_sem]
          have hsf : ∀ o, (y5.w.alloc (.cells #[.int .i64 LO, .int .i64 HI] 56)).frozen? ⟨y5.w.heap.size, o, none⟩ = false := fun o => by simp [go_sem]
          have hlt0 : y5.w.heap.size < (y5.w.alloc (.cells #[.int .i64 LO, .int .i64 HI] 56)).heap.size := by simp
          have hst0 : ∃ zz : Since y5.w, (y5.w.alloc (.cells #[.int .i64 LO, .int .i64 HI] 56)) = zz.w := IsSince.alloc (IsSince.self _) _
          have hsz0 := y5.b.size
          obtain ⟨y6, e2⟩ := IsSince.alloc (IsSince.of y5) (.cells #[.int .i64 LO, .int .i64 HI] 56)
          rw [e2] at hs0 hs1 hsf hlt0 hst0 ⊢
          skip
          clear e2 hst0
          generalize y5.w.heap.size = gs at *
          have Hhs0 : ∀ q : Since y6.w, q.w.cell? ⟨gs, 0, none⟩ = some (.int .i64 LO) := fun q => Since.cell hs0 (by omega) q
          have Hhs1 : ∀ q : Since y6.w, q.w.cell? ⟨gs, 1, none⟩ = some (.int .i64 HI) := fun q => Since.cell hs1 (by omega) q
          have Hhsf : ∀ (q : Since y6.w) (o : Nat), q.w.frozen? ⟨gs, o, none⟩ = false := fun q o => Since.free (hsf o) (by omega) q
          have Hhsg := Lib.hid (And.intro hsz0 hlt0)
          clear hlt0 hsz0
          clear hs0 hs1 hsf Hhsf Hhsg HRk p2
          replace p1 := Since.cellTo ⟨y6, rfl⟩ p1
          replace p3 := Since.cellTo ⟨y6, rfl⟩ p3
          have x5 := Since.cellTo ⟨y6, rfl⟩ Hhx5
          have u2 := Since.cellTo ⟨y6, rfl⟩ Hhu2
          have HT := Lib.hid (fun z : Since y6.w => show ∃ q : Since y4.w, z.w = q.w from y6.trans z)
          have ws : IntKind.i64.wrap (HI - LO) = HI - LO := IntWalk.i64_in _ (by omega)
          have d1 : decide (LO < 0) = false := decide_eq_false (by omega)
          have d2 : decide (65536 < HI) = false := decide_eq_false (by omega)
          have d3 : decide (HI - LO < width) = false := decide_eq_false (by omega)
          have d4 : decide (v < LO) = false := decide_eq_false (by omega)
          have d5 : decide (HI < v) = false := decide_eq_false (by omega)
          clear w0 w1 w2 w3 w4 i0 i1 i2 i3 v0 v1
          change Code.wp _ _ _ _ (Since.self y6.w).w
          refine wp_region_since (by kernel_rfl) (by kernel_rfl) ?_
          repeat (go_big_quiet_step (fail))
          refine wpQuiet_nil ?_
          rintro _ ⟨z, rfl⟩
          obtain ⟨z2, e2⟩ := HT.out z
          rw [e2]
          go_wp2_with fail
          go_roundw
          case rel => exact ⟨k + 1, z2, by omega, by go_num, rfl⟩
          case measure => simp [intOf] <;> omega
      · obtain rfl : k = l.length := by omega
        clear HRg HH Hcell Hiv HhL
        go_wp2_with (go_at_call 11; ((with_reducible refine (HAw4.out _).mono ?_); rintro _ _ ⟨rfl, yw, rfl⟩))
        go_ret
        exact ⟨rfl, HUp.out _⟩
end Go.Proofs.YtdkcclngionihaaDoor
