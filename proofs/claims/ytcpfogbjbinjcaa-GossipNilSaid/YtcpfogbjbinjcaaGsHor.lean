/- The plain mathematics of replicas: the horizon; replicas of one world. -/
import Derived.Test.YtcpfogbjbinjcaaGsSeen
set_option linter.all false
namespace Go.Proofs.Ytcpfogbjbinjcaa

/-- the earliest moment of event s of device d -/
def atS (l : List Ev) (d s : Int) : Int := match l.find? (fun x => decide (x.d = d) && decide (x.q = s)) with | some x => x.a | none => 0
theorem atS_mem {n : Int} {l : List Ev} (hI : Inv n l) {x : Ev} (hx : x ∈ l) {d s : Int} (hd : x.d = d) (hs : x.q = s) : atS l d s = x.a := by
  unfold atS
  cases h : l.find? (fun x => decide (x.d = d) && decide (x.q = s)) with
  | none =>
    rw [List.find?_eq_none] at h
    have := h x hx
    simp [hd, hs] at this
  | some y =>
    have h1 := List.mem_of_find?_eq_some h
    have h2 := List.find?_some (p := fun x : Ev => decide (x.d = d) && decide (x.q = s)) h
    simp at h2
    have := hI.keys y h1 x hx ((sk_iff _ _).2 ⟨by omega, by omega⟩)
    rw [this]
theorem at_seen {n : Int} {l : List Ev} (hI : Inv n l) {d : Int} (h : 0 < seenN l d) : ∃ x ∈ l, x.d = d ∧ x.q = (seenN l d : Int) ∧ atS l d (seenN l d) = x.a := by
  have h1 := seen_all l d (seenN l d - 1) (by omega)
  obtain ⟨x, hx, h2, h3⟩ := (hasB_iff _ _ _).1 h1
  have h4 : x.q = (seenN l d : Int) := by omega
  exact ⟨x, hx, h2, h4, atS_mem hI hx h2 h4⟩
/-- the least moment over the first k devices -/
def horF (l : List Ev) : Nat → Int
  | 0 => 4294943999
  | k + 1 => min (horF l k) (atS l (k : Int) (seenN l (k : Int)))
def horZ (n : Nat) (l : List Ev) : Bool := (List.range n).any fun d => decide (seenN l (d : Int) = 0)
theorem horZ_iff (n : Nat) (l : List Ev) : horZ n l = true ↔ ∃ d : Nat, d < n ∧ seenN l (d : Int) = 0 := by simp [horZ]
theorem horZ_false {n : Nat} {l : List Ev} : horZ n l = false ↔ ∀ d : Nat, d < n → 0 < seenN l (d : Int) := by
  cases h : horZ n l
  · simp only [true_iff]
    intro d hd
    rcases Nat.eq_zero_or_pos (seenN l (d : Int)) with h0 | h0
    · have := (horZ_iff n l).2 ⟨d, hd, h0⟩; rw [h] at this; cases this
    · exact h0
  · obtain ⟨d, hd, h0⟩ := (horZ_iff n l).1 h
    simp only [Bool.true_eq_false, false_iff]
    intro hh; have := hh d hd; omega
def hor (n : Nat) (l : List Ev) : Int := if horZ n l then 0 else horF l n
theorem horF_le {l : List Ev} {n d : Nat} (h : d < n) : horF l n ≤ atS l (d : Int) (seenN l (d : Int)) := by
  induction n with
  | zero => omega
  | succ n ih =>
    unfold horF
    by_cases hd : d < n
    · have := ih hd; omega
    · obtain rfl : d = n := by omega
      omega
theorem horF_nonneg {N : Int} {l : List Ev} (hI : Inv N l) {n : Nat} (h : ∀ d : Nat, d < n → 0 < seenN l (d : Int)) : 0 ≤ horF l n := by
  induction n with
  | zero => unfold horF; omega
  | succ n ih =>
    obtain ⟨x, hx, _, _, ha⟩ := at_seen hI (h n (by omega))
    have h1 := (rngB_iff x).1 (hI.rng x hx).2.2
    have h2 := ih (fun d hd => h d (by omega))
    unfold horF; omega
theorem hor_nonneg {N : Int} {l : List Ev} (hI : Inv N l) (n : Nat) : 0 ≤ hor n l := by
  unfold hor
  cases h : horZ n l
  · rw [if_neg (by simp)]; exact horF_nonneg hI (horZ_false.1 h)
  · rw [if_pos rfl]; omega
theorem seen_mono {l m : List Ev} (h : ∀ x ∈ l, x ∈ m) (d : Int) : seenN l d ≤ seenN m d := by
  rcases Nat.lt_or_ge (seenN m d) (seenN l d) with hlt | hge
  · have h1 := seen_all l d _ hlt
    obtain ⟨x, hx, e⟩ := (hasB_iff _ _ _).1 h1
    have := seen_next m d
    rw [(hasB_iff _ _ _).2 ⟨x, h x hx, e⟩] at this; cases this
  · exact hge
theorem hor_mono {N : Int} {n : Nat} {l m : List Ev} (hl : Inv N l) (hm : Inv N m) (h : ∀ x ∈ l, x ∈ m) : hor n l ≤ hor n m := by
  cases h1 : horZ n l
  · have hp := horZ_false.1 h1
    have hq : ∀ d : Nat, d < n → 0 < seenN m (d : Int) := fun d hd => by have := hp d hd; have := seen_mono h (d : Int); omega
    have h2 := horZ_false.2 hq
    unfold hor
    rw [h1, h2, if_neg (by simp), if_neg (by simp)]
    clear h1 h2
    induction n with
    | zero => exact Int.le_refl _
    | succ n ih =>
      have := ih (fun d hd => hp d (by omega)) (fun d hd => hq d (by omega))
      unfold horF
      obtain ⟨x, hx, x1, x2, x3⟩ := at_seen hl (hp n (by omega))
      obtain ⟨y, hy, y1, y2, y3⟩ := at_seen hm (hq n (by omega))
      have hsm := seen_mono h (n : Int)
      have : x.a ≤ y.a := by
        by_cases he : seenN l (n : Int) = seenN m (n : Int)
        · have := hm.keys x (h x hx) y hy ((sk_iff _ _).2 ⟨by omega, by omega⟩)
          rw [this]; omega
        · exact (late_false.1 (hm.time x (h x hx) y hy)).1 (by omega) (by omega)
      omega
  · have := hor_nonneg hm n
    unfold hor; rw [h1, if_pos rfl]; exact this
theorem horZ_congr {n : Nat} {l m : List Ev} (h : ∀ d : Nat, d < n → seenN l (d : Int) = seenN m (d : Int)) : horZ n l = horZ n m := by
  rw [Bool.eq_iff_iff, horZ_iff, horZ_iff]
  constructor
  · rintro ⟨d, hd, e⟩; exact ⟨d, hd, by rw [← h d hd]; exact e⟩
  · rintro ⟨d, hd, e⟩; exact ⟨d, hd, by rw [h d hd]; exact e⟩
theorem inv_perm {N : Int} {l m : List Ev} (hl : Inv N l) (h : l.Perm m) : Inv N m :=
  ⟨fun x hx => hl.rng x (h.mem_iff.2 hx), fun x hx y hy => hl.keys x (h.mem_iff.2 hx) y (h.mem_iff.2 hy), fun x hx y hy => hl.time x (h.mem_iff.2 hx) y (h.mem_iff.2 hy), h.nodup hl.nodup, by rw [← h.length_eq]; exact hl.len⟩
theorem hor_perm {N : Int} {n : Nat} {l m : List Ev} (hl : Inv N l) (h : l.Perm m) : hor n l = hor n m := by
  have hm := inv_perm hl h
  have h1 := hor_mono (n := n) hl hm (fun x hx => h.mem_iff.1 hx)
  have h2 := hor_mono (n := n) hm hl (fun x hx => h.mem_iff.2 hx)
  omega
theorem seenL_perm {l m : List Ev} (h : l.Perm m) (n : Nat) : seenL n l = seenL n m := by
  unfold seenL
  exact List.map_congr_left fun d _ => by rw [seenN_perm h]

/-- what is seen of a list behind given numbers -/
def lastD (seen : List Int) (d : Int) : Int := if d < (seen.length : Int) then at0 seen d.toNat else 0
def newB (seen : List Int) (x : Ev) : Bool := decide (lastD seen x.d < x.q)
def sinceL (l : List Ev) (seen : List Int) : List Ev := sortE (l.filter (newB seen))
theorem since_nil {N : Int} {l : List Ev} (hI : Inv N l) : sinceL l [] = sortE l := by
  unfold sinceL
  rw [List.filter_eq_self.2 fun x hx => ?_]
  have := (rngB_iff x).1 (hI.rng x hx).2.2
  have h0 := (hI.rng x hx).1
  unfold newB lastD
  rw [if_neg (by simp; omega)]
  simp; omega
theorem since_perm {l m : List Ev} (h : l.Perm m) (seen : List Int) : sinceL l seen = sinceL m seen := sortE_congr (h.filter _)

/-- a list without repetitions of events of a world -/
structure Sub (W l : List Ev) : Prop where
  sub : ∀ x ∈ l, x ∈ W
  nodup : l.Nodup
theorem nodup_len : ∀ (a b : List Ev), a.Nodup → (∀ x ∈ a, x ∈ b) → a.length ≤ b.length
  | [], b, _, _ => by simp
  | x :: a, b, hn, hs => by
    have hx := hs x (by simp)
    have h1 := nodup_len a (b.erase x) (List.nodup_cons.1 hn).2 (fun y hy => by
      have hne : y ≠ x := fun e => (List.nodup_cons.1 hn).1 (e ▸ hy)
      exact (List.mem_erase_of_ne hne).2 (hs y (by simp [hy])))
    have h2 := List.length_erase_of_mem hx
    have h3 : 0 < b.length := List.length_pos_of_mem hx
    simp only [List.length_cons]; omega
theorem sub_nil (W : List Ev) : Sub W [] := ⟨by simp, List.nodup_nil⟩
theorem sub_inv {N : Int} {W l : List Ev} (hW : Inv N W) (h : Sub W l) : Inv N l :=
  ⟨fun x hx => hW.rng x (h.sub x hx), fun x hx y hy => hW.keys x (h.sub x hx) y (h.sub y hy), fun x hx y hy => hW.time x (h.sub x hx) y (h.sub y hy), h.nodup, by
    have := nodup_len l W h.nodup h.sub; have := hW.len; omega⟩
theorem sub_old {N : Int} {W l : List Ev} (hW : Inv N W) (h : Sub W l) {e : Ev} (he : e ∈ l) : addE N l e = 0 ∧ freshB N l e = false := by
  have hr := hW.rng e (h.sub e he)
  have hf := findE_mem (sub_inv hW h) he (sk_self e)
  have h0 := addE_found (n := N) (by omega) hr.2.2 hf
  rw [if_pos rfl] at h0
  exact ⟨h0, by unfold freshB; rw [hf]; simp⟩
theorem sub_new {N : Int} {W l : List Ev} (hW : Inv N W) (h : Sub W l) {e : Ev} (heW : e ∈ W) (he : e ∉ l) : addE N l e = 0 ∧ freshB N l e = true := by
  have hr := hW.rng e heW
  have hf : findE l e = none := by
    rw [findE_none]
    intro x hx
    cases hs : sk x e
    · rfl
    · have := hW.keys x (h.sub x hx) e heW hs
      subst this; exact (he hx).elim
  have hfit : fitsB l e = true := (fitsB_iff l e).2 fun x hx => hW.time x (h.sub x hx) e heW
  have hlen : ¬ 512 ≤ l.length := by
    have := nodup_len (e :: l) W (List.nodup_cons.2 ⟨he, h.nodup⟩) (fun x hx => by
      rcases List.mem_cons.1 hx with rfl | hx
      · exact heW
      · exact h.sub x hx)
    have := hW.len
    simp only [List.length_cons] at *; omega
  have h0 := addE_new (n := N) (by omega) hr.2.2 hf hfit hlen
  exact ⟨h0, by unfold freshB; rw [hf, h0]; simp⟩
theorem sub_add {N : Int} {W l : List Ev} (hW : Inv N W) (h : Sub W l) {e : Ev} (he : e ∈ W) : addE N l e = 0 ∧ Sub W (addL N l e) ∧ (∀ x, x ∈ addL N l e ↔ x ∈ l ∨ x = e) := by
  by_cases hm : e ∈ l
  · have h1 := sub_old hW h hm
    rw [addL_same h1.2]
    exact ⟨h1.1, h, fun x => ⟨.inl, fun hh => by rcases hh with hh | rfl; exact hh; exact hm⟩⟩
  · have h1 := sub_new hW h he hm
    rw [addL_fresh h1.2]
    refine ⟨h1.1, ⟨fun x hx => ?_, ?_⟩, fun x => by simp⟩
    · rcases List.mem_append.1 hx with hx | hx
      · exact h.sub x hx
      · simp at hx; subst hx; exact he
    · rw [List.nodup_append]
      refine ⟨h.nodup, by simp, fun x hx y hy hxy => ?_⟩
      simp at hy; subst hy; subst hxy; exact hm hx
/-- the list behind adding all of m, one after the other -/
def addAll (N : Int) : List Ev → List Ev → List Ev
  | l, [] => l
  | l, e :: m => addAll N (addL N l e) m
/-- the first error -/
def mergeE (N : Int) : List Ev → List Ev → Int
  | _, [] => 0
  | l, e :: m => if addE N l e = 0 then mergeE N (addL N l e) m else addE N l e
theorem inv_addAll {N : Int} : ∀ (m l : List Ev), Inv N l → Inv N (addAll N l m)
  | [], _, h => h
  | e :: m, l, h => inv_addAll m _ (inv_add h e)
theorem addAll_append (N : Int) : ∀ (m m' l : List Ev), addAll N l (m ++ m') = addAll N (addAll N l m) m'
  | [], _, _ => rfl
  | e :: m, m', l => by simp only [List.cons_append, addAll]; exact addAll_append N m m' _
theorem sub_all {N : Int} {W : List Ev} (hW : Inv N W) : ∀ (m l : List Ev), Sub W l → (∀ x ∈ m, x ∈ W) → mergeE N l m = 0 ∧ Sub W (addAll N l m) ∧ ∀ x, x ∈ addAll N l m ↔ x ∈ l ∨ x ∈ m
  | [], l, h, _ => ⟨rfl, h, fun x => by simp [addAll]⟩
  | e :: m, l, h, hm => by
    obtain ⟨h1, h2, h3⟩ := sub_add hW h (hm e (by simp))
    obtain ⟨g1, g2, g3⟩ := sub_all hW m _ h2 (fun x hx => hm x (by simp [hx]))
    refine ⟨by unfold mergeE; rw [if_pos h1]; exact g1, g2, fun x => ?_⟩
    show x ∈ addAll N (addL N l e) m ↔ _
    rw [g3, h3]
    simp only [List.mem_cons]
    constructor
    · rintro ((h | h) | h)
      · exact .inl h
      · exact .inr (.inl h)
      · exact .inr (.inr h)
    · rintro (h | h | h)
      · exact .inl (.inl h)
      · exact .inl (.inr h)
      · exact .inr h
/-- replicas with the same events are the same up to their order -/
theorem sub_perm {W l m : List Ev} (hl : Sub W l) (hm : Sub W m) (h : ∀ x, x ∈ l ↔ x ∈ m) : l.Perm m := by
  rw [List.perm_ext_iff_of_nodup hl.nodup hm.nodup]; exact h
/-- nothing that a replica does not contain is before its horizon -/
theorem hor_le_new {N : Int} {n : Nat} (hN : N = n) {W l : List Ev} (hW : Inv N W) (h : Sub W l) {x : Ev} (hx : x ∈ W) (hn : x ∉ l) : hor n l ≤ x.a := by
  have hr := hW.rng x hx
  have h1 := (rngB_iff x).1 hr.2.2
  unfold hor
  cases hz : horZ n l
  · rw [if_neg (by simp)]
    have hp := horZ_false.1 hz
    obtain ⟨d, hd⟩ : ∃ d : Nat, x.d = d := ⟨x.d.toNat, by omega⟩
    have hdn : d < n := by omega
    obtain ⟨y, hy, y1, y2, y3⟩ := at_seen (sub_inv hW h) (hp d hdn)
    have hle := horF_le (l := l) hdn
    rw [y3] at hle
    have hq : (seenN l (d : Int) : Int) < x.q := by
      rcases Int.lt_or_le (seenN l (d : Int) : Int) x.q with h' | h'
      · exact h'
      · exfalso
        have := seen_all l (d : Int) (x.q.toNat - 1) (by omega)
        obtain ⟨z, hz1, z1, z2⟩ := (hasB_iff _ _ _).1 this
        have := hW.keys z (h.sub z hz1) x hx ((sk_iff _ _).2 ⟨by omega, by omega⟩)
        subst this; exact hn hz1
    have := (late_false.1 (hW.time y (h.sub y hy) x hx)).1 (by omega) (by omega)
    omega
  · rw [if_pos rfl]; omega
end Go.Proofs.Ytcpfogbjbinjcaa
