/- Passes and the rides that they pay: the rides one after the other in their order: plain mathematics. -/
import Derived.Test.YtbkfcdheckkjaaaPsW5
set_option linter.all false
namespace Go.Proofs.Ytbkfcdheckkjaaa
open Go.RowKit

/-- how many of these rides pass k pays on day d -/
def pd (R : List Ride) (u : Nat → Int) (l : List Nat) (k d : Int) : Nat := (l.filter fun j => decide (u j = k) && decide (day (rAt R j) = d)).length
/-- ride i gets pass x -/
def upd (u : Nat → Int) (i : Nat) (x : Int) : Nat → Int := fun j => if j = i then x else u j
theorem upd_same (u : Nat → Int) (i : Nat) (x : Int) : upd u i x i = x := by unfold upd; rw [if_pos rfl]
theorem upd_ne (u : Nat → Int) (i : Nat) (x : Int) {j : Nat} (h : j ≠ i) : upd u i x j = u j := by unfold upd; rw [if_neg h]
/-- the first m rides have got their passes -/
def DoneTo (lp : List Pass) (R : List Ride) (o : List Nat) (u : Nat → Int) (m : Nat) : Prop := ∀ i ∈ o.take m, u i = firstP lp (rAt R i) (cnt R u (rAt R i))

section
variable {R : List Ride} {o : List Nat} (hO : Ord R o)
include hO
theorem Ord.nodup : o.Nodup := hO.perm.symm.nodup List.nodup_range
theorem Ord.len : o.length = R.length := by simpa using hO.perm.length_eq
theorem Ord.lt {i : Nat} (h : i ∈ o) : i < R.length := List.mem_range.1 (hO.perm.mem_iff.1 h)
theorem Ord.split {m i : Nat} (h : o[m]? = some i) : o = o.take m ++ i :: o.drop (m + 1) := by
  have _ := hO.perm
  have hlt := (List.getElem?_eq_some_iff.1 h).1
  have he := (List.getElem?_eq_some_iff.1 h).2
  rw [← he, ← List.drop_eq_getElem_cons hlt, List.take_append_drop]
theorem Ord.take_next {m i : Nat} (h : o[m]? = some i) : o.take (m + 1) = o.take m ++ [i] := by
  have _ := hO.perm
  rw [List.take_succ_eq_append_getElem (List.getElem?_eq_some_iff.1 h).1, (List.getElem?_eq_some_iff.1 h).2]
theorem Ord.notin {m i : Nat} (h : o[m]? = some i) : i ∉ o.take m := by
  have hn := hO.nodup
  rw [hO.split h, List.nodup_append] at hn
  exact fun hm => hn.2.2 i hm i (by simp) rfl
/-- those behind do not come before -/
theorem Ord.not_before {m i j : Nat} (h : o[m]? = some i) (hj : j ∈ o.take m) : bef (rAt R i) (rAt R j) = false := by
  have hs := hO.sorted
  rw [hO.split h, List.pairwise_append] at hs
  exact hs.2.2 j hj i (by simp)
theorem Ord.not_after {m i j : Nat} (h : o[m]? = some i) (hj : j ∈ o.drop (m + 1)) : bef (rAt R j) (rAt R i) = false := by
  have hs := hO.sorted
  rw [hO.split h, List.pairwise_append, List.pairwise_cons] at hs
  exact hs.2.1.1 j hj
theorem Ord.before (hid : (R.map fun r : Ride => r.id).Nodup) {m i j : Nat} (h : o[m]? = some i) (hj : j ∈ o.take m) : bef (rAt R j) (rAt R i) = true := by
  cases hb : bef (rAt R j) (rAt R i)
  · have h3 := bef_total hb (hO.not_before h hj)
    have hi : i < R.length := hO.lt (List.mem_of_getElem? h)
    have hjl : j < R.length := hO.lt (List.mem_of_mem_take hj)
    have e1 : (R.map fun r : Ride => r.id)[j]? = some (rAt R j).id := map_at (f := fun r : Ride => r.id) (by unfold rAt; rw [List.getD_eq_getElem?_getD, List.getElem?_eq_getElem hjl]; rfl)
    have e2 : (R.map fun r : Ride => r.id)[i]? = some (rAt R i).id := map_at (f := fun r : Ride => r.id) (by unfold rAt; rw [List.getD_eq_getElem?_getD, List.getElem?_eq_getElem hi]; rfl)
    rw [← h3] at e2
    have h4 := List.getElem?_eq_some_iff.1 e1
    have h5 := List.getElem?_eq_some_iff.1 e2
    have : j = i := (List.getElem_inj hid).1 (h4.2.trans h5.2.symm)
    subst this
    exact (hO.notin h hj).elim
  · rfl
/-- the rides before one are those that came before it in the order -/
theorem cnt_ord (hid : (R.map fun r : Ride => r.id).Nodup) {m i : Nat} (h : o[m]? = some i) (u : Nat → Int) (k : Int) : cnt R u (rAt R i) k = pd R u (o.take m) k (day (rAt R i)) := by
  unfold cnt pd
  have hp := (hO.perm.filter fun j => bef (rAt R j) (rAt R i) && decide (u j = k) && decide (day (rAt R j) = day (rAt R i))).length_eq
  rw [← hp, hO.split h, List.filter_append, List.length_append]
  have h1 : (o.take m).filter (fun j => bef (rAt R j) (rAt R i) && decide (u j = k) && decide (day (rAt R j) = day (rAt R i))) = (o.take m).filter (fun j => decide (u j = k) && decide (day (rAt R j) = day (rAt R i))) := by
    refine List.filter_congr fun j hj => ?_
    rw [hO.before hid h hj, Bool.true_and]
  have h2 : (i :: o.drop (m + 1)).filter (fun j => bef (rAt R j) (rAt R i) && decide (u j = k) && decide (day (rAt R j) = day (rAt R i))) = [] := by
    rw [List.filter_eq_nil_iff]
    intro j hj
    rcases List.mem_cons.1 hj with rfl | hj
    · rw [bef_irrefl]; simp
    · rw [hO.not_after h hj]; simp
  rw [h1, h2, ← hO.split h]
  simp
theorem pd_next {m i : Nat} (h : o[m]? = some i) (u : Nat → Int) (x k d : Int) : pd R (upd u i x) (o.take (m + 1)) k d = pd R u (o.take m) k d + if x = k ∧ day (rAt R i) = d then 1 else 0 := by
  unfold pd
  rw [hO.take_next h, List.filter_append, List.length_append]
  congr 1
  · congr 1
    refine List.filter_congr fun j hj => ?_
    rw [upd_ne u i x (fun e => hO.notin h (e ▸ hj))]
  · by_cases hx : x = k ∧ day (rAt R i) = d
    · rw [if_pos hx]; simp [List.filter_cons, upd_same, hx.1, hx.2]
    · rw [if_neg hx]
      rw [List.filter_eq_nil_iff.2 (by
        intro j hj
        simp at hj; subst hj
        rw [upd_same]
        simpa using hx)]
      rfl
theorem done_next {lp : List Pass} {m i : Nat} {u : Nat → Int} {x : Int} (h : o[m]? = some i) (hd : DoneTo lp R o u m) (hx : x = firstP lp (rAt R i) (cnt R u (rAt R i))) : DoneTo lp R o (upd u i x) (m + 1) := by
  intro j hj
  rw [hO.take_next h, List.mem_append] at hj
  rcases hj with hj | hj
  · rw [upd_ne u i x (fun e => hO.notin h (e ▸ hj)), hd j hj]
    refine firstP_congr fun k _ => cnt_congr (fun a ha hb => ?_) _
    by_cases hai : a = i
    · subst hai
      rw [hO.not_before h hj] at hb; cases hb
    · rw [upd_ne u i x hai]
  · simp at hj; subst hj
    rw [upd_same, hx]
    refine firstP_congr fun k _ => cnt_congr (fun a ha hb => ?_) _
    by_cases hai : a = j
    · subst hai
      rw [bef_irrefl] at hb; cases hb
    · rw [upd_ne u j _ hai]
theorem done_all {lp : List Pass} {u : Nat → Int} (hd : DoneTo lp R o u R.length) : IsUse lp R u := fun i hi =>
  hd i (by rw [List.take_of_length_le (by rw [hO.len]; exact Nat.le_refl _)]; exact hO.perm.mem_iff.2 (List.mem_range.2 hi))
end
end Go.Proofs.Ytbkfcdheckkjaaa
