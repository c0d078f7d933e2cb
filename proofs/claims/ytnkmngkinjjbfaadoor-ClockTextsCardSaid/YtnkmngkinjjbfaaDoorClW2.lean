/- The walks of windows, second part: the search for a window that is not valid, the sort. -/
import Derived.Test.YtnkmngkinjjbfaaDoorClW1
set_option linter.all false
namespace Go.Proofs.YtnkmngkinjjbfaaDoor
open Go.RowKit Go.Sort Go.Shelf Go.Lib

theorem idxW_neg : ∀ (l : List Win) (i : Int), 0 ≤ i → (0 ≤ Lib.idxBy (fun _ (y : Win) => !vldW y) l default ↔ badW l = true) := by
  intro l _ _
  have hb : ∀ j, j < l.length → l[j]! = l.getD j default := fun j hj => by
    rw [getElem!_pos l j hj, List.getD_eq_getElem?_getD, List.getElem?_eq_getElem hj]; rfl
  by_cases hbad : badW l = true
  · refine ⟨fun _ => hbad, fun _ => ?_⟩
    have : ∀ n, n ≤ l.length → (∃ k : Nat, k < n ∧ vldW (l.getD k default) = false ∧ ∀ j, j < k → vldW (l.getD j default) = true) ∨ ∀ j, j < n → vldW (l.getD j default) = true := by
      intro n
      induction n with
      | zero => intro _; exact .inr fun j hj => by omega
      | succ n ih =>
        intro hn
        rcases ih (by omega) with ⟨k, h1, h2, h3⟩ | h
        · exact .inl ⟨k, by omega, h2, h3⟩
        · cases hv : vldW (l.getD n default)
          · exact .inl ⟨n, by omega, hv, h⟩
          · exact .inr fun j hj => by
              by_cases hjn : j < n
              · exact h j hjn
              · obtain rfl : j = n := by omega
                exact hv
    rcases this l.length (Nat.le_refl _) with ⟨k, h1, h2, h3⟩ | h
    · have := Lib.idxBy_hit (fun _ (y : Win) => !vldW y) l l.length k default h1 (Nat.le_refl _) (by rw [hb k h1, h2]; rfl) (fun j hj => by rw [hb j (by omega), h3 j hj]; rfl)
      rw [List.take_length] at this
      rw [this]; omega
    · exfalso
      have : badW l = false := badW_false.2 fun x hx => by
        obtain ⟨j, hj⟩ := List.mem_iff_getElem?.1 hx
        have := h j (List.getElem?_eq_some_iff.1 hj).1
        rw [List.getD_eq_getElem?_getD, hj] at this; exact this
      rw [this] at hbad; cases hbad
  · have hf : badW l = false := by cases h : badW l; rfl; exact (hbad h).elim
    have := Lib.idxBy_miss (fun _ (y : Win) => !vldW y) l l.length default (fun j hj => by
      rw [hb j hj, badW_false.1 hf _ (by rw [List.getD_eq_getElem?_getD, List.getElem?_eq_getElem hj]; exact List.getElem_mem _)]; rfl)
    rw [List.take_length] at this
    rw [this, hf]; simp
def idxW (l : List Win) : Int := Lib.idxBy (fun _ (y : Win) => !vldW y) l default
set_option maxHeartbeats 4000000 in
theorem idxW_calls (w : World) (x : Since w) (pa : Option Addr) (lp : List Win) (pc : Nat) (hp : WinRow w pa lp) (hpl : lp.length ≤ 9223372036854775807) :
    Calls Tryd.prog 54 #[.slice pa lp.length pc, .func (.func 46) #[] #[]] x.w fun o w' => o = .returned (.int .i64 (idxW lp)) ∧ ∃ y : Since w, w' = y.w := by
  by_cases hn : lp.length = 0
  · have hl : lp = [] := List.eq_nil_of_length_eq_zero hn
    subst hl
    have Hi := Lib.hid (show idxW [] = -1 from rfl)
    clear hn hp
    go_enter Tryd.func54, Tryd.ntmps54
    go_wp2_with fail
    go_loopw [8] (fun i wr => i = .int .i64 0 ∧ wr = x.w) (fun _ _ => 0)
    case atStart => exact ⟨rfl, rfl⟩
    case round =>
      obtain ⟨rfl, rfl⟩ := hrel
      go_wp2_with fail
      go_ret
      exact ⟨ret_int Hi.out.symm, _, rfl⟩
  · have eg : ∀ args w, (callFunc 46 args).run Tryd.prog w = .ok (.enter 46 args) w := enters_of Tryd.func46 (by kernel_rfl) rfl
    obtain ⟨e0, he0⟩ : ∃ e, lp[0]? = some e := ⟨_, List.getElem?_eq_getElem (by omega)⟩
    obtain ⟨b, off, rfl, hb, _⟩ := Since.els hp x 0 e0 he0
    have hc := AnyQ.slices_IndexFunc Tryd.idxWin 2 Tryd.isAgg30 Tryd.sizeOf30 Win.cs Win.len (fun p => !vldW p) 46 #[] eg b off lp.length pc lp x.w (fun W p hW => by
      obtain ⟨y, hy⟩ := x.step hW
      subst hy
      refine (nvw_calls x.w ⟨_, hW⟩ p).mono ?_
      rintro _ w' ⟨rfl, z, rfl⟩
      exact ⟨rfl, z.b⟩) (Nat.le_refl _) hpl hb (fun j hj i v hv => by
      rw [getElem!_pos lp j hj] at hv
      obtain ⟨b', off', he, _, hcell⟩ := Since.els hp x j _ (List.getElem?_eq_getElem hj)
      simp at he
      obtain ⟨rfl, rfl⟩ := he
      exact hcell i v hv)
    change Calls Tryd.prog 54 _ _ _ at hc
    refine hc.mono ?_
    rintro _ w' ⟨rfl, hb⟩
    obtain ⟨y, rfl⟩ := x.step hb
    refine ⟨?_, y, rfl⟩
    rw [List.take_length]; rfl
theorem anyW_calls (w : World) (x : Since w) (pa : Option Addr) (lp : List Win) (pc : Nat) (hp : WinRow w pa lp) (hpl : lp.length ≤ 9223372036854775807) :
    Calls Tryd.prog 45 #[.slice pa lp.length pc, .func (.func 46) #[] #[]] x.w fun o w' => o = .returned (.bool (badW lp)) ∧ ∃ y : Since w, w' = y.w := by
  have Hc := Lib.hid (idxW_calls w x pa lp pc hp hpl)
  have Hi := Lib.hid (show 0 ≤ idxW lp ↔ badW lp = true from idxW_neg lp 0 (by omega))
  generalize idxW lp = i at *
  by_cases h : 0 ≤ i
  · have Hr := Lib.hid (Hi.out.1 h)
    go_enter Tryd.func45, Tryd.ntmps45
    go_wp2_with fail
    refine Hc.out.mono ?_
    rintro _ _ ⟨rfl, y1, rfl⟩
    go_wp2_with fail
    go_ret
    exact ⟨ret_bool (by first | exact Hr.out.symm | (rw [Hr.out]; simp; omega)), _, rfl⟩
  · have Hr := Lib.hid (show badW lp = false by cases hb : badW lp; rfl; exact (h (Hi.out.2 hb)).elim)
    have h' : i < 0 := by omega
    clear h
    go_enter Tryd.func45, Tryd.ntmps45
    go_wp2_with fail
    refine Hc.out.mono ?_
    rintro _ _ ⟨rfl, y1, rfl⟩
    go_wp2_with fail
    go_ret
    exact ⟨ret_bool (by first | exact Hr.out.symm | (rw [Hr.out]; simp; omega)), _, rfl⟩
/-- what the sort leaves of a slice of the call's own -/
def SortWPost (w : World) (v : Value) (l : List Win) (e : Ending) (w' : World) : Prop :=
  e = .returned (.tuple #[]) ∧ w.grownBy w' v.ownBlock ∧ ∃ a cap l', v = .slice a l.length cap ∧ l.length ≤ cap ∧ l'.Perm l ∧ l'.Pairwise (fun x y : Win => x.f ≤ y.f) ∧ WinRow w' a l'
theorem sortW_calls (w : World) (base : Nat) (v : Value) (n : Nat) (l : List Win) (hown : w.ownsRow base 30 2 v n (flat Win.cs l)) (hl : l.length < 4611686018427387904) :
    Calls Tryd.prog 47 #[v, .func (.func 48) #[] #[]] w (SortWPost w v l) := by
  obtain ⟨rfl, a, cap, rfl, hcap, hels, hbase, hblk⟩ := own_els Win.len (by decide) hown
  by_cases h0 : l.length = 0
  · have hl0 : l = [] := List.eq_nil_of_length_eq_zero h0
    subst hl0
    have hc := AnyF.slices_SortFunc_none { Tryd.sortWin with } a cap (.func (.func 48) #[] #[]) w
    change Calls Tryd.prog 47 _ _ _ at hc
    refine hc.mono ?_
    rintro _ _ ⟨rfl, rfl⟩
    exact ⟨rfl, World.grownBy.refl _ _, a, cap, [], rfl, hcap, .nil, .nil, els_nil _ _⟩
  · obtain ⟨x, hx⟩ : ∃ x, l[0]? = some x := ⟨l[0]'(by omega), List.getElem?_eq_getElem (by omega)⟩
    obtain ⟨g, off, ha, hg, _⟩ := hels 0 x hx
    subst ha
    obtain rfl : off = 0 := by
      obtain ⟨_, ⟨hbad, _⟩ | ⟨g', cap', cur, he, _⟩⟩ := hown
      · cases hbad
      · simp at he; exact he.1.2
    have hH := own_holdsK (l := l) Win.len (by decide) hown
    have eg : ∀ args w, (callFunc 48 args).run Tryd.prog w = .ok (.enter 48 args) w := enters_of Tryd.func48 (by kernel_rfl) rfl
    have hcmp : CmpLays Tryd.prog 48 #[] Win.cs 2 wcmp g 0 l.toArray.size w := fun m os dk _ u v => by
      have := wcmp_calls u v (sortWorldK Win.cs 2 w g 0 m dk os)
      exact this
    have hc := AnyQ.slices_SortFunc Tryd.sortWin 2 Tryd.isAgg30 Tryd.sizeOf30 Win.cs Win.len win_one wcmp swo_w 48 #[] g 0 cap l.toArray w eg hcmp hH hg (by simpa using hl)
    change Calls Tryd.prog 47 _ _ _ at hc
    refine hc.mono ?_
    rintro _ _ ⟨rfl, d', n, os, hP, hS, rfl⟩
    obtain ⟨hsz, _, hperm⟩ := hP
    have hh := holdsK_sortWorldK_c Win.cs 2 w g 0 l.toArray d' n os hH hg hsz
    have hsz' : d'.size = l.length := by simpa using hsz
    refine ⟨rfl, grownBy_sortK _ _ _ _ _ _ _, _, cap, d'.toList, rfl, hcap, ?_, ?_, els_of_holdsK Win.len hh (Nat.lt_of_lt_of_le hg (grownBy_sortK _ _ _ _ _ _ _).size)⟩
    · have h1 : (d'.extract 0 l.toArray.size) = d' := by rw [← hsz]; exact Array.extract_size
      have h2 : (l.toArray.extract 0 l.toArray.size) = l.toArray := Array.extract_size
      rw [h1, h2] at hperm
      simpa using hperm
    · rw [List.pairwise_iff_getElem]
      intro i j hi hj hij
      have hi' : i < d'.size := by simpa using hi
      have hj' : j < d'.size := by simpa using hj
      have := hS i j (Nat.zero_le _) hij (by simp; omega)
      rw [ltOf_wcmp, getElem!_pos d' j hj', getElem!_pos d' i hi'] at this
      simp at this
      simpa using this
end Go.Proofs.YtnkmngkinjjbfaaDoor
