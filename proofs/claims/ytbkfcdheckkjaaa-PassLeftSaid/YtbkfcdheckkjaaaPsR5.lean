/- The reference of passes: which pass pays which ride. -/
import Derived.Test.YtbkfcdheckkjaaaPsR4
import Derived.Test.YtbkfcdheckkjaaaMake
set_option linter.all false
namespace Go.Proofs.Ytbkfcdheckkjaaa
open Go.RowKit

def updB (b : Nat → Bool) (i : Nat) : Nat → Bool := fun j => if j = i then true else b j
theorem updB_same (b : Nat → Bool) (i : Nat) : updB b i i = true := by unfold updB; rw [if_pos rfl]
theorem updB_ne (b : Nat → Bool) (i : Nat) {j : Nat} (h : j ≠ i) : updB b i j = b j := by unfold updB; rw [if_neg h]
/-- m rides are done, the first ones by their order -/
structure UInv (lp : List Pass) (R : List Ride) (u : Nat → Int) (b : Nat → Bool) (m : Nat) : Prop where
  num : ((List.range R.length).filter fun j => b j).length = m
  dn : ∀ j, j < R.length → b j = true → u j = firstP lp (rAt R j) (cnt R u (rAt R j))
  nd : ∀ j, j < R.length → b j = false → u j = -1
  ord : ∀ i j, i < R.length → j < R.length → b i = true → b j = false → bef (rAt R i) (rAt R j) = true
theorem filter_updB (n i : Nat) (b : Nat → Bool) (hi : i < n) (hb : b i = false) : ((List.range n).filter fun j => updB b i j).length = ((List.range n).filter fun j => b j).length + 1 := by
  induction n with
  | zero => omega
  | succ n ih =>
    rw [List.range_succ, List.filter_append, List.filter_append, List.length_append, List.length_append]
    by_cases hin : i < n
    · rw [ih hin]
      simp only [List.filter_cons, List.filter_nil, updB_ne b i (show n ≠ i by omega)]
      omega
    · obtain rfl : i = n := by omega
      have : (List.range i).filter (fun j => updB b i j) = (List.range i).filter fun j => b j := List.filter_congr fun j hj => updB_ne b i (by have := List.mem_range.1 hj; omega)
      rw [this]
      simp [List.filter_cons, updB_same, hb]
theorem UInv.start (lp : List Pass) (R : List Ride) : UInv lp R (fun _ => -1) (fun _ => false) 0 :=
  ⟨by simp, fun j _ h => (by cases h), fun _ _ _ => rfl, fun _ _ _ _ h _ => (by cases h)⟩
theorem ids_ne {R : List Ride} (hid : (R.map fun r : Ride => r.id).Nodup) {i j : Nat} (hi : i < R.length) (hj : j < R.length) (h : (rAt R i).id = (rAt R j).id) : i = j := by
  have e1 : (R.map fun r : Ride => r.id)[j]? = some (rAt R j).id := map_at (f := fun r : Ride => r.id) (by unfold rAt; rw [List.getD_eq_getElem?_getD, List.getElem?_eq_getElem hj]; rfl)
  have e2 : (R.map fun r : Ride => r.id)[i]? = some (rAt R i).id := map_at (f := fun r : Ride => r.id) (by unfold rAt; rw [List.getD_eq_getElem?_getD, List.getElem?_eq_getElem hi]; rfl)
  rw [← h] at e1
  have h4 := List.getElem?_eq_some_iff.1 e1
  have h5 := List.getElem?_eq_some_iff.1 e2
  exact (List.getElem_inj hid).1 (h5.2.trans h4.2.symm)
section
variable {lp : List Pass} {R : List Ride} {u : Nat → Int} {b : Nat → Bool} {m : Nat} (h : UInv lp R u b m)
include h
theorem UInv.some (hm : m < R.length) : ∃ i, i < R.length ∧ b i = false := by
  refine Classical.byContradiction fun hn => ?_
  have : (List.range R.length).filter (fun j => b j) = List.range R.length := List.filter_eq_self.2 fun j hj => by
    cases hb : b j
    · exact (hn ⟨j, List.mem_range.1 hj, hb⟩).elim
    · rfl
  have h1 := h.num
  rw [this] at h1
  simp at h1; omega
theorem UInv.step (hid : (R.map fun r : Ride => r.id).Nodup) {i : Nat} (hi : i < R.length) (hb : b i = false) (hf : ∀ j, j < R.length → b j = false → bef (rAt R j) (rAt R i) = false) {v : Int} (hv : v = firstP lp (rAt R i) (cnt R u (rAt R i))) : UInv lp R (upd u i v) (updB b i) (m + 1) := by
  refine ⟨by rw [filter_updB _ _ _ hi hb, h.num], fun j hj hbj => ?_, fun j hj hbj => ?_, fun j k hj hk hbj hbk => ?_⟩
  · by_cases hji : j = i
    · subst hji
      rw [upd_same, hv]
      refine firstP_congr fun k _ => cnt_congr (fun a ha hba => ?_) _
      rw [upd_ne]
      rintro rfl
      rw [bef_irrefl] at hba; cases hba
    · rw [upd_ne _ _ _ hji]
      rw [updB_ne _ _ hji] at hbj
      rw [h.dn j hj hbj]
      refine firstP_congr fun k _ => cnt_congr (fun a ha hba => ?_) _
      rw [upd_ne]
      rintro rfl
      rw [bef_asymm (h.ord j a hj ha hbj hb)] at hba; cases hba
  · have hji : j ≠ i := fun e => by subst e; rw [updB_same] at hbj; cases hbj
    rw [upd_ne _ _ _ hji]
    rw [updB_ne _ _ hji] at hbj
    exact h.nd j hj hbj
  · have hki : k ≠ i := fun e => by subst e; rw [updB_same] at hbk; cases hbk
    rw [updB_ne _ _ hki] at hbk
    by_cases hji : j = i
    · subst hji
      cases hbb : bef (rAt R j) (rAt R k)
      · exact (hki (ids_ne hid hk hj (bef_total (hf k hk hbk) hbb))).elim
      · rfl
    · rw [updB_ne _ _ hji] at hbj
      exact h.ord j k hj hk hbj hbk
theorem UInv.done (hm : m = R.length) : IsUse lp R u := by
  intro i hi
  refine h.dn i hi ?_
  cases hb : b i
  · exfalso
    have h1 := filter_updB R.length i b hi hb
    have h2 := List.length_filter_le (fun j => updB b i j) (List.range R.length)
    have := h.num
    simp at h2; omega
  · rfl
/-- what is counted are the rides that come before -/
theorem UInv.paid {i : Nat} (hi : i < R.length) (hb : b i = false) (hf : ∀ j, j < R.length → b j = false → bef (rAt R j) (rAt R i) = false) (k : Nat) : cntU R (upd u i (-1)) k (day (rAt R i)) = cnt R u (rAt R i) k := by
  unfold cntU cntTo cnt
  congr 1
  refine List.filter_congr fun j hj => ?_
  have hj := List.mem_range.1 hj
  have hui : upd u i (-1) j = u j := by
    by_cases hji : j = i
    · subst hji; rw [upd_same, h.nd j hj hb]
    · exact upd_ne _ _ _ hji
  rw [hui]
  cases hbj : b j
  · rw [hf j hj hbj, h.nd j hj hbj]
    simp
  · rw [h.ord j i hj hi hbj hb]
    simp
end
abbrev Flags (w : World) (g n : Nat) (b : Nat → Bool) : Prop := Vals w g n fun j => .bool (b j)
theorem Nums.row {w : World} {g n : Nat} {f : Nat → Int} (h : Nums w g n f) : FunRow w (some ⟨g, 0, none⟩) n f :=
  fun i hi => ⟨g, 0, rfl, h.lt, by rw [Nat.zero_add]; exact h.c i hi⟩
theorem Vals.nums {w : World} {g n : Nat} {f : Nat → Int} (h : Vals w g n fun j => .int .i64 (f j)) : Nums w g n f := ⟨h.lt, h.c, h.f⟩
theorem sInt : SliceOf Try.prog 29 3 (.int .i64 0) 1 8 := SliceOf.mk' Try.underlying29 (by kernel_rfl) rfl (by decide)
theorem sBool : SliceOf Try.prog 63 4 (.bool false) 1 1 := SliceOf.mk' Try.underlying63 (by kernel_rfl) rfl (by decide)
set_option maxRecDepth 100000 in
set_option maxHeartbeats 16000000 in
theorem ruse_calls (w : World) (x : Since w) (pa : Option Addr) (lp : List Pass) (pc : Nat) (a : Option Addr) (R : List Ride) (c : Nat) (hp : PassRow w pa lp) (hpl : lp.length ≤ 9223372036854775807) (h : RideRow w a R) (hl : R.length ≤ 9223372036854775807) :
    Calls Try.prog 14 #[.slice pa lp.length pc, .slice a R.length c] x.w (UseRes w lp R) := by
  have Hc1 := Lib.hid (fun y : Since w => rpcheck_calls w y pa lp pc hp hpl)
  have Hc2 := Lib.hid (fun y : Since w => rrides_calls w y a R c h hl)
  have HP := Lib.hid hp
  have HR := Lib.hid h
  clear hp h
  by_cases hz1 : passE lp = 0
  case neg =>
    have hzb : (passE lp == 0) = false := by simpa using hz1
    have hzb' : (passE lp != 0) = true := by simpa using hz1
    have hue : usesE lp R = passE lp := by unfold usesE; rw [if_pos hz1]
    have Hpost := Lib.hid (show ∀ (y : Since w), UseRes w lp R (.returned (.tuple #[.slice none 0 0, .int .i64 (passE lp)])) y.w from fun y => ⟨none, 0, [], y, by rw [hue]; rfl, rfl, fun i hi => by simp at hi, useOk_ex (by rw [hue]; exact hz1)⟩)
    clear hz1 hue
    generalize UseRes w lp R = PO at *
    generalize passE lp = ue at *
    go_enter Try.func14, Try.ntmps14
    go_wp2_with fail
    refine (Hc1.out _).mono ?_
    rintro _ _ ⟨rfl, y1, rfl⟩
    go_wp2_with fail
    exact Hpost.out y1
  rw [hz1] at Hc1
  by_cases hz2 : ridesE R = 0
  case neg =>
    have hzb' : (ridesE R != 0) = true := by simpa using hz2
    have hue : usesE lp R = ridesE R := by unfold usesE; rw [if_neg (by simpa using hz1)]
    have Hpost := Lib.hid (show ∀ (y : Since w), UseRes w lp R (.returned (.tuple #[.slice none 0 0, .int .i64 (ridesE R)])) y.w from fun y => ⟨none, 0, [], y, by rw [hue]; rfl, rfl, fun i hi => by simp at hi, useOk_ex (by rw [hue]; exact hz2)⟩)
    clear hz1 hz2 hue
    generalize UseRes w lp R = PO at *
    generalize ridesE R = ue at *
    go_enter Try.func14, Try.ntmps14
    go_wp2_with fail
    refine (Hc1.out _).mono ?_
    rintro _ _ ⟨rfl, y1, rfl⟩
    go_wp2_with fail
    refine (Hc2.out _).mono ?_
    rintro _ _ ⟨rfl, y2, rfl⟩
    go_wp2_with fail
    exact Hpost.out y2
  rw [hz2] at Hc2
  have hR256 := (ridesE_zero hz2).1
  have hlp64 := (passE_zero hz1).1
  have Hid := Lib.hid (ridesE_zero hz2).2.1
  have Hs0 := Lib.hid (rides_s0 hz2)
  have Hz := Lib.hid (show usesE lp R = 0 by unfold usesE; rw [if_neg (by simpa using hz1), hz2])
  clear hz1 hz2
  go_enter Try.func14, Try.ntmps14
  go_wp2_with fail
  refine (Hc1.out _).mono ?_
  rintro _ _ ⟨rfl, y1, rfl⟩
  go_wp2_with fail
  refine (Hc2.out _).mono ?_
  rintro _ _ ⟨rfl, y2, rfl⟩
  go_wp2_with fail
  clear Hc1 Hc2
  have mk1 := make1_run sInt rfl R.length (by omega) (by omega)
  have mk2 := make1_run sBool rfl R.length (by omega) (by omega)
  go_region_held3 (fun w' => IsSince y2.w w') (first | assumption | exact IsSince.drew' (IsSince.self _) | exact IsSince.alloc (IsSince.drew' (IsSince.self _)) _ | exact IsSince.alloc (IsSince.alloc (IsSince.drew' (IsSince.self _)) _) _) (fail)
  all_goals
    first
      | (obtain ⟨y3, h3, hN, hF, hg⟩ := two_new y2 R.length (.int .i64 0) (.bool false) 3 4
         rw [h3]
         have HN := Lib.hid (hN.nums (f := fun _ => 0)); have HF := Lib.hid (show Flags y3.w (y2.w.heap.size + 1) R.length (fun _ => false) from hF)
         have Hgu := Lib.hid hg; have Hgd := Lib.hid (show w.heap.size ≤ y2.w.heap.size + 1 by omega)
         have Hne := Lib.hid (show y2.w.heap.size ≠ y2.w.heap.size + 1 by omega)
         clear h3 hF hN hg mk1 mk2
         generalize y2.w.heap.size + 1 = gd at *
         generalize y2.w.heap.size = gu at *)
      | (obtain ⟨y3, h3, hF, hN, hg⟩ := two_new y2 R.length (.bool false) (.int .i64 0) 4 3
         rw [h3]
         have HN := Lib.hid (hN.nums (f := fun _ => 0)); have HF := Lib.hid (show Flags y3.w y2.w.heap.size R.length (fun _ => false) from hF)
         have Hgu := Lib.hid (show w.heap.size ≤ y2.w.heap.size + 1 by omega); have Hgd := Lib.hid hg
         have Hne := Lib.hid (show y2.w.heap.size + 1 ≠ y2.w.heap.size by omega)
         clear h3 hF hN hg mk1 mk2
         generalize y2.w.heap.size + 1 = gu at *
         generalize y2.w.heap.size = gd at *)
    go_wp2_with fail
    go_loopw [9] (fun i wr => ∃ (k : Nat) (y : Since w), k ≤ R.length ∧ i = .int .i64 k ∧ wr = y.w ∧ Nums y.w gu R.length (fun j => if j < k then -1 else 0) ∧ Flags y.w gd R.length (fun _ => false)) (fun i _ => R.length - (intOf i).toNat)
    case atStart => exact ⟨0, y3, by omega, rfl, rfl, HN.out.congr fun j hj => by simp, HF.out⟩
    case round =>
      clear HN HF
      obtain ⟨k, y, hk, rfl, rfl, hN, hF⟩ := hrel
      have HN := Lib.hid hN; have HF := Lib.hid hF
      clear hN hF
      by_cases hlt : k < R.length
      · have hc := HN.out.c k hlt
        have hf := HN.out.f k hlt
        rw [if_neg (by omega)] at hc
        have hk0 : (0 : Int) ≤ (k : Int) := by omega
        have hkl : (k : Int) < (R.length : Int) := by omega
        obtain ⟨y5, h5⟩ := y.set ⟨gu, k, none⟩ Hgu.out (.int .i64 (-1))
        have HN5 := Lib.hid (HN.out.set (f' := fun j => if j < k + 1 then -1 else 0) hlt (-1) (by simp) (fun j _ hj => by
          by_cases hjk : j < k
          · rw [if_pos hjk, if_pos (by omega)]
          · rw [if_neg hjk, if_neg (by omega)]))
        have HF5 := Lib.hid (HF.out.setOther ⟨gu, k, none⟩ Hne.out (.int .i64 (-1)))
        rw [h5] at HN5 HF5
        clear HN HF
        go_wp2_with fail
        go_roundw
        case rel => exact ⟨k + 1, y5, by omega, by go_num, rfl, HN5.out, HF5.out⟩
        case measure => simp [intOf] <;> omega
      · obtain rfl : k = R.length := by omega
        have HN0 := Lib.hid (HN.out.congr (f' := fun _ => -1) (fun j hj => by rw [if_pos hj]))
        clear HN
        go_wp2_with fail
        go_loopw [10] (fun s wr => ∃ (m : Nat) (u : Nat → Int) (b : Nat → Bool) (y : Since w), m ≤ R.length ∧ s = .int .i64 m ∧ wr = y.w ∧ Nums y.w gu R.length u ∧ Flags y.w gd R.length b ∧ UInv lp R u b m) (fun s _ => R.length - (intOf s).toNat)
        case atStart => exact ⟨0, fun _ => -1, fun _ => false, y, by omega, rfl, rfl, HN0.out, HF.out, UInv.start lp R⟩
        case round =>
          clear HN0 HF
          obtain ⟨m, u, b, y, hm, rfl, rfl, hN, hF, hI⟩ := hrel
          have HN := Lib.hid hN; have HF := Lib.hid hF; have HI := Lib.hid hI
          clear hN hF hI
          by_cases hlt : m < R.length
          · have hm0 : (0 : Int) ≤ (m : Int) := by omega
            have hml : (m : Int) < (R.length : Int) := by omega
            obtain ⟨q0, hq0⟩ := Since.refl y.w
            rw [hq0]
            clear hq0
            go_wp2_with fail
            refine (rnext_calls y.w _ a R c (some ⟨gd, 0, none⟩) R.length R.length b (HR.out.since y) HF.out.row (Nat.le_refl _) hR256).mono ?_
            rintro _ _ ⟨v, z1, rfl, rfl, hv⟩
            obtain ⟨i, rfl, hi, hbi, hfi⟩ : ∃ i : Nat, v = i ∧ i < R.length ∧ b i = false ∧ ∀ j, j < R.length → b j = false → bef (rAt R j) (rAt R i) = false := by
              rcases hv with ⟨_, hall⟩ | h
              · obtain ⟨i, hi, hb⟩ := HI.out.some hlt
                rw [hall i hi] at hb; cases hb
              · exact h
            clear hv
            replace HN := Lib.hid (HN.out.to ⟨z1, rfl⟩); replace HF := Lib.hid (HF.out.to ⟨z1, rfl⟩)
            obtain ⟨y6, h6⟩ := y.trans z1
            rw [h6] at HN HF ⊢
            have kc := HF.out.c i hi
            have kf := HF.out.f i hi
            rw [hbi] at kc
            have hi0 : (0 : Int) ≤ (i : Int) := by omega
            have hil : (i : Int) < (R.length : Int) := by omega
            obtain ⟨y7, h7⟩ := y6.set ⟨gd, i, none⟩ Hgd.out (.bool true)
            have HF7 := Lib.hid (show Flags _ gd R.length (updB b i) from HF.out.set (f' := fun j => .bool (updB b i j)) hi (.bool true) (by rw [updB_same]) (fun j _ hj => by rw [updB_ne _ _ hj]))
            have HN7 := Lib.hid ((HN.out.setOther ⟨gd, i, none⟩ (Ne.symm Hne.out) (.bool true)).congr (f' := upd u i (-1)) (fun j hj => by
              by_cases hji : j = i
              · subst hji; rw [upd_same, HI.out.nd j hj hbi]
              · rw [upd_ne _ _ _ hji]))
            have Hb := Lib.hid (And.intro hbi hfi)
            clear h6 HN HF hbi hfi
            go_upto_region 16 with fail
            rw [h7] at HF7 HN7
            clear h7 kc kf
            obtain ⟨e, he⟩ : ∃ e, R[i]? = some e := ⟨_, List.getElem?_eq_getElem hi⟩
            have He := Lib.hid (rAt_eq he)
            obtain ⟨hs0, hs1⟩ := Hs0.out e (List.mem_of_getElem? he)
            have He' := Lib.hid he
            clear he
            go_wp2_with fail
            go_loopw [12] (fun s wr => ∃ (k : Nat) (v : Int) (y : Since w), k ≤ lp.length ∧ s = .int .i64 k ∧ wr = y.w ∧ Nums y.w gu R.length (upd u i v) ∧ Flags y.w gd R.length (updB b i) ∧ ((v = -1 ∧ ∀ j, j < k → (vP (pAt lp j) e && decide ((cnt R u e (j : Int) : Int) < (pAt lp j).n)) = false) ∨ (0 ≤ v ∧ v = firstP lp e (cnt R u e)))) (fun s _ => lp.length - (intOf s).toNat)
            case atStart => exact ⟨0, -1, y7, by omega, rfl, rfl, HN7.out, HF7.out, .inl ⟨rfl, fun j hj => by omega⟩⟩
            case round =>
              clear HN7 HF7
              obtain ⟨k, v, y8, hk, rfl, rfl, hN, hF, hv⟩ := hrel
              have HN := Lib.hid hN; have HF := Lib.hid hF
              clear hN hF
              have kc : ∀ q : Since y8.w, q.w.cell? ⟨gu, i, none⟩ = some (.int .i64 v) := fun q => Since.cell (by rw [HN.out.c i hi, upd_same]) HN.out.lt q
              have kf := HN.out.f i hi
              have hk0 : (0 : Int) ≤ (k : Int) := by omega
              rcases hv with ⟨rfl, hno⟩ | ⟨hv0, hv⟩
              · by_cases hkl : k < lp.length
                · obtain ⟨p, hp⟩ : ∃ p, lp[k]? = some p := ⟨_, List.getElem?_eq_getElem hkl⟩
                  have Hpc := Lib.hid (fun q : Since y8.w => rpaid_calls y8.w q a R c (some ⟨gu, 0, none⟩) R.length R.length (upd u i (-1)) k (e.s0 / 86400) (HR.out.since y8) HN.out.row (Nat.le_refl _) hR256 Hs0.out)
                  have Hcn := Lib.hid (show cntU R (upd u i (-1)) k (e.s0 / 86400) = cnt R u e k by
                    have := HI.out.paid hi Hb.out.1 Hb.out.2 k
                    rw [He.out] at this; exact this)
                  rw [Hcn.out] at Hpc
                  have Hvc := Lib.hid (fun q : Since y8.w => rvalid_calls y8.w q p e hs0 hs1)
                  obtain ⟨b2, off2, rfl, h2'⟩ := Els.pass (Since.els HP.out y8) hp
                  have pa0 := h2'.c0
                  have pa1 := h2'.c1
                  have pa2 := h2'.c2
                  have pa3 := h2'.c3
                  have pa4 := h2'.c4
                  have pa5 := h2'.c5
                  obtain ⟨b1, off1, rfl, h1'⟩ := Els.ride (HR.out.since y8).c He'.out
                  have ra0 := h1'.c0
                  have ra1 := h1'.c1
                  have ra2 := h1'.c2
                  have ra3 := h1'.c3
                  have ra4 := h1'.c4
                  have ra5 := h1'.c5
                  have ra6 := h1'.c6
                  have ra7 := h1'.c7
                  have ra8 := h1'.c8
                  have ra9 := h1'.c9
                  have ra10 := h1'.c10
                  have ra11 := h1'.c11
                  have ra12 := h1'.c12
                  have Hpe := Lib.hid (pAt_eq hp)
                  have hkl' : (k : Int) < (lp.length : Int) := by omega
                  have Hno := Lib.hid hno
                  clear h1' h2' hp hno Hcn
                  obtain ⟨q8, hq0⟩ := Since.refl y8.w
                  rw [hq0]
                  clear hq0
                  cases hvp : vP p e with
                  | false =>
                    rw [hvp] at Hvc
                    have Hno2 := Lib.hid (show ∀ j, j < k + 1 → (vP (pAt lp j) e && decide ((cnt R u e (j : Int) : Int) < (pAt lp j).n)) = false from fun j hj => by
                      by_cases hjk : j = k
                      · subst hjk; rw [Hpe.out, hvp]; rfl
                      · exact Hno.out j (by omega))
                    clear hvp Hno
                    go_wp2_with fail
                    refine wp_region_since (by kernel_rfl) (by kernel_rfl) ?_
                    repeat (go_big_quiet_step ((first | (go_at_call 31; exact Hvc.out _) | (go_at_call 32; exact Hpc.out _))))
                    refine wpQuiet_nil ?_
                    rintro _ ⟨z, rfl⟩
                    go_wp2_with fail
                    replace HN := Lib.hid (HN.out.to ⟨z, rfl⟩); replace HF := Lib.hid (HF.out.to ⟨z, rfl⟩)
                    obtain ⟨y9, h9⟩ := y8.trans z
                    rw [h9] at HN HF ⊢
                    go_roundw
                    case rel => exact ⟨k + 1, -1, y9, by omega, by go_num, rfl, HN.out, HF.out, .inl ⟨rfl, Hno2.out⟩⟩
                    case measure => simp [intOf] <;> omega
                  | true =>
                    rw [hvp] at Hvc
                    cases hcn : decide ((cnt R u e k : Int) < p.n) with
                    | false =>
                      have Hno2 := Lib.hid (show ∀ j, j < k + 1 → (vP (pAt lp j) e && decide ((cnt R u e (j : Int) : Int) < (pAt lp j).n)) = false from fun j hj => by
                        by_cases hjk : j = k
                        · subst hjk; rw [Hpe.out, hcn]; simp
                        · exact Hno.out j (by omega))
                      clear hvp Hno
                      go_wp2_with fail
                      refine wp_region_since (by kernel_rfl) (by kernel_rfl) ?_
                      repeat (go_big_quiet_step ((first | (go_at_call 31; exact Hvc.out _) | (go_at_call 32; exact Hpc.out _))))
                      refine wpQuiet_nil ?_
                      rintro _ ⟨z, rfl⟩
                      go_wp2_with fail
                      replace HN := Lib.hid (HN.out.to ⟨z, rfl⟩); replace HF := Lib.hid (HF.out.to ⟨z, rfl⟩)
                      obtain ⟨y9, h9⟩ := y8.trans z
                      rw [h9] at HN HF ⊢
                      go_roundw
                      case rel => exact ⟨k + 1, -1, y9, by omega, by go_num, rfl, HN.out, HF.out, .inl ⟨rfl, Hno2.out⟩⟩
                      case measure => simp [intOf] <;> omega
                    | true =>
                      have Htk := Lib.hid (show (k : Int) = firstP lp e (cnt R u e) from
                        (firstP_yes hkl (by rw [Hpe.out, hvp, hcn]; rfl) Hno.out).symm)
                      clear hvp Hno
                      go_wp2_with fail
                      refine wp_region_since (by kernel_rfl) (by kernel_rfl) ?_
                      repeat (go_big_quiet_step ((first | (go_at_call 31; exact Hvc.out _) | (go_at_call 32; exact Hpc.out _))))
                      refine wpQuiet_nil ?_
                      rintro _ ⟨z, rfl⟩
                      go_upto_region 20 with fail
                      replace HN := Lib.hid (HN.out.to ⟨z, rfl⟩); replace HF := Lib.hid (HF.out.to ⟨z, rfl⟩)
                      clear kc kf Hvc Hpc ra0 ra1 ra2 ra3 ra4 ra5 ra6 ra7 ra8 ra9 ra10 ra11 ra12 pa0 pa1 pa2 pa3 pa4 pa5
                      obtain ⟨y9, h9⟩ := y8.trans z
                      rw [h9] at HN HF ⊢
                      clear h9
                      have kc := HN.out.c i hi
                      have kf := HN.out.f i hi
                      obtain ⟨y10, h10⟩ := y9.set ⟨gu, i, none⟩ Hgu.out (.int .i64 (k : Int))
                      have HN10 := Lib.hid (HN.out.set (f' := upd u i (k : Int)) hi (k : Int) (by rw [upd_same]) (fun j _ hj => by rw [upd_ne _ _ _ hj, upd_ne _ _ _ hj]))
                      have HF10 := Lib.hid (show Flags _ gd R.length (updB b i) from HF.out.setOther ⟨gu, i, none⟩ Hne.out (.int .i64 (k : Int)))
                      rw [h10] at HN10 HF10
                      clear HN HF
                      go_wp2_with fail
                      go_roundw
                      case rel => exact ⟨k + 1, k, y10, by omega, by go_num, rfl, HN10.out, HF10.out, .inr ⟨by omega, Htk.out⟩⟩
                      case measure => simp [intOf] <;> omega
                · obtain rfl : k = lp.length := by omega
                  have HI2 := Lib.hid (HI.out.step Hid.out hi Hb.out.1 Hb.out.2 (v := -1) (by rw [He.out]; exact (firstP_no hno).symm))
                  clear hno HI
                  go_wp2_with fail
                  go_roundw
                  case rel => exact ⟨m + 1, upd u i (-1), updB b i, y8, by omega, by go_num, rfl, HN.out, HF.out, HI2.out⟩
                  case measure => simp [intOf] <;> omega
              · have HI2 := Lib.hid (HI.out.step Hid.out hi Hb.out.1 Hb.out.2 (v := v) (by rw [He.out]; exact hv))
                have hvb : decide (v < 0) = false := decide_eq_false (by omega)
                clear hv HI
                obtain ⟨q8, hq0⟩ := Since.refl y8.w
                rw [hq0]
                clear hq0
                by_cases hkl : k < lp.length
                · have hkl' : (k : Int) < (lp.length : Int) := by omega
                  go_wp2_with fail
                  replace HN := Lib.hid (HN.out.to ⟨q8, rfl⟩); replace HF := Lib.hid (HF.out.to ⟨q8, rfl⟩)
                  obtain ⟨y9, h9⟩ := y8.trans q8
                  rw [h9] at HN HF ⊢
                  go_roundw
                  case rel => exact ⟨m + 1, upd u i v, updB b i, y9, by omega, by go_num, rfl, HN.out, HF.out, HI2.out⟩
                  case measure => simp [intOf] <;> omega
                · obtain rfl : k = lp.length := by omega
                  go_wp2_with fail
                  replace HN := Lib.hid (HN.out.to ⟨q8, rfl⟩); replace HF := Lib.hid (HF.out.to ⟨q8, rfl⟩)
                  obtain ⟨y9, h9⟩ := y8.trans q8
                  rw [h9] at HN HF ⊢
                  go_roundw
                  case rel => exact ⟨m + 1, upd u i v, updB b i, y9, by omega, by go_num, rfl, HN.out, HF.out, HI2.out⟩
                  case measure => simp [intOf] <;> omega
          · obtain rfl : m = R.length := by omega
            have HD := Lib.hid (HI.out.done rfl)
            go_wp2_with fail
            go_ret2
            refine ⟨some ⟨gu, 0, none⟩, R.length, (List.range R.length).map u, y, ?_, rfl, ?_, UseOk.of Hz.out HD.out⟩
            · rw [Hz.out, List.length_map, List.length_range]; rfl
            · rw [IntRow, List.length_map, List.length_range]
              exact HN.out.row.congr fun i hi => by rw [at0_range u _ i hi]
end Go.Proofs.Ytbkfcdheckkjaaa
