/- The reference of passes: which pass pays which ride. -/
import Derived.Test.YtbkfcdheckkjaaaPsMd
import Derived.Test.YtbkfcdheckkjaaaRows
set_option linter.all false
namespace Go.Proofs.Ytbkfcdheckkjaaa
open Go.RowKit

def updB (b : Nat → Bool) (i : Nat) : Nat → Bool := fun j => if j = i then true else b j
theorem updB_same (b : Nat → Bool) (i : Nat) : updB b i i = true := by unfold updB; rw [if_pos rfl]
theorem updB_ne (b : Nat → Bool) (i : Nat) {j : Nat} (h : j ≠ i) : updB b i j = b j := by unfold updB; rw [if_neg h]
/-- m rides are done, the first ones by their order -/
structure UInv (lp : List Pass) (R : List Ride) (u : Nat → Int) (b : Nat → Bool) (m : Nat) : Prop where
  num : ((List.range R.length).filter fun j => b j).length = m
  dn : ∀ j, j < R.length → b j = true → u j = firstP lp (rAt R j) (cnt R u (rAt R j))
  nd : ∀ j, j < R.length → b j = false → u j = -1
  ord : ∀ i j, i < R.length → j < R.length → b i = true → b j = false → bef (rAt R i) (rAt R j) = true
theorem filter_updB (n i : Nat) (b : Nat → Bool) (hi : i < n) (hb : b i = false) : ((List.range n).filter fun j => updB b i j).length = ((List.range n).filter fun j => b j).length + 1 := by
  induction n with
  | zero => omega
  | succ n ih =>
    rw [List.range_succ, List.filter_append, List.filter_append, List.length_append, List.length_append]
    by_cases hin : i < n
    · rw [ih hin]
      simp only [List.filter_cons, List.filter_nil, updB_ne b i (show n ≠ i by omega)]
      omega
    · obtain rfl : i = n := by omega
      have : (List.range i).filter (fun j => updB b i j) = (List.range i).filter fun j => b j := List.filter_congr fun j hj => updB_ne b i (by have := List.mem_range.1 hj; omega)
      rw [this]
      simp [updB_same, hb]
theorem UInv.start (lp : List Pass) (R : List Ride) : UInv lp R (fun _ => -1) (fun _ => false) 0 :=
  ⟨by simp, fun j _ h => (by cases h), fun _ _ _ => rfl, fun _ _ _ _ h _ => (by cases h)⟩
theorem ids_ne {R : List Ride} (hid : (R.map fun r : Ride => r.id).Nodup) {i j : Nat} (hi : i < R.length) (hj : j < R.length) (h : (rAt R i).id = (rAt R j).id) : i = j := by
  have e1 : (R.map fun r : Ride => r.id)[j]? = some (rAt R j).id := map_at (f := fun r : Ride => r.id) (by unfold rAt; rw [List.getD_eq_getElem?_getD, List.getElem?_eq_getElem hj]; rfl)
  have e2 : (R.map fun r : Ride => r.id)[i]? = some (rAt R i).id := map_at (f := fun r : Ride => r.id) (by unfold rAt; rw [List.getD_eq_getElem?_getD, List.getElem?_eq_getElem hi]; rfl)
  rw [← h] at e1
  have h4 := List.getElem?_eq_some_iff.1 e1
  have h5 := List.getElem?_eq_some_iff.1 e2
  exact (List.getElem_inj hid).1 (h5.2.trans h4.2.symm)
section
variable {lp : List Pass} {R : List Ride} {u : Nat → Int} {b : Nat → Bool} {m : Nat} (h : UInv lp R u b m)
include h
theorem UInv.some (hm : m < R.length) : ∃ i, i < R.length ∧ b i = false := by
  refine Classical.byContradiction fun hn => ?_
  have : (List.range R.length).filter (fun j => b j) = List.range R.length := List.filter_eq_self.2 fun j hj => by
    cases hb : b j
    · exact (hn ⟨j, List.mem_range.1 hj, hb⟩).elim
    · rfl
  have h1 := h.num
  rw [this] at h1
  simp at h1; omega
theorem UInv.step (hid : (R.map fun r : Ride => r.id).Nodup) {i : Nat} (hi : i < R.length) (hb : b i = false) (hf : ∀ j, j < R.length → b j = false → bef (rAt R j) (rAt R i) = false) {v : Int} (hv : v = firstP lp (rAt R i) (cnt R u (rAt R i))) : UInv lp R (upd u i v) (updB b i) (m + 1) := by
  refine ⟨by rw [filter_updB _ _ _ hi hb, h.num], fun j hj hbj => ?_, fun j hj hbj => ?_, fun j k hj hk hbj hbk => ?_⟩
  · by_cases hji : j = i
    · subst hji
      rw [upd_same, hv]
      refine firstP_congr fun k _ => cnt_congr (fun a ha hba => ?_) _
      rw [upd_ne]
      rintro rfl
      rw [bef_irrefl] at hba; cases hba
    · rw [upd_ne _ _ _ hji]
      rw [updB_ne _ _ hji] at hbj
      rw [h.dn j hj hbj]
      refine firstP_congr fun k _ => cnt_congr (fun a ha hba => ?_) _
      rw [upd_ne]
      rintro rfl
      rw [bef_asymm (h.ord j a hj ha hbj hb)] at hba; cases hba
  · have hji : j ≠ i := fun e => by subst e; rw [updB_same] at hbj; cases hbj
    rw [upd_ne _ _ _ hji]
    rw [updB_ne _ _ hji] at hbj
    exact h.nd j hj hbj
  · have hki : k ≠ i := fun e => by subst e; rw [updB_same] at hbk; cases hbk
    rw [updB_ne _ _ hki] at hbk
    by_cases hji : j = i
    · subst hji
      cases hbb : bef (rAt R j) (rAt R k)
      · exact (hki (ids_ne hid hk hj (bef_total (hf k hk hbk) hbb))).elim
      · rfl
    · rw [updB_ne _ _ hji] at hbj
      exact h.ord j k hj hk hbj hbk
theorem UInv.done (hm : m = R.length) : IsUse lp R u := by
  intro i hi
  refine h.dn i hi ?_
  cases hb : b i
  · exfalso
    have h1 := filter_updB R.length i b hi hb
    have h2 := List.length_filter_le (fun j => updB b i j) (List.range R.length)
    have := h.num
    simp at h2; omega
  · rfl
/-- what is counted are the rides that come before -/
theorem UInv.paid {i : Nat} (hi : i < R.length) (hb : b i = false) (hf : ∀ j, j < R.length → b j = false → bef (rAt R j) (rAt R i) = false) (k : Nat) : cntU R (upd u i (-1)) k (day (rAt R i)) = cnt R u (rAt R i) k := by
  unfold cntU cntTo cnt
  congr 1
  refine List.filter_congr fun j hj => ?_
  have hj := List.mem_range.1 hj
  have hui : upd u i (-1) j = u j := by
    by_cases hji : j = i
    · subst hji; rw [upd_same, h.nd j hj hb]
    · exact upd_ne _ _ _ hji
  rw [hui]
  cases hbj : b j
  · rw [hf j hj hbj, h.nd j hj hbj]
    simp
  · rw [h.ord j i hj hi hbj hb]
    simp
end
abbrev Flags (w : World) (g n : Nat) (b : Nat → Bool) : Prop := Vals w g n fun j => .bool (b j)
theorem Nums.row {w : World} {g n : Nat} {f : Nat → Int} (h : Nums w g n f) : FunRow w (some ⟨g, 0, none⟩) n f :=
  fun i hi => ⟨g, 0, rfl, h.lt, by rw [Nat.zero_add]; exact h.c i hi⟩
theorem Vals.nums {w : World} {g n : Nat} {f : Nat → Int} (h : Vals w g n fun j => .int .i64 (f j)) : Nums w g n f := ⟨h.lt, h.c, h.f⟩
theorem sInt : SliceOf Try.prog 29 3 (.int .i64 0) 1 8 := SliceOf.mk' Try.underlying29 (by kernel_rfl) rfl (by decide)
theorem sBool : SliceOf Try.prog 63 4 (.bool false) 1 1 := SliceOf.mk' Try.underlying63 (by kernel_rfl) rfl (by decide)
set_option maxRecDepth 100000 in
set_option maxHeartbeats 16000000 in
theorem ruse_calls (w : World) (x : Since w) (pa : Option Addr) (lp : List Pass) (pc : Nat) (a : Option Addr) (R : List Ride) (c : Nat) (hp : PassRow w pa lp) (hpl : lp.length ≤ 9223372036854775807) (h : RideRow w a R) (hl : R.length ≤ 9223372036854775807) :
    Calls Try.prog 14 #[.slice pa lp.length pc, .slice a R.length c] x.w (UseRes w lp R) := by
  have Hc1 := Lib.hid (fun y : Since w => rpcheck_calls w y pa lp pc hp hpl)
  have Hc2 := Lib.hid (fun y : Since w => rrides_calls w y a R c h hl)
  have HP := Lib.hid hp
  have HR := Lib.hid h
  clear hp h
  by_cases hz1 : passE lp = 0
  case neg =>
    have hzb : (passE lp == 0) = false := by simpa using hz1
    have hzb' : (passE lp != 0) = true := by simpa using hz1
    have hue : usesE lp R = passE lp := by unfold usesE; rw [if_pos hz1]
    have Hpost := Lib.hid (show ∀ (y : Since w), UseRes w lp R (.returned (.tuple #[.slice none 0 0, .int .i64 (passE lp)])) y.w from fun y => ⟨none, 0, [], y, by rw [hue]; rfl, rfl, fun i hi => by simp at hi, useOk_ex (by rw [hue]; exact hz1)⟩)
    clear hz1 hue
    generalize UseRes w lp R = PO at *
    generalize passE lp = ue at *
    go_enter Try.func14, Try.ntmps14
    go_wp2_with fail
    refine (Hc1.out _).mono ?_
    rintro _ _ ⟨rfl, y1, rfl⟩
    go_wp2_with fail
    exact Hpost.out y1
  rw [hz1] at Hc1
  by_cases hz2 : ridesE R = 0
  case neg =>
    have hzb' : (ridesE R != 0) = true := by simpa using hz2
    have hue : usesE lp R = ridesE R := by unfold usesE; rw [if_neg (by simpa using hz1)]
    have Hpost := Lib.hid (show ∀ (y : Since w), UseRes w lp R (.returned (.tuple #[.slice none 0 0, .int .i64 (ridesE R)])) y.w from fun y => ⟨none, 0, [], y, by rw [hue]; rfl, rfl, fun i hi => by simp at hi, useOk_ex (by rw [hue]; exact hz2)⟩)
    clear hz1 hz2 hue
    generalize UseRes w lp R = PO at *
    generalize ridesE R = ue at *
    go_enter Try.func14, Try.ntmps14
    go_wp2_with fail
    refine (Hc1.out _).mono ?_
    rintro _ _ ⟨rfl, y1, rfl⟩
    go_wp2_with fail
    refine (Hc2.out _).mono ?_
    rintro _ _ ⟨rfl, y2, rfl⟩
    go_wp2_with fail
    exact Hpost.out y2
  rw [hz2] at Hc2
  have hR256 := (ridesE_zero hz2).1
  have hlp64 := (passE_zero hz1).1
  have Hid := Lib.hid (ridesE_zero hz2).2.1
  have Hs0 := Lib.hid (rides_s0 hz2)
  have Hz := Lib.hid (show usesE lp R = 0 by unfold usesE; rw [if_neg (by simpa using hz1), hz2])
  clear hz1 hz2
  go_enter Try.func14, Try.ntmps14
  go_wp2_with fail
  refine (Hc1.out _).mono ?_
  rintro _ _ ⟨rfl, y1, rfl⟩
  go_wp2_with fail
  refine (Hc2.out _).mono ?_
  rintro _ _ ⟨rfl, y2, rfl⟩
  go_wp2_with fail
  clear Hc1 Hc2
  have mk1 := make1_run sInt rfl R.length (by omega) (by omega)
  have mk2 := make1_run sBool rfl R.length (by omega) (by omega)
  go_region_held3 (fun w' => IsSince y2.w w') (first | assumption | exact IsSince.drew' (IsSince.self _) | exact IsSince.alloc (IsSince.drew' (IsSince.self _)) _ | exact IsSince.alloc (IsSince.alloc (IsSince.drew' (IsSince.self _)) _) _) (fail)
  all_goals
    first
      | (obtain ⟨y3, h3, hN, hF, hg⟩ := two_new y2 R.length (.int .i64 0) (.bool false) 3 4
         rw [h3]
         have HN := Lib.hid (hN.nums (f := fun _ => 0)); have HF := Lib.hid (show Flags y3.w (y2.w.heap.size + 1) R.length (fun _ => false) from hF)
         have Hgu := Lib.hid hg; have Hgd := Lib.hid (show w.heap.size ≤ y2.w.heap.size + 1 by omega)
         have Hne := Lib.hid (show y2.w.heap.size ≠ y2.w.heap.size + 1 by omega)
         clear h3 hF hN hg mk1 mk2
         generalize y2.w.heap.size + 1 = gd at *
         generalize y2.w.heap.size = gu at *)
      | (obtain ⟨y3, h3, hF, hN, hg⟩ := two_new y2 R.length (.bool false) (.int .i64 0) 4 3
         rw [h3]
         have HN := Lib.hid (hN.nums (f := fun _ => 0)); have HF := Lib.hid (show Flags y3.w y2.w.heap.size R.length (fun _ => false) from hF)
         have Hgu := Lib.hid (show w.heap.size ≤ y2.w.heap.size + 1 by omega); have Hgd := Lib.hid hg
         have Hne := Lib.hid (show y2.w.heap.size + 1 ≠ y2.w.heap.size by omega)
         clear h3 hF hN hg mk1 mk2
         generalize y2.w.heap.size + 1 = gu at *
         generalize y2.w.heap.size = gd at *)
    go_wp2_with fail
    go_loopw [9] (fun i wr => ∃ (k : Nat) (y : Since w), k ≤ R.length ∧ i = .int .i64 k ∧ wr = y.w ∧ Nums y.w gu R.length (fun j => if j < k then -1 else 0) ∧ Flags y.w gd R.length (fun _ => false)) (fun i _ => R.length - (intOf i).toNat)
    case atStart => exact ⟨0, y3, by omega, rfl, rfl, HN.out.congr fun j hj => by simp, HF.out⟩
    case round =>
      clear HN HF
      obtain ⟨k, y, hk, rfl, rfl, hN, hF⟩ := hrel
      have HN := Lib.hid hN; have HF := Lib.hid hF
      clear hN hF
      by_cases hlt : k < R.length
      · have hc := HN.out.c k hlt
        have hf := HN.out.f k hlt
        rw [if_neg (by omega)] at hc
        have hk0 : (0 : Int) ≤ (k : Int) := by omega
        have hkl : (k : Int) < (R.length : Int) := by omega
        obtain ⟨y5, h5⟩ := y.set ⟨gu, k, none⟩ Hgu.out (.int .i64 (-1))
        have HN5 := Lib.hid (HN.out.set (f' := fun j => if j < k + 1 then -1 else 0) hlt (-1) (by simp) (fun j _ hj => by
          by_cases hjk : j < k
          · rw [if_pos hjk, if_pos (by omega)]
          · rw [if_neg hjk, if_neg (by omega)]))
        have HF5 := Lib.hid (HF.out.setOther ⟨gu, k, none⟩ Hne.out (.int .i64 (-1)))
        rw [h5] at HN5 HF5
        clear HN HF
        go_wp2_with fail
        go_roundw
        case rel => exact ⟨k + 1, y5, by omega, by go_num, rfl, HN5.out, HF5.out⟩
        case measure => simp [intOf] <;> omega
      · obtain rfl : k = R.length := by omega
        have HN0 := Lib.hid (HN.out.congr (f' := fun _ => -1) (fun j hj => by rw [if_pos hj]))
        clear HN
        go_wp2_with fail
        go_loopw [10] (fun s wr => ∃ (m : Nat) (u : Nat → Int) (b : Nat → Bool) (y : Since w), m ≤ R.length ∧ s = .int .i64 m ∧ wr = y.w ∧ Nums y.w gu R.length u ∧ Flags y.w gd R.length b ∧ UInv lp R u b m) (fun s _ => R.length - (intOf s).toNat)
        case atStart => exact ⟨0, fun _ => -1, fun _ => false, y, by omega, rfl, rfl, HN0.out, HF.out, UInv.start lp R⟩
        case round =>
          clear HN0 HF
          obtain ⟨m, u, b, y, hm, rfl, rfl, hN, hF, hI⟩ := hrel
          have HN := Lib.hid hN; have HF := Lib.hid hF; have HI := Lib.hid hI
          clear hN hF hI
          by_cases hlt : m < R.length
          · have hm0 : (0 : Int) ≤ (m : Int) := by omega
            have hml : (m : Int) < (R.length : Int) := by omega
            obtain ⟨q0, hq0⟩ := Since.refl y.w
            rw [hq0]
            clear hq0
            go_wp2_with fail
            refine (rnext_calls y.w _ a R c (some ⟨gd, 0, none⟩) R.length R.length b (HR.out.since y) HF.out.row (Nat.le_refl _) hR256).mono ?_
            rintro _ _ ⟨v, z1, rfl, rfl, hv⟩
            obtain ⟨i, rfl, hi, hbi, hfi⟩ : ∃ i : Nat, v = i ∧ i < R.length ∧ b i = false ∧ ∀ j, j < R.length → b j = false → bef (rAt R j) (rAt R i) = false := by
              rcases hv with ⟨_, hall⟩ | h
              · obtain ⟨i, hi, hb⟩ := HI.out.some hlt
                rw [hall i hi] at hb; cases hb
              · exact h
            clear hv
            replace HN := Lib.hid (HN.out.to ⟨z1, rfl⟩); replace HF := Lib.hid (HF.out.to ⟨z1, rfl⟩)
            obtain ⟨y6, h6⟩ := y.trans z1
            rw [h6] at HN HF ⊢
            have kc := HF.out.c i hi
            have kf := HF.out.f i hi
            rw [hbi] at kc
            have hi0 : (0 : Int) ≤ (i : Int) := by omega
            have hil : (i : Int) < (R.length : Int) := by omega
            obtain ⟨y7, h7⟩ := y6.set ⟨gd, i, none⟩ Hgd.out (.bool true)
            have HF7 := Lib.hid (show Flags _ gd R.length (updB b i) from HF.out.set (f' := fun j => .bool (updB b i j)) hi (.bool true) (by rw [updB_same]) (fun j _ hj => by rw [updB_ne _ _ hj]))
            have HN7 := Lib.hid ((HN.out.setOther ⟨gd, i, none⟩ (Ne.symm Hne.out) (.bool true)).congr (f' := upd u i (-1)) (fun j hj => by
              by_cases hji : j = i
              · subst hji; rw [upd_same, HI.out.nd j hj hbi]
              · rw [upd_ne _ _ _ hji]))
            have Hb := Lib.hid (And.intro hbi hfi)
            clear h6 HN HF hbi hfi
            go_upto_region 16 with fail
            rw [h7] at HF7 HN7
            clear h7 kc kf
            obtain ⟨e, he⟩ : ∃ e, R[i]? = some e := ⟨_, List.getElem?_eq_getElem hi⟩
            have He := Lib.hid (rAt_eq he)
            obtain ⟨hs0, hs1⟩ := Hs0.out e (List.mem_of_getElem? he)
            have He' := Lib.hid he
            clear he
            go_wp2_with fail
            go_loopw [12] (fun s wr => ∃ (k : Nat) (v : Int) (y : Since w), k ≤ lp.length ∧ s = .int .i64 k ∧ wr = y.w ∧ Nums y.w gu R.length (upd u i v) ∧ Flags y.w gd R.length (updB b i) ∧ ((v = -1 ∧ ∀ j, j < k → (vP (pAt lp j) e && decide ((cnt R u e (j : Int) : Int) < (pAt lp j).n)) = false) ∨ (0 ≤ v ∧ v = firstP lp e (cnt R u e)))) (fun s _ => lp.length - (intOf s).toNat)
            case atStart => exact ⟨0, -1, y7, by omega, rfl, rfl, HN7.out, HF7.out, .inl ⟨rfl, fun j hj => by omega⟩⟩
            case round =>
              clear HN7 HF7
              obtain ⟨k, v, y8, hk, rfl, rfl, hN, hF, hv⟩ := hrel
              have HN := Lib.hid hN; have HF := Lib.hid hF
              clear hN hF
              have kc : ∀ q : Since y8.w, q.w.cell? ⟨gu, i, none⟩ = some (.int .i64 v) := fun q => Since.cell (by rw [HN.out.c i hi, upd_same]) HN.out.lt q
              have kf := HN.out.f i hi
              have hk0 : (0 : Int) ≤ (k : Int) := by omega
              rcases hv with ⟨rfl, hno⟩ | ⟨hv0, hv⟩
              · by_cases hkl : k < lp.length
                · obtain ⟨p, hp⟩ : ∃ p, lp[k]? = some p := ⟨_, List.getElem?_eq_getElem hkl⟩
                  have Hpc := Lib.hid (fun q : Since y8.w => rpaid_calls y8.w q a R c (some ⟨gu, 0, none⟩) R.length R.length (upd u i (-1)) k (e.s0 / 86400) (HR.out.since y8) HN.out.row (Nat.le_refl _) hR256 Hs0.out)
                  have Hcn := Lib.hid (show cntU R (upd u i (-1)) k (e.s0 / 86400) = cnt R u e k by
                    have := HI.out.paid hi Hb.out.1 Hb.out.2 k
                    rw [He.out] at this; exact this)
                  rw [Hcn.out] at Hpc
                  have Hvc := Lib.hid (fun q : Since y8.w => rvalid_calls y8.w q p e hs0 hs1)
                  obtain ⟨b2, off2, rfl, h2'⟩ := Els.pass (Since.els HP.out y8) hp
                  have pa0 := h2'.c0
                  have pa1 := h2'.c1
                  have pa2 := h2'.c2
                  have pa3 := h2'.c3
                  have pa4 := h2'.c4
                  have pa5 := h2'.c5
                  obtain ⟨b1, off1, rfl, h1'⟩ := Els.ride (HR.out.since y8).c He'.out
                  have ra0 := h1'.c0
                  have ra1 := h1'.c1
                  have ra2 := h1'.c2
                  have ra3 := h1'.c3
                  have ra4 := h1'.c4
                  have ra5 := h1'.c5
                  have ra6 := h1'.c6
                  have ra7 := h1'.c7
                  have ra8 := h1'.c8
                  have ra9 := h1'.c9
                  have ra10 := h1'.c10
                  have ra11 := h1'.c11
                  have ra12 := h1'.c12
                  have Hpe := Lib.hid (pAt_eq hp)
                  have hkl' : (k : Int) < (lp.length : Int) := by omega
                  have Hno := Lib.hid hno
                  clear h1' h2' hp hno Hcn
                  obtain ⟨q8, hq0⟩ := Since.refl y8.w
                  rw [hq0]
                  clear hq0
                  cases hvp : vP p e with
                  | false =>
                    rw [hvp] at Hvc
                    have Hno2 := Lib.hid (show ∀ j, j < k + 1 → (vP (pAt lp j) e && decide ((cnt R u e (j : Int) : Int) < (pAt lp j).n)) = false from fun j hj => by
                      by_cases hjk : j = k
                      · subst hjk; rw [Hpe.out, hvp]; rfl
                      · exact Hno.out j (by omega))
                    clear hvp Hno
                    go_wp2_with fail
                    refine wp_region_since (by kernel_rfl) (by kernel_rfl) ?_
                    repeat (go_big_quiet_step ((first | (go_at_call 31; exact Hvc.out _) | (go_at_call 32; exact Hpc.out _))))
                    refine wpQuiet_nil ?_
                    rintro _ ⟨z, rfl⟩
                    go_wp2_with fail
                    replace HN := Lib.hid (HN.out.to ⟨z, rfl⟩); replace HF := Lib.hid (HF.out.to ⟨z, rfl⟩)
                    obtain ⟨y9, h9⟩ := y8.trans z
                    rw [h9] at HN HF ⊢
                    go_roundw
                    case rel => exact ⟨k + 1, -1, y9, by omega, by go_num, rfl, HN.out, HF.out, .inl ⟨rfl, Hno2.out⟩⟩
                    case measure => simp [intOf] <;> omega
                  | true =>
                    rw [hvp] at Hvc
                    cases hcn : decide ((cnt R u e k : Int) < p.n) with
                    | false =>
                      have Hno2 := Lib.hid (show ∀ j, j < k + 1 → (vP (pAt lp j) e && decide ((cnt R u e (j : Int) : Int) < (pAt lp j).n)) = false from fun j hj => by
                        by_cases hjk : j = k
                        · subst hjk; rw [Hpe.out, hcn]; simp
                        · exact Hno.out j (by omega))
                      clear hvp Hno
                      go_wp2_with fail
                      refine wp_region_since (by kernel_rfl) (by kernel_rfl) ?_
                      repeat (go_big_quiet_step ((first | (go_at_call 31; exact Hvc.out _) | (go_at_call 32; exact Hpc.out _))))
                      refine wpQuiet_nil ?_
                      rintro _ ⟨z, rfl⟩
                      go_wp2_with fail
                      replace HN := Lib.hid (HN.out.to ⟨z, rfl⟩); replace HF := Lib.hid (HF.out.to ⟨z, rfl⟩)
                      obtain ⟨y9, h9⟩ := y8.trans z
                      rw [h9] at HN HF ⊢
                      go_roundw
                      case rel => exact ⟨k + 1, -1, y9, by omega, by go_num, rfl, HN.out, HF.out, .inl ⟨rfl, Hno2.out⟩⟩
                      case measure => simp [intOf] <;> omega
                    | true =>
                      have Htk := Lib.hid (show (k : Int) = firstP lp e (cnt R u e) from
                        (firstP_yes hkl (by rw [Hpe.out, hvp, hcn]; rfl) Hno.out).symm)
                      clear hvp Hno
                      go_wp2_with fail
                      refine wp_region_since (by kernel_rfl) (by kernel_rfl) ?_
                      repeat (go_big_quiet_step ((first | (go_at_call 31; exact Hvc.out _) | (go_at_call 32; exact Hpc.out _))))
                      refine wpQuiet_nil ?_
                      rintro _ ⟨z, rfl⟩
                      go_upto_region 20 with fail
                      replace HN := Lib.hid (HN.out.to ⟨z, rfl⟩); replace HF := Lib.hid (HF.out.to ⟨z, rfl⟩)
                      clear kc kf Hvc Hpc ra0 ra1 ra2 ra3 ra4 ra5 ra6 ra7 ra8 ra9 ra10 ra11 ra12 pa0 pa1 pa2 pa3 pa4 pa5
                      obtain ⟨y9, h9⟩ := y8.trans z
                      rw [h9] at HN HF ⊢
                      clear h9
                      have kc := HN.out.c i hi
                      have kf := HN.out.f i hi
                      obtain ⟨y10, h10⟩ := y9.set ⟨gu, i, none⟩ Hgu.out (.int .i64 (k : Int))
                      have HN10 := Lib.hid (HN.out.set (f' := upd u i (k : Int)) hi (k : Int) (by rw [upd_same]) (fun j _ hj => by rw [upd_ne _ _ _ hj, upd_ne _ _ _ hj]))
                      have HF10 := Lib.hid (show Flags _ gd R.length (updB b i) from HF.out.setOther ⟨gu, i, none⟩ Hne.out (.int .i64 (k : Int)))
                      rw [h10] at HN10 HF10
                      clear HN HF
                      go_wp2_with fail
                      go_roundw
                      case rel => exact ⟨k + 1, k, y10, by omega, by go_num, rfl, HN10.out, HF10.out, .inr ⟨by omega, Htk.out⟩⟩
                      case measure => simp [intOf] <;> omega
                · obtain rfl : k = lp.length := by omega
                  have HI2 := Lib.hid (HI.out.step Hid.out hi Hb.out.1 Hb.out.2 (v := -1) (by rw [He.out]; exact (firstP_no hno).symm))
                  clear hno HI
                  go_wp2_with fail
                  go_roundw
                  case rel => exact ⟨m + 1, upd u i (-1), updB b i, y8, by omega, by go_num, rfl, HN.out, HF.out, HI2.out⟩
                  case measure => simp [intOf] <;> omega
              · have HI2 := Lib.hid (HI.out.step Hid.out hi Hb.out.1 Hb.out.2 (v := v) (by rw [He.out]; exact hv))
                have hvb : decide (v < 0) = false := decide_eq_false (by omega)
                clear hv HI
                obtain ⟨q8, hq0⟩ := Since.refl y8.w
                rw [hq0]
                clear hq0
                by_cases hkl : k < lp.length
                · have hkl' : (k : Int) < (lp.length : Int) := by omega
                  go_wp2_with fail
                  replace HN := Lib.hid (HN.out.to ⟨q8, rfl⟩); replace HF := Lib.hid (HF.out.to ⟨q8, rfl⟩)
                  obtain ⟨y9, h9⟩ := y8.trans q8
                  rw [h9] at HN HF ⊢
                  go_roundw
                  case rel => exact ⟨m + 1, upd u i v, updB b i, y9, by omega, by go_num, rfl, HN.out, HF.out, HI2.out⟩
                  case measure => simp [intOf] <;> omega
                · obtain rfl : k = lp.length := by omega
                  go_wp2_with fail
                  replace HN := Lib.hid (HN.out.to ⟨q8, rfl⟩); replace HF := Lib.hid (HF.out.to ⟨q8, rfl⟩)
                  obtain ⟨y9, h9⟩ := y8.trans q8
                  rw [h9] at HN HF ⊢
                  go_roundw
                  case rel => exact ⟨m + 1, upd u i v, updB b i, y9, by omega, by go_num, rfl, HN.out, HF.out, HI2.out⟩
                  case measure => simp [intOf] <;> omega
          · obtain rfl : m = R.length := by omega
            have HD := Lib.hid (HI.out.done rfl)
            go_wp2_with fail
            go_ret2
            refine ⟨some ⟨gu, 0, none⟩, R.length, (List.range R.length).map u, y, ?_, rfl, ?_, UseOk.of Hz.out HD.out⟩
            · rw [Hz.out, List.length_map, List.length_range]; rfl
            · rw [IntRow, List.length_map, List.length_range]
              exact HN.out.row.congr fun i hi => by rw [at0_range u _ i hi]
end Go.Proofs.Ytbkfcdheckkjaaa
/- The reference of passes: what is left. -/
namespace Go.Proofs.Ytbkfcdheckkjaaa
open Go.RowKit

set_option maxRecDepth 100000 in
set_option maxHeartbeats 8000000 in
theorem rleft_calls (w : World) (x : Since w) (pa : Option Addr) (lp : List Pass) (pc : Nat) (a : Option Addr) (R : List Ride) (c : Nat) (i d : Int) (hp : PassRow w pa lp) (hpl : lp.length ≤ 9223372036854775807) (h : RideRow w a R) (hl : R.length ≤ 9223372036854775807) :
    Calls Try.prog 17 #[.slice pa lp.length pc, .slice a R.length c, .int .i64 i, .int .i64 d] x.w (LeftRes w lp R i d) := by
  have HPost := Lib.hid (show ∀ (us : List Int) (y : Since w) (v e : Int), UseOk lp R us → v = leftV lp R us i d → e = leftE lp R i d → LeftRes w lp R i d (.returned (.tuple #[.int .i64 v, .int .i64 e])) y.w from fun us y v e h1 h2 h3 => ⟨us, y, ret_tuple2 h2 h3, rfl, h1⟩)
  have Hu := Lib.hid (fun y : Since w => ruse_calls w y pa lp pc a R c hp hpl h hl)
  have HP := Lib.hid hp
  have HR := Lib.hid h
  clear hp h
  have Hv0 := Lib.hid (show leftE lp R i d ≠ 0 → ∀ us, 0 = leftV lp R us i d from fun h us => by unfold leftV; rw [if_pos h])
  by_cases hz : usesE lp R = 0
  case neg =>
    have hzb : (usesE lp R != 0) = true := by simpa using hz
    have He := Lib.hid (show leftE lp R i d = usesE lp R by unfold leftE; rw [if_pos hz])
    have Hne := Lib.hid hz
    clear hz
    go_enter Try.func17, Try.ntmps17
    go_wp2_with fail
    refine (Hu.out _).mono ?_
    rintro _ _ ⟨a2, cap, us, y1, rfl, rfl, hrow, hus⟩
    have HU := Lib.hid hus
    clear hrow hus
    generalize hq : usesE lp R = ue at *
    clear hq
    go_wp2_with fail
    go_ret2
    exact HPost.out us y1 _ _ HU.out (Hv0.out (by rw [He.out]; exact Hne.out) _) He.out.symm
  obtain ⟨hz1, hz2⟩ := usesE_zero hz
  have Hs0 := Lib.hid (rides_s0 hz2)
  have hR256 := (ridesE_zero hz2).1
  have hlp64 := (passE_zero hz1).1
  have Hgood := Lib.hid (passE_zero hz1).2.1
  have Hz := Lib.hid hz
  clear hz hz1 hz2
  have He' := Lib.hid (show leftE lp R i d = if i < 0 ∨ (lp.length : Int) ≤ i then 7 else if d < 0 ∨ 49709 < d then 1 else 0 by unfold leftE; rw [if_neg (by rw [Hz.out]; simp)])
  go_enter Try.func17, Try.ntmps17
  go_wp2_with fail
  refine (Hu.out _).mono ?_
  rintro _ _ ⟨a2, cap, us, y1, rfl, rfl, hrow, hus⟩
  rw [Hz.out]
  have HU := Lib.hid hus; have HRow := Lib.hid hrow
  have HL := Lib.hid (hus.ok Hz.out).1
  clear hus hrow Hu
  rcases (by omega : i < 0 ∨ (0 ≤ i ∧ (lp.length : Int) ≤ i) ∨ (0 ≤ i ∧ i < lp.length)) with hi | ⟨hi, hi'⟩ | ⟨hi, hi'⟩
  case inr.inr =>
    replace He' := Lib.hid (show leftE lp R i d = if d < 0 ∨ 49709 < d then 1 else 0 by rw [He'.out, if_neg (by omega)])
    obtain ⟨k, rfl⟩ : ∃ k : Nat, i = k := ⟨i.toNat, by omega⟩
    have hk : k < lp.length := by omega
    rcases (by omega : d < 0 ∨ (0 ≤ d ∧ 49709 < d) ∨ (0 ≤ d ∧ d ≤ 49709)) with hd | ⟨hd, hd'⟩ | ⟨hd, hd'⟩
    case inr.inr =>
      have He := Lib.hid (show leftE lp R k d = 0 by rw [He'.out, if_neg (by omega)])
      obtain ⟨p, hp⟩ : ∃ p, lp[k]? = some p := ⟨_, List.getElem?_eq_getElem hk⟩
      obtain ⟨b2, off2, rfl, h2'⟩ := Els.pass (Since.els HP.out y1) hp
      have pa0 := h2'.c0
      have pa1 := h2'.c1
      have pa2 := h2'.c2
      have pa3 := h2'.c3
      have pa4 := h2'.c4
      have pa5 := h2'.c5
      have Hpe := Lib.hid (pAt_eq hp)
      have hpg := (goodP_iff p).1 (Hgood.out p (List.mem_of_getElem? hp))
      obtain ⟨-, -, -, -, hn1, hn2, -⟩ := hpg
      have hk0 : (0 : Int) ≤ (k : Int) := by omega
      have hkl : (k : Int) < (lp.length : Int) := by omega
      have Hv := Lib.hid (show ∀ us, leftV lp R us k d = if vpd p d = false then 0 else p.n - (cntU R (at0 us) k d : Nat) from fun us => by
        unfold leftV; rw [if_neg (by rw [He.out]; simp), show (k : Int).toNat = k by omega, Hpe.out])
      clear h2' hp Hgood Hpe
      rcases (by omega : d < p.f ∨ (p.f ≤ d ∧ p.t ≤ d) ∨ (p.f ≤ d ∧ d < p.t)) with hv | ⟨hv, hv'⟩ | ⟨hv, hv'⟩
      case inr.inr =>
        have Hvp := Lib.hid (show vpd p d = true by unfold vpd; simp; omega)
        have hcl := cntTo_le R (at0 us) k d R.length
        have Hpc := Lib.hid (fun q : Since y1.w => rpaid_calls y1.w q a R c a2 us.length cap (at0 us) k d (HR.out.since y1) HRow.out (by rw [HL.out]; exact Nat.le_refl _) hR256 Hs0.out)
        have hcl2 : (cntU R (at0 us) k d : Int) ≤ 256 := by have := hcl; simp only [cntU]; omega
        have hcl0 : 0 ≤ (cntU R (at0 us) k d : Int) := by omega
        clear hcl
        generalize hgc : cntU R (at0 us) k d = cc at *
        have Hgc := Lib.hid hgc
        clear hgc
        obtain ⟨q1, hq0⟩ := Since.refl y1.w
        rw [hq0]
        clear hq0
        go_wp2_with fail
        refine wp_region_since (by kernel_rfl) (by kernel_rfl) ?_
        repeat (go_big_quiet_step ((go_at_call 32; exact Hpc.out _)))
        refine wpQuiet_nil ?_
        rintro _ ⟨z, rfl⟩
        go_wp2_with fail
        go_ret2
        obtain ⟨yy, hyy⟩ := y1.trans z
        rw [hyy]
        exact HPost.out us yy _ _ HU.out (by rw [Hv.out, if_neg (by rw [Hvp.out]; simp), Hgc.out]) He.out.symm
      all_goals
        have Hvp := Lib.hid (show vpd p d = false by unfold vpd; simp; omega)
        obtain ⟨q1, hq0⟩ := Since.refl y1.w
        rw [hq0]
        clear hq0
        go_wp2_with fail
        go_ret2
        obtain ⟨yy, hyy⟩ := y1.trans q1
        rw [hyy]
        exact HPost.out us yy _ _ HU.out (by rw [Hv.out, if_pos Hvp.out]) He.out.symm
    all_goals
      have He := Lib.hid (show leftE lp R k d = 1 by rw [He'.out, if_pos (by omega)])
      go_wp2_with fail
      go_ret2
      exact HPost.out us y1 _ _ HU.out (Hv0.out (by rw [He.out]; simp) _) He.out.symm
  all_goals
    have He := Lib.hid (show leftE lp R i d = 7 by rw [He'.out, if_pos (by omega)])
    go_wp2_with fail
    go_ret2
    exact HPost.out us y1 _ _ HU.out (Hv0.out (by rw [He.out]; simp) _) He.out.symm
end Go.Proofs.Ytbkfcdheckkjaaa
/- The laws of passes, first part: the chapter's passes and rides. -/
namespace Go.Proofs.Ytbkfcdheckkjaaa
open Go.RowKit

theorem els_new {α : Type} {enc : α → List Value} {k : Nat} (hk : ∀ x, (enc x).length = k) (w : World) (l : List α) (T : TypeId) : Els enc k (w.alloc (.cells (flat enc l).toArray T)) (some ⟨w.heap.size, 0, none⟩) l := by
  intro i x hx
  refine ⟨w.heap.size, 0, rfl, by simp, fun j v hv => ?_⟩
  have := cell_new_at w (flat enc l) T (i * k + j) v (flat_at hk l i x j v hx hv)
  rw [Addr.add_lit] at this
  rw [show 0 + i * k + j = 0 + (i * k + j) by omega]
  exact this
def passesL : List Pass := [⟨5, 1, 0, 3, 1, 0⟩, ⟨3, 1, 1, 10, 2, 0⟩]
theorem passes_fl : (flat Pass.cs passesL).toArray = #[.int .i64 5, .int .i64 1, .int .i64 0, .int .i64 3, .int .i64 1, .int .i64 0, .int .i64 3, .int .i64 1, .int .i64 1, .int .i64 10, .int .i64 2, .int .i64 0] := rfl
def PassRes (w : World) (o : Ending) (w' : World) : Prop := ∃ (a : Option Addr) (c : Nat) (y : Since w), o = .returned (.slice a 2 c) ∧ w' = y.w ∧ PassRow y.w a passesL
theorem passes_calls (w : World) (x : Since w) : Calls Try.prog 22 #[] x.w (PassRes w) := by
  have hE := Lib.hid (els_new Pass.len x.w passesL 49)
  rw [passes_fl] at hE
  go_enter Try.func22, Try.ntmps22
  go_wp2_with fail
  go_ret
  obtain ⟨y, hy⟩ := x.alloc (.cells #[.int .i64 5, .int .i64 1, .int .i64 0, .int .i64 3, .int .i64 1, .int .i64 0, .int .i64 3, .int .i64 1, .int .i64 1, .int .i64 10, .int .i64 2, .int .i64 0] 49)
  exact ⟨_, 2, y, rfl, hy, hy ▸ hE.out⟩
/-- a ride without the places of its lists -/
def Ride.bare (r : Ride) : Ride := { r with la := none, lc := 0, pa := none, pc := 0 }
def rideX (i : Nat) : Ride := ⟨i + 1, 1, 90000 + i, 90000 + i, 90100, 90100, false, none, [⟨0, 90000 + i, 90000 + i, 90100, 90100⟩], 0, none, [], 0, 0, 0, 2, 0⟩
def ridesL : List Ride := [rideX 0, rideX 1, rideX 2, rideX 3]
def zeroRide : Value := .agg #[.int .i64 0, .int .i64 0, .int .i64 0, .int .i64 0, .int .i64 0, .int .i64 0, .bool false, .slice none 0 0, .slice none 0 0, .int .i64 0, .int .i64 0, .int .i64 0, .int .i64 0]
theorem sRide : SliceOf Try.prog 27 44 zeroRide 13 136 := SliceOf.mk' Try.underlying27 (by kernel_rfl) rfl (by decide)
theorem sPass : SliceOf Try.prog 22 49 (.agg #[.int .i64 0, .int .i64 0, .int .i64 0, .int .i64 0, .int .i64 0, .int .i64 0]) 6 48 := SliceOf.mk' Try.underlying22 (by kernel_rfl) rfl (by decide)
theorem ride_one (r : Ride) : ∀ u ∈ r.cs, u.oneCell' = true := by
  intro u hu
  simp [Ride.cs] at hu
  rcases hu with h | h | h | h | h | h | h | h | h | h | h | h | h <;> subst h <;> rfl
theorem pass_one (r : Pass) : ∀ u ∈ r.cs, u.oneCell' = true := by
  intro u hu
  simp [Pass.cs] at hu
  rcases hu with h | h | h | h | h | h <;> subst h <;> rfl
def RideRes (w : World) (L : List Ride) (o : Ending) (w' : World) : Prop := ∃ (a : Option Addr) (c : Nat) (R : List Ride) (y : Since w), o = .returned (.slice a R.length c) ∧ w' = y.w ∧ RideRow y.w a R ∧ R.map Ride.bare = L ∧ R.length ≤ c
/-- the legs of a ride lie alone in a block -/
structure LegAt (w : World) (r : Ride) (T : TypeId) : Prop where
  l : ∃ g, r.la = some ⟨g, 0, none⟩ ∧ w.heap[g]? = some (.cells (flat Leg.cs r.legs).toArray T)
  p : r.pauses = []
  n : r.legs.length ≤ 9223372036854775807
theorem LegAt.at {w : World} {r : Ride} {T : TypeId} (h : LegAt w r T) : r.At w := by
  obtain ⟨g, hg, hh⟩ := h.l
  refine ⟨fun i x hx => ⟨g, 0, hg, (Array.getElem?_eq_some_iff.1 hh).1, fun j v hv => ?_⟩, by rw [h.p]; exact els_nil _ _, h.n, by rw [h.p]; simp⟩
  have := flat_at Leg.len r.legs i x j v hx hv
  simp only [World.cell?, hh, Nat.zero_add]
  simpa using this
theorem LegAt.keep {w w' : World} {r : Ride} {T e : TypeId} {base n : Nat} {v : Value} {xs : List Value} (h : LegAt w r T) (hg : w.grownBy w' v.ownBlock) (hown : w.ownsRow base e 13 v n xs) (hne : e ≠ T) : LegAt w' r T := by
  obtain ⟨g, h1, hh⟩ := h.l
  refine ⟨⟨g, h1, ?_⟩, h.p, h.n⟩
  rw [hg.block g (Array.getElem?_eq_some_iff.1 hh).1 ?_]; exact hh
  obtain ⟨_, ⟨rfl, _⟩ | ⟨g', cap, cur, rfl, _, hh', _⟩⟩ := hown
  · simp [Value.ownBlock]
  · intro he
    have he' : g = g' := by simpa [Value.ownBlock] using he
    subst he'
    rw [hh] at hh'
    simp only [Option.some.injEq, Obj.cells.injEq] at hh'
    exact hne hh'.2.1.symm
theorem LegAt.to {w W : World} {r : Ride} {T : TypeId} (h : LegAt w r T) (hW : ∃ z : Since w, W = z.w) : LegAt W r T := by
  obtain ⟨z, rfl⟩ := hW
  obtain ⟨g, h1, hh⟩ := h.l
  exact ⟨⟨g, h1, Since.heap hh z⟩, h.p, h.n⟩
def rideXa (k g : Nat) : Ride := ⟨k + 1, 1, 90000 + k, 90000 + k, 90100, 90100, false, some ⟨g, 0, none⟩, [⟨0, 90000 + k, 90000 + k, 90100, 90100⟩], 1, none, [], 0, 0, 0, 2, 0⟩
theorem ridesL_take (k : Nat) (h : k < 4) : ridesL.take (k + 1) = ridesL.take k ++ [rideX k] := by
  match k, h with
  | 0, _ => rfl
  | 1, _ => rfl
  | 2, _ => rfl
  | 3, _ => rfl
set_option maxRecDepth 100000 in
set_option maxHeartbeats 8000000 in
theorem rides_calls (w : World) (x : Since w) : Calls Try.prog 23 #[] x.w (RideRes w ridesL) := by
  go_enter Try.func23, Try.ntmps23
  go_wp2_with fail
  go_loopw [1, 2] (fun v i wr => ∃ (k : Nat) (R : List Ride) (y : Since w), k ≤ 4 ∧ i = .int .i64 k ∧ wr = y.w ∧ y.w.ownsRow w.heap.size 44 13 v k (flat Ride.cs R) ∧ R.map Ride.bare = ridesL.take k ∧ ∀ r ∈ R, LegAt y.w r 69) (fun _ i _ => 4 - (intOf i).toNat)
  case atStart => exact ⟨0, [], x, by omega, rfl, rfl, ⟨rfl, .inl ⟨rfl, rfl⟩⟩, rfl, fun r hr => by cases hr⟩
  case round =>
    obtain ⟨k, R, y, hk, rfl, rfl, hown, hR, hat⟩ := hrel
    have Hown := Lib.hid hown; have HR := Lib.hid hR; have Hat := Lib.hid hat
    clear hown hR hat
    by_cases hlt : k < 4
    · have hk0 : (0 : Int) ≤ (k : Int) := by omega
      have hkl : (k : Int) < 4 := by omega
      go_upto_region 6 with fail
      have hs0_0 : ((y.w.alloc (.cells #[.int .i64 (90000 + (k : Int)), .int .i64 (90000 + (k : Int))] 40)).alloc (.cells #[.int .i64 90100, .int .i64 90100] 40)).cell? ⟨y.w.heap.size, 0, none⟩ = some (.int .i64 (90000 + (k : Int))) := by simp [go_sem]
      have hs0_1 : ((y.w.alloc (.cells #[.int .i64 (90000 + (k : Int)), .int .i64 (90000 + (k : Int))] 40)).alloc (.cells #[.int .i64 90100, .int .i64 90100] 40)).cell? ⟨y.w.heap.size, 1, none⟩ = some (.int .i64 (90000 + (k : Int))) := by simp [go_sem]
      have hs1_0 : ((y.w.alloc (.cells #[.int .i64 (90000 + (k : Int)), .int .i64 (90000 + (k : Int))] 40)).alloc (.cells #[.int .i64 90100, .int .i64 90100] 40)).cell? ⟨y.w.heap.size + 1, 0, none⟩ = some (.int .i64 90100) := by simp [go_sem]
      have hs1_1 : ((y.w.alloc (.cells #[.int .i64 (90000 + (k : Int)), .int .i64 (90000 + (k : Int))] 40)).alloc (.cells #[.int .i64 90100, .int .i64 90100] 40)).cell? ⟨y.w.heap.size + 1, 1, none⟩ = some (.int .i64 90100) := by simp [go_sem]
      have hs0_f : ∀ o, ((y.w.alloc (.cells #[.int .i64 (90000 + (k : Int)), .int .i64 (90000 + (k : Int))] 40)).alloc (.cells #[.int .i64 90100, .int .i64 90100] 40)).frozen? ⟨y.w.heap.size, o, none⟩ = false := fun o => by simp [go_sem]
      have hs1_f : ∀ o, ((y.w.alloc (.cells #[.int .i64 (90000 + (k : Int)), .int .i64 (90000 + (k : Int))] 40)).alloc (.cells #[.int .i64 90100, .int .i64 90100] 40)).frozen? ⟨y.w.heap.size + 1, o, none⟩ = false := fun o => by simp [go_sem]
      have hlt0 : y.w.heap.size + 1 < ((y.w.alloc (.cells #[.int .i64 (90000 + (k : Int)), .int .i64 (90000 + (k : Int))] 40)).alloc (.cells #[.int .i64 90100, .int .i64 90100] 40)).heap.size := by simp
      have hst0 : ∃ zz : Since y.w, ((y.w.alloc (.cells #[.int .i64 (90000 + (k : Int)), .int .i64 (90000 + (k : Int))] 40)).alloc (.cells #[.int .i64 90100, .int .i64 90100] 40)) = zz.w := IsSince.alloc (IsSince.alloc (IsSince.self _) _) _
      have hsz0 := y.b.size
      obtain ⟨y2, e2⟩ := IsSince.alloc (IsSince.alloc (IsSince.of y) (.cells #[.int .i64 (90000 + (k : Int)), .int .i64 (90000 + (k : Int))] 40)) (.cells #[.int .i64 90100, .int .i64 90100] 40)
      rw [e2] at hs0_0 hs0_1 hs1_0 hs1_1 hs0_f hs1_f hlt0 hst0 ⊢
      (replace Hown := Lib.hid (own_to Hown.out hst0); replace Hat := Lib.hid (fun r hr => (Hat.out r hr).to hst0))
      clear e2 hst0
      generalize y.w.heap.size = gs at *
      have Hhs0_0 : ∀ q : Since y2.w, q.w.cell? ⟨gs, 0, none⟩ = some (.int .i64 (90000 + (k : Int))) := fun q => Since.cell hs0_0 (by omega) q
      have Hhs0_1 : ∀ q : Since y2.w, q.w.cell? ⟨gs, 1, none⟩ = some (.int .i64 (90000 + (k : Int))) := fun q => Since.cell hs0_1 (by omega) q
      have Hhs1_0 : ∀ q : Since y2.w, q.w.cell? ⟨gs + 1, 0, none⟩ = some (.int .i64 90100) := fun q => Since.cell hs1_0 (by omega) q
      have Hhs1_1 : ∀ q : Since y2.w, q.w.cell? ⟨gs + 1, 1, none⟩ = some (.int .i64 90100) := fun q => Since.cell hs1_1 (by omega) q
      have Hhs0_f : ∀ (q : Since y2.w) (o : Nat), q.w.frozen? ⟨gs, o, none⟩ = false := fun q o => Since.free (hs0_f o) (by omega) q
      have Hhs1_f : ∀ (q : Since y2.w) (o : Nat), q.w.frozen? ⟨gs + 1, o, none⟩ = false := fun q o => Since.free (hs1_f o) (by omega) q
      have Hhsg := Lib.hid (And.intro hsz0 hlt0)
      clear hlt0 hsz0
      have hst1 : IsSince y2.w ((y2.w.alloc (.cells #[.int .i64 0, .int .i64 (90000 + (k : Int)), .int .i64 (90000 + (k : Int)), .int .i64 90100, .int .i64 90100] 69))) := IsSince.alloc (IsSince.self _) _
      have Hst1 := Lib.hid hst1
      clear hst1
      go_wp2_with (at_builtin; (refine wpList_appendK (w0 := w) ?hw rfl _ _ 27 rfl w.heap.size (Nat.le_refl _) ?hb 44 zeroRide 136 sRide u1 k (flat Ride.cs R) rfl ?hown ⟨y2.w.heap.size + 1, 0, none⟩ 1 1 (rideXa k y2.w.heap.size).cs rfl rfl ?hc (ride_one _) ?h63 ?hbytes ?_; rotate_right 1; intro v2 q2 hown4 _ hg4))
      case hw => exact IsSince.alloc (IsSince.alloc (IsSince.of y2) _) _
      case hb => have := y2.b.size; simp; omega
      case hown => exact own_to Hown.out (IsSince.alloc (IsSince.alloc (IsSince.self _) _) _)
      case hc =>
        intro j v hv
        have := cell_new_at (y2.w.alloc (.cells #[.int .i64 0, .int .i64 (90000 + (k : Int)), .int .i64 (90000 + (k : Int)), .int .i64 90100, .int .i64 90100] 69)) (rideXa k y2.w.heap.size).cs 44 j v hv
        rw [show (y2.w.alloc (.cells #[.int .i64 0, .int .i64 (90000 + (k : Int)), .int .i64 (90000 + (k : Int)), .int .i64 90100, .int .i64 90100] 69)).heap.size = y2.w.heap.size + 1 by simp] at this
        exact this
      case h63 => unfold maxLen; omega
      case hbytes => omega
      have hown5 : q2.w.ownsRow w.heap.size 44 13 v2 (k + 1) (flat Ride.cs (R ++ [rideXa k y2.w.heap.size])) := by rw [flat_append, flat_one]; exact hown4
      have hbl : ((y2.w.alloc (.cells #[.int .i64 0, .int .i64 (90000 + (k : Int)), .int .i64 (90000 + (k : Int)), .int .i64 90100, .int .i64 90100] 69)).alloc (.cells (rideXa k y2.w.heap.size).cs.toArray 44)).heap[y2.w.heap.size]? = some (.cells #[.int .i64 0, .int .i64 (90000 + (k : Int)), .int .i64 (90000 + (k : Int)), .int .i64 90100, .int .i64 90100] 69) := by
        show ((y2.w.heap.push _).push _)[y2.w.heap.size]? = _
        rw [Array.getElem?_push, if_neg (by simp), Array.getElem?_push, if_pos rfl]
      have Hnew := Lib.hid (LegAt.keep (r := rideXa k y2.w.heap.size) (T := 69) ⟨⟨_, rfl, hbl⟩, rfl, show (1 : Nat) ≤ _ by decide⟩ hg4 (own_to Hown.out (IsSince.alloc (IsSince.alloc (IsSince.self _) _) _)) (by decide))
      have Hold := Lib.hid (fun r hr => LegAt.keep ((Hat.out r hr).to (IsSince.alloc (IsSince.alloc (IsSince.self _) _) _)) hg4 (own_to Hown.out (IsSince.alloc (IsSince.alloc (IsSince.self _) _) _)) (by decide))
      have Hown5 := Lib.hid hown5
      clear hown4 hg4 hown5 hbl
      go_wp2_with fail
      go_roundw
      case rel => exact ⟨k + 1, R ++ [rideXa k y2.w.heap.size], q2, by omega, by go_num, rfl, Hown5.out, by rw [List.map_append, HR.out, ridesL_take k hlt]; rfl, fun r hr => by
        rcases List.mem_append.1 hr with h | h
        · exact Hold.out r h
        · simp at h; subst h; exact Hnew.out⟩
      case measure => simp [intOf] <;> omega
    · obtain rfl : k = 4 := by omega
      obtain ⟨hlen, a3, c3, rfl, hc3, he3, _, _⟩ := own_els Ride.len (by decide) Hown.out
      have H3 := Lib.hid (And.intro hc3 he3)
      have Hl := Lib.hid hlen
      clear hc3 he3 hlen
      go_wp2_with fail
      go_ret
      exact ⟨a3, c3, R, y, rfl, rfl, ⟨H3.out.2, fun r hr => (Hat.out r hr).at⟩, HR.out, H3.out.1⟩
end Go.Proofs.Ytbkfcdheckkjaaa
/- The laws of passes, second part: turned lists, the rides of a rider, what covers, what is counted. -/
namespace Go.Proofs.Ytbkfcdheckkjaaa
open Go.RowKit

def ListRes (w : World) (L : List Ride) (o : Ending) (w' : World) : Prop := ∃ (a : Option Addr) (c : Nat) (y : Since w), o = .returned (.slice a L.length c) ∧ w' = y.w ∧ RideRow y.w a L ∧ L.length ≤ c
set_option maxRecDepth 100000 in
set_option maxHeartbeats 8000000 in
theorem turned_calls (w : World) (x : Since w) (a : Option Addr) (R : List Ride) (c : Nat) (h : RideRow w a R) (hl : R.length ≤ 100000) :
    Calls Try.prog 24 #[.slice a R.length c] x.w (ListRes w R.reverse) := by
  have HR := Lib.hid h
  clear h
  go_enter Try.func24, Try.ntmps24
  go_wp2_with fail
  go_loopw [3, 4] (fun v i wr => ∃ (m : Nat) (z : Int) (y : Since w), m ≤ R.length ∧ z = (R.length : Int) - 1 - m ∧ i = .int .i64 z ∧ wr = y.w ∧ y.w.ownsRow w.heap.size 44 13 v m (flat Ride.cs (R.reverse.take m))) (fun _ i _ => (intOf i + 1).toNat)
  case atStart => exact ⟨0, _, _, by omega, by omega, rfl, rfl, by rw [List.take_zero]; exact ⟨rfl, .inl ⟨rfl, rfl⟩⟩⟩
  case round =>
    obtain ⟨m, z, y, hm, hz, rfl, rfl, hown⟩ := hrel
    have Hown := Lib.hid hown
    clear hown
    by_cases hlt : m < R.length
    · obtain ⟨j, rfl⟩ : ∃ j : Nat, z = j := ⟨z.toNat, by omega⟩
      have hj0 : (0 : Int) ≤ (j : Int) := by omega
      have hjl : (j : Int) < (R.length : Int) := by omega
      obtain ⟨e, he⟩ : ∃ e, R[j]? = some e := ⟨_, List.getElem?_eq_getElem (by omega)⟩
      have Htk := Lib.hid (show flat Ride.cs (R.reverse.take (m + 1)) = flat Ride.cs (R.reverse.take m) ++ e.cs by
        have : R.reverse[m]? = some e := by rw [List.getElem?_reverse hlt, show R.length - 1 - m = j by omega, he]
        rw [List.take_add_one, this, flat_append]
        show _ ++ flat Ride.cs [e] = _
        rw [flat_one])
      have Hz := Lib.hid (show (j : Int) - 1 = (R.length : Int) - 1 - (m + 1 : Nat) by omega)
      obtain ⟨b1, off1, rfl, h1'⟩ := Els.ride HR.out.c he
      have ra0 := h1'.c0
      have ra1 := h1'.c1
      have ra2 := h1'.c2
      have ra3 := h1'.c3
      have ra4 := h1'.c4
      have ra5 := h1'.c5
      have ra6 := h1'.c6
      have ra7 := h1'.c7
      have ra8 := h1'.c8
      have ra9 := h1'.c9
      have ra10 := h1'.c10
      have ra11 := h1'.c11
      have ra12 := h1'.c12
      clear h1' he hz
      go_wp2_with (at_builtin; (refine wpList_appendK (w0 := w) ?hw rfl _ _ 27 rfl w.heap.size (Nat.le_refl _) ?hb 44 zeroRide 136 sRide u3 m (flat Ride.cs (R.reverse.take m)) rfl ?hown ⟨y.w.heap.size, 0, none⟩ 1 1 e.cs rfl rfl ?hc (ride_one _) ?h63 ?hbytes ?_; rotate_right 1; intro v2 q2 hown4 _ hg4))
      case hw => exact IsSince.alloc (IsSince.of y) _
      case hb => have := y.b.size; simp; omega
      case hown => exact own_to Hown.out (IsSince.alloc (IsSince.self _) _)
      case hc => exact cell_new_at y.w e.cs _
      case h63 => unfold maxLen; omega
      case hbytes => omega
      rw [← Htk.out] at hown4
      have Hown4 := Lib.hid hown4
      clear hown4 hg4
      go_wp2_with fail
      go_roundw
      case rel => exact ⟨m + 1, _, q2, by omega, Hz.out, rfl, rfl, Hown4.out⟩
      case measure => simp [intOf] <;> omega
    · obtain rfl : m = R.length := by omega
      have hzn : z < 0 := by omega
      obtain ⟨hlen, a3, c3, rfl, hc3, he3, _, _⟩ := own_els Ride.len (by decide) Hown.out
      rw [List.take_of_length_le (by simp)] at he3 hc3
      have H3 := Lib.hid (And.intro hc3 he3)
      have Hl := Lib.hid (show (R.reverse.take R.length).length = R.reverse.length by rw [List.take_of_length_le (by simp)])
      clear hc3 he3 hlen hz
      go_wp2_with fail
      go_ret
      exact ⟨a3, c3, y, by rw [Hl.out]; rfl, rfl, ⟨H3.out.2, fun r hr => (HR.out.r r (by simpa using hr)).since y⟩, H3.out.1⟩
set_option maxRecDepth 100000 in
set_option maxHeartbeats 8000000 in
theorem of_calls (w : World) (x : Since w) (a : Option Addr) (R : List Ride) (c : Nat) (rd : Int) (h : RideRow w a R) (hl : R.length ≤ 100000) :
    Calls Try.prog 21 #[.slice a R.length c, .int .i64 rd] x.w (ListRes w (R.filter fun r => decide (r.rd = rd))) := by
  have HR := Lib.hid h
  clear h
  go_enter Try.func21, Try.ntmps21
  go_wp2_with fail
  go_loopw [5, 6] (fun v i wr => ∃ (k m : Nat) (y : Since w), k ≤ R.length ∧ i = .int .i64 k ∧ wr = y.w ∧ y.w.ownsRow w.heap.size 44 13 v m (flat Ride.cs ((R.take k).filter fun r => decide (r.rd = rd))) ∧ m ≤ k) (fun _ i _ => R.length - (intOf i).toNat)
  case atStart => exact ⟨0, 0, _, by omega, rfl, rfl, by rw [List.take_zero]; exact ⟨rfl, .inl ⟨rfl, rfl⟩⟩, by omega⟩
  case round =>
    obtain ⟨k, m, y, hk, rfl, rfl, hown, hmk⟩ := hrel
    have Hown := Lib.hid hown
    clear hown
    by_cases hlt : k < R.length
    · have hk0 : (0 : Int) ≤ (k : Int) := by omega
      have hkl : (k : Int) < (R.length : Int) := by omega
      obtain ⟨e, he⟩ : ∃ e, R[k]? = some e := ⟨_, List.getElem?_eq_getElem (by omega)⟩
      have Htk := Lib.hid (show (R.take (k + 1)).filter (fun r => decide (r.rd = rd)) = (R.take k).filter (fun r => decide (r.rd = rd)) ++ [e].filter (fun r => decide (r.rd = rd)) by
        rw [List.take_add_one, he, List.filter_append]; rfl)
      obtain ⟨b1, off1, rfl, h1'⟩ := Els.ride HR.out.c he
      have ra0 := h1'.c0
      have ra1 := h1'.c1
      have ra2 := h1'.c2
      have ra3 := h1'.c3
      have ra4 := h1'.c4
      have ra5 := h1'.c5
      have ra6 := h1'.c6
      have ra7 := h1'.c7
      have ra8 := h1'.c8
      have ra9 := h1'.c9
      have ra10 := h1'.c10
      have ra11 := h1'.c11
      have ra12 := h1'.c12
      clear h1' he
      by_cases hr : e.rd = rd
      · have hrb : (e.rd == rd) = true := by simpa using hr
        have Hf := Lib.hid (show flat Ride.cs ((R.take (k + 1)).filter fun r => decide (r.rd = rd)) = flat Ride.cs ((R.take k).filter fun r => decide (r.rd = rd)) ++ e.cs by
          rw [Htk.out, flat_append, List.filter_cons, if_pos (by simpa using hr), List.filter_nil, flat_one])
        clear hr Htk
        go_wp2_with (at_builtin; (refine wpList_appendK (w0 := w) ?hw rfl _ _ 27 rfl w.heap.size (Nat.le_refl _) ?hb 44 zeroRide 136 sRide u5 m (flat Ride.cs ((R.take k).filter fun r => decide (r.rd = rd))) rfl ?hown ⟨y.w.heap.size, 0, none⟩ 1 1 e.cs rfl rfl ?hc (ride_one _) ?h63 ?hbytes ?_; rotate_right 1; intro v2 q2 hown4 _ hg4))
        case hw => exact IsSince.alloc (IsSince.of y) _
        case hb => have := y.b.size; simp; omega
        case hown => exact own_to Hown.out (IsSince.alloc (IsSince.self _) _)
        case hc => exact cell_new_at y.w e.cs _
        case h63 => unfold maxLen; omega
        case hbytes => omega
        rw [← Hf.out] at hown4
        have Hown4 := Lib.hid hown4
        clear hown4 hg4
        go_wp2_with fail
        go_roundw
        case rel => exact ⟨k + 1, m + 1, q2, by omega, by go_num, rfl, Hown4.out, by omega⟩
        case measure => simp [intOf] <;> omega
      · have hrb : (e.rd == rd) = false := by simpa using hr
        have Hf := Lib.hid (show (R.take (k + 1)).filter (fun r => decide (r.rd = rd)) = (R.take k).filter fun r => decide (r.rd = rd) by
          rw [Htk.out, List.filter_cons, if_neg (by simpa using hr), List.filter_nil, List.append_nil])
        clear hr Htk
        go_wp2_with fail
        go_roundw
        case rel => exact ⟨k + 1, m, y, by omega, by go_num, rfl, by rw [Hf.out]; exact Hown.out, by omega⟩
        case measure => simp [intOf] <;> omega
    · obtain rfl : k = R.length := by omega
      obtain ⟨hlen, a3, c3, rfl, hc3, he3, _, _⟩ := own_els Ride.len (by decide) Hown.out
      rw [List.take_length] at he3 hc3
      have H3 := Lib.hid (And.intro hc3 he3)
      have Hl := Lib.hid (show ((R.take R.length).filter fun r => decide (r.rd = rd)).length = (R.filter fun r => decide (r.rd = rd)).length by rw [List.take_length])
      clear hc3 he3 hlen
      go_wp2_with fail
      go_ret
      exact ⟨a3, c3, y, by rw [Hl.out]; rfl, rfl, ⟨H3.out.2, fun r hr => (HR.out.r r ((List.mem_filter.1 hr).1)).since y⟩, H3.out.1⟩
set_option maxRecDepth 100000 in
set_option maxHeartbeats 4000000 in
theorem covers_calls (w : World) (x : Since w) (p : Pass) (r : Ride) (h0 : 0 ≤ r.s0) (h1 : r.s0 ≤ 4294943999) :
    Calls Try.prog 19 #[.agg #[.int .i64 p.id, .int .i64 p.rd, .int .i64 p.f, .int .i64 p.t, .int .i64 p.n, .int .i64 p.s], .agg #[.int .i64 r.id, .int .i64 r.rd, .int .i64 r.s0, .int .i64 r.s1, .int .i64 r.e0, .int .i64 r.e1, .bool r.op, .slice r.la r.legs.length r.lc, .slice r.pa r.pauses.length r.pc, .int .i64 r.fw, .int .i64 r.fp, .int .i64 r.wh, .int .i64 r.pl]] x.w fun o w' => o = .returned (.bool (vP p r)) ∧ ∃ y : Since w, w' = y.w := by
  have HG := Lib.hid (show vP p r = (decide (p.rd = r.rd) && (decide (p.f ≤ r.s0 / 86400) && decide (r.s0 / 86400 < p.t))) from rfl)
  go_enter Try.func19, Try.ntmps19
  go_upto_region 1 with fail
  have hb0_0 : ∀ y : Since ((x.w.alloc (.cells #[.int .i64 p.id, .int .i64 p.rd, .int .i64 p.f, .int .i64 p.t, .int .i64 p.n, .int .i64 p.s] 49)).alloc (.cells #[.int .i64 r.id, .int .i64 r.rd, .int .i64 r.s0, .int .i64 r.s1, .int .i64 r.e0, .int .i64 r.e1, .bool r.op, .slice r.la r.legs.length r.lc, .slice r.pa r.pauses.length r.pc, .int .i64 r.fw, .int .i64 r.fp, .int .i64 r.wh, .int .i64 r.pl] 44)), y.w.cell? ⟨x.w.heap.size, 0, none⟩ = some (.int .i64 p.id) := fun y => Since.cell (by simp [go_sem]) (by first | (simp; done) | (simp; omega)) y
  have hb0_1 : ∀ y : Since ((x.w.alloc (.cells #[.int .i64 p.id, .int .i64 p.rd, .int .i64 p.f, .int .i64 p.t, .int .i64 p.n, .int .i64 p.s] 49)).alloc (.cells #[.int .i64 r.id, .int .i64 r.rd, .int .i64 r.s0, .int .i64 r.s1, .int .i64 r.e0, .int .i64 r.e1, .bool r.op, .slice r.la r.legs.length r.lc, .slice r.pa r.pauses.length r.pc, .int .i64 r.fw, .int .i64 r.fp, .int .i64 r.wh, .int .i64 r.pl] 44)), y.w.cell? ⟨x.w.heap.size, 1, none⟩ = some (.int .i64 p.rd) := fun y => Since.cell (by simp [go_sem]) (by first | (simp; done) | (simp; omega)) y
  have hb0_2 : ∀ y : Since ((x.w.alloc (.cells #[.int .i64 p.id, .int .i64 p.rd, .int .i64 p.f, .int .i64 p.t, .int .i64 p.n, .int .i64 p.s] 49)).alloc (.cells #[.int .i64 r.id, .int .i64 r.rd, .int .i64 r.s0, .int .i64 r.s1, .int .i64 r.e0, .int .i64 r.e1, .bool r.op, .slice r.la r.legs.length r.lc, .slice r.pa r.pauses.length r.pc, .int .i64 r.fw, .int .i64 r.fp, .int .i64 r.wh, .int .i64 r.pl] 44)), y.w.cell? ⟨x.w.heap.size, 2, none⟩ = some (.int .i64 p.f) := fun y => Since.cell (by simp [go_sem]) (by first | (simp; done) | (simp; omega)) y
  have hb0_3 : ∀ y : Since ((x.w.alloc (.cells #[.int .i64 p.id, .int .i64 p.rd, .int .i64 p.f, .int .i64 p.t, .int .i64 p.n, .int .i64 p.s] 49)).alloc (.cells #[.int .i64 r.id, .int .i64 r.rd, .int .i64 r.s0, .int .i64 r.s1, .int .i64 r.e0, .int .i64 r.e1, .bool r.op, .slice r.la r.legs.length r.lc, .slice r.pa r.pauses.length r.pc, .int .i64 r.fw, .int .i64 r.fp, .int .i64 r.wh, .int .i64 r.pl] 44)), y.w.cell? ⟨x.w.heap.size, 3, none⟩ = some (.int .i64 p.t) := fun y => Since.cell (by simp [go_sem]) (by first | (simp; done) | (simp; omega)) y
  have hb0_4 : ∀ y : Since ((x.w.alloc (.cells #[.int .i64 p.id, .int .i64 p.rd, .int .i64 p.f, .int .i64 p.t, .int .i64 p.n, .int .i64 p.s] 49)).alloc (.cells #[.int .i64 r.id, .int .i64 r.rd, .int .i64 r.s0, .int .i64 r.s1, .int .i64 r.e0, .int .i64 r.e1, .bool r.op, .slice r.la r.legs.length r.lc, .slice r.pa r.pauses.length r.pc, .int .i64 r.fw, .int .i64 r.fp, .int .i64 r.wh, .int .i64 r.pl] 44)), y.w.cell? ⟨x.w.heap.size, 4, none⟩ = some (.int .i64 p.n) := fun y => Since.cell (by simp [go_sem]) (by first | (simp; done) | (simp; omega)) y
  have hb0_5 : ∀ y : Since ((x.w.alloc (.cells #[.int .i64 p.id, .int .i64 p.rd, .int .i64 p.f, .int .i64 p.t, .int .i64 p.n, .int .i64 p.s] 49)).alloc (.cells #[.int .i64 r.id, .int .i64 r.rd, .int .i64 r.s0, .int .i64 r.s1, .int .i64 r.e0, .int .i64 r.e1, .bool r.op, .slice r.la r.legs.length r.lc, .slice r.pa r.pauses.length r.pc, .int .i64 r.fw, .int .i64 r.fp, .int .i64 r.wh, .int .i64 r.pl] 44)), y.w.cell? ⟨x.w.heap.size, 5, none⟩ = some (.int .i64 p.s) := fun y => Since.cell (by simp [go_sem]) (by first | (simp; done) | (simp; omega)) y
  have hf0 : ∀ (y : Since ((x.w.alloc (.cells #[.int .i64 p.id, .int .i64 p.rd, .int .i64 p.f, .int .i64 p.t, .int .i64 p.n, .int .i64 p.s] 49)).alloc (.cells #[.int .i64 r.id, .int .i64 r.rd, .int .i64 r.s0, .int .i64 r.s1, .int .i64 r.e0, .int .i64 r.e1, .bool r.op, .slice r.la r.legs.length r.lc, .slice r.pa r.pauses.length r.pc, .int .i64 r.fw, .int .i64 r.fp, .int .i64 r.wh, .int .i64 r.pl] 44))) (o : Nat), y.w.frozen? ⟨x.w.heap.size, o, none⟩ = false := fun y o => Since.free (by simp [go_sem]) (by first | (simp; done) | (simp; omega)) y
  have hb1_0 : ∀ y : Since ((x.w.alloc (.cells #[.int .i64 p.id, .int .i64 p.rd, .int .i64 p.f, .int .i64 p.t, .int .i64 p.n, .int .i64 p.s] 49)).alloc (.cells #[.int .i64 r.id, .int .i64 r.rd, .int .i64 r.s0, .int .i64 r.s1, .int .i64 r.e0, .int .i64 r.e1, .bool r.op, .slice r.la r.legs.length r.lc, .slice r.pa r.pauses.length r.pc, .int .i64 r.fw, .int .i64 r.fp, .int .i64 r.wh, .int .i64 r.pl] 44)), y.w.cell? ⟨x.w.heap.size + 1, 0, none⟩ = some (.int .i64 r.id) := fun y => Since.cell (by simp [go_sem]) (by first | (simp; done) | (simp; omega)) y
  have hb1_1 : ∀ y : Since ((x.w.alloc (.cells #[.int .i64 p.id, .int .i64 p.rd, .int .i64 p.f, .int .i64 p.t, .int .i64 p.n, .int .i64 p.s] 49)).alloc (.cells #[.int .i64 r.id, .int .i64 r.rd, .int .i64 r.s0, .int .i64 r.s1, .int .i64 r.e0, .int .i64 r.e1, .bool r.op, .slice r.la r.legs.length r.lc, .slice r.pa r.pauses.length r.pc, .int .i64 r.fw, .int .i64 r.fp, .int .i64 r.wh, .int .i64 r.pl] 44)), y.w.cell? ⟨x.w.heap.size + 1, 1, none⟩ = some (.int .i64 r.rd) := fun y => Since.cell (by simp [go_sem]) (by first | (simp; done) | (simp; omega)) y
  have hb1_2 : ∀ y : Since ((x.w.alloc (.cells #[.int .i64 p.id, .int .i64 p.rd, .int .i64 p.f, .int .i64 p.t, .int .i64 p.n, .int .i64 p.s] 49)).alloc (.cells #[.int .i64 r.id, .int .i64 r.rd, .int .i64 r.s0, .int .i64 r.s1, .int .i64 r.e0, .int .i64 r.e1, .bool r.op, .slice r.la r.legs.length r.lc, .slice r.pa r.pauses.length r.pc, .int .i64 r.fw, .int .i64 r.fp, .int .i64 r.wh, .int .i64 r.pl] 44)), y.w.cell? ⟨x.w.heap.size + 1, 2, none⟩ = some (.int .i64 r.s0) := fun y => Since.cell (by simp [go_sem]) (by first | (simp; done) | (simp; omega)) y
  have hb1_3 : ∀ y : Since ((x.w.alloc (.cells #[.int .i64 p.id, .int .i64 p.rd, .int .i64 p.f, .int .i64 p.t, .int .i64 p.n, .int .i64 p.s] 49)).alloc (.cells #[.int .i64 r.id, .int .i64 r.rd, .int .i64 r.s0, .int .i64 r.s1, .int .i64 r.e0, .int .i64 r.e1, .bool r.op, .slice r.la r.legs.length r.lc, .slice r.pa r.pauses.length r.pc, .int .i64 r.fw, .int .i64 r.fp, .int .i64 r.wh, .int .i64 r.pl] 44)), y.w.cell? ⟨x.w.heap.size + 1, 3, none⟩ = some (.int .i64 r.s1) := fun y => Since.cell (by simp [go_sem]) (by first | (simp; done) | (simp; omega)) y
  have hb1_4 : ∀ y : Since ((x.w.alloc (.cells #[.int .i64 p.id, .int .i64 p.rd, .int .i64 p.f, .int .i64 p.t, .int .i64 p.n, .int .i64 p.s] 49)).alloc (.cells #[.int .i64 r.id, .int .i64 r.rd, .int .i64 r.s0, .int .i64 r.s1, .int .i64 r.e0, .int .i64 r.e1, .bool r.op, .slice r.la r.legs.length r.lc, .slice r.pa r.pauses.length r.pc, .int .i64 r.fw, .int .i64 r.fp, .int .i64 r.wh, .int .i64 r.pl] 44)), y.w.cell? ⟨x.w.heap.size + 1, 4, none⟩ = some (.int .i64 r.e0) := fun y => Since.cell (by simp [go_sem]) (by first | (simp; done) | (simp; omega)) y
  have hb1_5 : ∀ y : Since ((x.w.alloc (.cells #[.int .i64 p.id, .int .i64 p.rd, .int .i64 p.f, .int .i64 p.t, .int .i64 p.n, .int .i64 p.s] 49)).alloc (.cells #[.int .i64 r.id, .int .i64 r.rd, .int .i64 r.s0, .int .i64 r.s1, .int .i64 r.e0, .int .i64 r.e1, .bool r.op, .slice r.la r.legs.length r.lc, .slice r.pa r.pauses.length r.pc, .int .i64 r.fw, .int .i64 r.fp, .int .i64 r.wh, .int .i64 r.pl] 44)), y.w.cell? ⟨x.w.heap.size + 1, 5, none⟩ = some (.int .i64 r.e1) := fun y => Since.cell (by simp [go_sem]) (by first | (simp; done) | (simp; omega)) y
  have hb1_6 : ∀ y : Since ((x.w.alloc (.cells #[.int .i64 p.id, .int .i64 p.rd, .int .i64 p.f, .int .i64 p.t, .int .i64 p.n, .int .i64 p.s] 49)).alloc (.cells #[.int .i64 r.id, .int .i64 r.rd, .int .i64 r.s0, .int .i64 r.s1, .int .i64 r.e0, .int .i64 r.e1, .bool r.op, .slice r.la r.legs.length r.lc, .slice r.pa r.pauses.length r.pc, .int .i64 r.fw, .int .i64 r.fp, .int .i64 r.wh, .int .i64 r.pl] 44)), y.w.cell? ⟨x.w.heap.size + 1, 6, none⟩ = some (.bool r.op) := fun y => Since.cell (by simp [go_sem]) (by first | (simp; done) | (simp; omega)) y
  have hb1_7 : ∀ y : Since ((x.w.alloc (.cells #[.int .i64 p.id, .int .i64 p.rd, .int .i64 p.f, .int .i64 p.t, .int .i64 p.n, .int .i64 p.s] 49)).alloc (.cells #[.int .i64 r.id, .int .i64 r.rd, .int .i64 r.s0, .int .i64 r.s1, .int .i64 r.e0, .int .i64 r.e1, .bool r.op, .slice r.la r.legs.length r.lc, .slice r.pa r.pauses.length r.pc, .int .i64 r.fw, .int .i64 r.fp, .int .i64 r.wh, .int .i64 r.pl] 44)), y.w.cell? ⟨x.w.heap.size + 1, 7, none⟩ = some (.slice r.la r.legs.length r.lc) := fun y => Since.cell (by simp [go_sem]) (by first | (simp; done) | (simp; omega)) y
  have hb1_8 : ∀ y : Since ((x.w.alloc (.cells #[.int .i64 p.id, .int .i64 p.rd, .int .i64 p.f, .int .i64 p.t, .int .i64 p.n, .int .i64 p.s] 49)).alloc (.cells #[.int .i64 r.id, .int .i64 r.rd, .int .i64 r.s0, .int .i64 r.s1, .int .i64 r.e0, .int .i64 r.e1, .bool r.op, .slice r.la r.legs.length r.lc, .slice r.pa r.pauses.length r.pc, .int .i64 r.fw, .int .i64 r.fp, .int .i64 r.wh, .int .i64 r.pl] 44)), y.w.cell? ⟨x.w.heap.size + 1, 8, none⟩ = some (.slice r.pa r.pauses.length r.pc) := fun y => Since.cell (by simp [go_sem]) (by first | (simp; done) | (simp; omega)) y
  have hb1_9 : ∀ y : Since ((x.w.alloc (.cells #[.int .i64 p.id, .int .i64 p.rd, .int .i64 p.f, .int .i64 p.t, .int .i64 p.n, .int .i64 p.s] 49)).alloc (.cells #[.int .i64 r.id, .int .i64 r.rd, .int .i64 r.s0, .int .i64 r.s1, .int .i64 r.e0, .int .i64 r.e1, .bool r.op, .slice r.la r.legs.length r.lc, .slice r.pa r.pauses.length r.pc, .int .i64 r.fw, .int .i64 r.fp, .int .i64 r.wh, .int .i64 r.pl] 44)), y.w.cell? ⟨x.w.heap.size + 1, 9, none⟩ = some (.int .i64 r.fw) := fun y => Since.cell (by simp [go_sem]) (by first | (simp; done) | (simp; omega)) y
  have hb1_10 : ∀ y : Since ((x.w.alloc (.cells #[.int .i64 p.id, .int .i64 p.rd, .int .i64 p.f, .int .i64 p.t, .int .i64 p.n, .int .i64 p.s] 49)).alloc (.cells #[.int .i64 r.id, .int .i64 r.rd, .int .i64 r.s0, .int .i64 r.s1, .int .i64 r.e0, .int .i64 r.e1, .bool r.op, .slice r.la r.legs.length r.lc, .slice r.pa r.pauses.length r.pc, .int .i64 r.fw, .int .i64 r.fp, .int .i64 r.wh, .int .i64 r.pl] 44)), y.w.cell? ⟨x.w.heap.size + 1, 10, none⟩ = some (.int .i64 r.fp) := fun y => Since.cell (by simp [go_sem]) (by first | (simp; done) | (simp; omega)) y
  have hb1_11 : ∀ y : Since ((x.w.alloc (.cells #[.int .i64 p.id, .int .i64 p.rd, .int .i64 p.f, .int .i64 p.t, .int .i64 p.n, .int .i64 p.s] 49)).alloc (.cells #[.int .i64 r.id, .int .i64 r.rd, .int .i64 r.s0, .int .i64 r.s1, .int .i64 r.e0, .int .i64 r.e1, .bool r.op, .slice r.la r.legs.length r.lc, .slice r.pa r.pauses.length r.pc, .int .i64 r.fw, .int .i64 r.fp, .int .i64 r.wh, .int .i64 r.pl] 44)), y.w.cell? ⟨x.w.heap.size + 1, 11, none⟩ = some (.int .i64 r.wh) := fun y => Since.cell (by simp [go_sem]) (by first | (simp; done) | (simp; omega)) y
  have hb1_12 : ∀ y : Since ((x.w.alloc (.cells #[.int .i64 p.id, .int .i64 p.rd, .int .i64 p.f, .int .i64 p.t, .int .i64 p.n, .int .i64 p.s] 49)).alloc (.cells #[.int .i64 r.id, .int .i64 r.rd, .int .i64 r.s0, .int .i64 r.s1, .int .i64 r.e0, .int .i64 r.e1, .bool r.op, .slice r.la r.legs.length r.lc, .slice r.pa r.pauses.length r.pc, .int .i64 r.fw, .int .i64 r.fp, .int .i64 r.wh, .int .i64 r.pl] 44)), y.w.cell? ⟨x.w.heap.size + 1, 12, none⟩ = some (.int .i64 r.pl) := fun y => Since.cell (by simp [go_sem]) (by first | (simp; done) | (simp; omega)) y
  have hf1 : ∀ (y : Since ((x.w.alloc (.cells #[.int .i64 p.id, .int .i64 p.rd, .int .i64 p.f, .int .i64 p.t, .int .i64 p.n, .int .i64 p.s] 49)).alloc (.cells #[.int .i64 r.id, .int .i64 r.rd, .int .i64 r.s0, .int .i64 r.s1, .int .i64 r.e0, .int .i64 r.e1, .bool r.op, .slice r.la r.legs.length r.lc, .slice r.pa r.pauses.length r.pc, .int .i64 r.fw, .int .i64 r.fp, .int .i64 r.wh, .int .i64 r.pl] 44))) (o : Nat), y.w.frozen? ⟨x.w.heap.size + 1, o, none⟩ = false := fun y o => Since.free (by simp [go_sem]) (by first | (simp; done) | (simp; omega)) y
  have hWup : ∃ z : Since w, ((x.w.alloc (.cells #[.int .i64 p.id, .int .i64 p.rd, .int .i64 p.f, .int .i64 p.t, .int .i64 p.n, .int .i64 p.s] 49)).alloc (.cells #[.int .i64 r.id, .int .i64 r.rd, .int .i64 r.s0, .int .i64 r.s1, .int .i64 r.e0, .int .i64 r.e1, .bool r.op, .slice r.la r.legs.length r.lc, .slice r.pa r.pauses.length r.pc, .int .i64 r.fw, .int .i64 r.fp, .int .i64 r.wh, .int .i64 r.pl] 44)) = z.w := Since.allocs x [.cells #[.int .i64 p.id, .int .i64 p.rd, .int .i64 p.f, .int .i64 p.t, .int .i64 p.n, .int .i64 p.s] 49, .cells #[.int .i64 r.id, .int .i64 r.rd, .int .i64 r.s0, .int .i64 r.s1, .int .i64 r.e0, .int .i64 r.e1, .bool r.op, .slice r.la r.legs.length r.lc, .slice r.pa r.pauses.length r.pc, .int .i64 r.fw, .int .i64 r.fp, .int .i64 r.wh, .int .i64 r.pl] 44]
  obtain ⟨y0, hy0⟩ := Since.refl ((x.w.alloc (.cells #[.int .i64 p.id, .int .i64 p.rd, .int .i64 p.f, .int .i64 p.t, .int .i64 p.n, .int .i64 p.s] 49)).alloc (.cells #[.int .i64 r.id, .int .i64 r.rd, .int .i64 r.s0, .int .i64 r.s1, .int .i64 r.e0, .int .i64 r.e1, .bool r.op, .slice r.la r.legs.length r.lc, .slice r.pa r.pauses.length r.pc, .int .i64 r.fw, .int .i64 r.fp, .int .i64 r.wh, .int .i64 r.pl] 44))
  have Hbx := Lib.hid (And.intro x.b.size (show x.w.heap.size + 2 = ((x.w.alloc (.cells #[.int .i64 p.id, .int .i64 p.rd, .int .i64 p.f, .int .i64 p.t, .int .i64 p.n, .int .i64 p.s] 49)).alloc (.cells #[.int .i64 r.id, .int .i64 r.rd, .int .i64 r.s0, .int .i64 r.s1, .int .i64 r.e0, .int .i64 r.e1, .bool r.op, .slice r.la r.legs.length r.lc, .slice r.pa r.pauses.length r.pc, .int .i64 r.fw, .int .i64 r.fp, .int .i64 r.wh, .int .i64 r.pl] 44)).heap.size from by simp))
  generalize hW : ((x.w.alloc (.cells #[.int .i64 p.id, .int .i64 p.rd, .int .i64 p.f, .int .i64 p.t, .int .i64 p.n, .int .i64 p.s] 49)).alloc (.cells #[.int .i64 r.id, .int .i64 r.rd, .int .i64 r.s0, .int .i64 r.s1, .int .i64 r.e0, .int .i64 r.e1, .bool r.op, .slice r.la r.legs.length r.lc, .slice r.pa r.pauses.length r.pc, .int .i64 r.fw, .int .i64 r.fp, .int .i64 r.wh, .int .i64 r.pl] 44)) = W at *
  clear hW
  generalize x.w.heap.size = bx at *
  have Hup := Lib.hid (Since.up hWup)
  rw [hy0]
  clear hy0
  clear hWup
  clear hb0_0 hb0_4 hb0_5 hb1_0 hb1_3 hb1_4 hb1_5 hb1_6 hb1_7 hb1_8 hb1_9 hb1_10 hb1_11 hb1_12 hf0 hf1
  by_cases hrd : p.rd = r.rd
  · have hb : (p.rd == r.rd) = true := by simpa using hrd
    rw [decide_eq_true hrd, Bool.true_and] at HG
    clear hrd
    rcases (by omega : r.s0 / 86400 < p.f ∨ (p.f ≤ r.s0 / 86400 ∧ p.t ≤ r.s0 / 86400) ∨ (p.f ≤ r.s0 / 86400 ∧ r.s0 / 86400 < p.t)) with h | ⟨h, h'⟩ | ⟨h, h'⟩
    all_goals
      have Hr := Lib.hid (show vP p r = (decide (p.f ≤ r.s0 / 86400) && decide (r.s0 / 86400 < p.t)) from HG.out)
      clear HG
      go_wp2_with fail
      go_ret
      exact ⟨ret_bool (by rw [Hr.out]; simp; omega), Hup.out _⟩
  · have hb : (p.rd == r.rd) = false := by simpa using hrd
    have Hr := Lib.hid (show vP p r = false by rw [HG.out, decide_eq_false hrd]; rfl)
    clear hrd HG
    go_wp2_with fail
    go_ret
    exact ⟨ret_bool Hr.out.symm, Hup.out _⟩
/-- how many of the first m rides that are of the day of x and paid by pass k come after x -/
def aftTo (R : List Ride) (u : Nat → Int) (k : Int) (x : Ride) (m : Nat) : Nat := ((List.range m).filter fun j => decide (u j = k) && decide (day (rAt R j) = day x) && bef x (rAt R j)).length
theorem aftTo_next (R : List Ride) (u : Nat → Int) (k : Int) (x : Ride) (m : Nat) : aftTo R u k x (m + 1) = aftTo R u k x m + if (u m = k ∧ day (rAt R m) = day x) ∧ bef x (rAt R m) = true then 1 else 0 := by
  unfold aftTo
  rw [List.range_succ, List.filter_append, List.length_append]
  congr 1
  by_cases h : (u m = k ∧ day (rAt R m) = day x) ∧ bef x (rAt R m) = true
  · rw [if_pos h]; simp [h.1, h.2]
  · rw [if_neg h, List.filter_eq_nil_iff.2 (by
      intro j hj
      simp at hj; subst hj
      simpa using h)]
    rfl
theorem aftTo_le (R : List Ride) (u : Nat → Int) (k : Int) (x : Ride) (m : Nat) : aftTo R u k x m ≤ m := by
  have := List.length_filter_le (fun j => decide (u j = k) && decide (day (rAt R j) = day x) && bef x (rAt R j)) (List.range m)
  unfold aftTo; simpa using this
set_option maxRecDepth 100000 in
set_option maxHeartbeats 8000000 in
theorem count_calls (w : World) (x : Since w) (a : Option Addr) (R : List Ride) (c : Nat) (a2 : Option Addr) (us : List Int) (c2 : Nat) (kk : Int) (r : Ride) (h : RideRow w a R) (hu : IntRow w a2 us) (hn : R.length ≤ us.length) (hl : R.length ≤ 256) (hs0 : ∀ r ∈ R, 0 ≤ r.s0 ∧ r.s0 ≤ 4294943999) (h0 : 0 ≤ r.s0) (h1 : r.s0 ≤ 4294943999) :
    Calls Try.prog 18 #[.slice a R.length c, .slice a2 us.length c2, .int .i64 kk, .agg #[.int .i64 r.id, .int .i64 r.rd, .int .i64 r.s0, .int .i64 r.s1, .int .i64 r.e0, .int .i64 r.e1, .bool r.op, .slice r.la r.legs.length r.lc, .slice r.pa r.pauses.length r.pc, .int .i64 r.fw, .int .i64 r.fp, .int .i64 r.wh, .int .i64 r.pl]] x.w fun o w' => o = .returned (.tuple #[.int .i64 (cntU R (at0 us) kk (day r) : Nat), .int .i64 (aftTo R (at0 us) kk r R.length : Nat)]) ∧ ∃ y : Since w, w' = y.w := by
  have HL := Lib.hid h
  have HU := Lib.hid hu
  have Hs0 := Lib.hid hs0
  clear h hu hs0
  go_enter Try.func18, Try.ntmps18
  go_upto_region 1 with fail
  have hb0_0 : ∀ y : Since (x.w.alloc (.cells #[.int .i64 r.id, .int .i64 r.rd, .int .i64 r.s0, .int .i64 r.s1, .int .i64 r.e0, .int .i64 r.e1, .bool r.op, .slice r.la r.legs.length r.lc, .slice r.pa r.pauses.length r.pc, .int .i64 r.fw, .int .i64 r.fp, .int .i64 r.wh, .int .i64 r.pl] 44)), y.w.cell? ⟨x.w.heap.size, 0, none⟩ = some (.int .i64 r.id) := fun y => Since.cell (by simp [go_sem]) (by first | (simp; done) | (simp; omega)) y
  have hb0_1 : ∀ y : Since (x.w.alloc (.cells #[.int .i64 r.id, .int .i64 r.rd, .int .i64 r.s0, .int .i64 r.s1, .int .i64 r.e0, .int .i64 r.e1, .bool r.op, .slice r.la r.legs.length r.lc, .slice r.pa r.pauses.length r.pc, .int .i64 r.fw, .int .i64 r.fp, .int .i64 r.wh, .int .i64 r.pl] 44)), y.w.cell? ⟨x.w.heap.size, 1, none⟩ = some (.int .i64 r.rd) := fun y => Since.cell (by simp [go_sem]) (by first | (simp; done) | (simp; omega)) y
  have hb0_2 : ∀ y : Since (x.w.alloc (.cells #[.int .i64 r.id, .int .i64 r.rd, .int .i64 r.s0, .int .i64 r.s1, .int .i64 r.e0, .int .i64 r.e1, .bool r.op, .slice r.la r.legs.length r.lc, .slice r.pa r.pauses.length r.pc, .int .i64 r.fw, .int .i64 r.fp, .int .i64 r.wh, .int .i64 r.pl] 44)), y.w.cell? ⟨x.w.heap.size, 2, none⟩ = some (.int .i64 r.s0) := fun y => Since.cell (by simp [go_sem]) (by first | (simp; done) | (simp; omega)) y
  have hb0_3 : ∀ y : Since (x.w.alloc (.cells #[.int .i64 r.id, .int .i64 r.rd, .int .i64 r.s0, .int .i64 r.s1, .int .i64 r.e0, .int .i64 r.e1, .bool r.op, .slice r.la r.legs.length r.lc, .slice r.pa r.pauses.length r.pc, .int .i64 r.fw, .int .i64 r.fp, .int .i64 r.wh, .int .i64 r.pl] 44)), y.w.cell? ⟨x.w.heap.size, 3, none⟩ = some (.int .i64 r.s1) := fun y => Since.cell (by simp [go_sem]) (by first | (simp; done) | (simp; omega)) y
  have hb0_4 : ∀ y : Since (x.w.alloc (.cells #[.int .i64 r.id, .int .i64 r.rd, .int .i64 r.s0, .int .i64 r.s1, .int .i64 r.e0, .int .i64 r.e1, .bool r.op, .slice r.la r.legs.length r.lc, .slice r.pa r.pauses.length r.pc, .int .i64 r.fw, .int .i64 r.fp, .int .i64 r.wh, .int .i64 r.pl] 44)), y.w.cell? ⟨x.w.heap.size, 4, none⟩ = some (.int .i64 r.e0) := fun y => Since.cell (by simp [go_sem]) (by first | (simp; done) | (simp; omega)) y
  have hb0_5 : ∀ y : Since (x.w.alloc (.cells #[.int .i64 r.id, .int .i64 r.rd, .int .i64 r.s0, .int .i64 r.s1, .int .i64 r.e0, .int .i64 r.e1, .bool r.op, .slice r.la r.legs.length r.lc, .slice r.pa r.pauses.length r.pc, .int .i64 r.fw, .int .i64 r.fp, .int .i64 r.wh, .int .i64 r.pl] 44)), y.w.cell? ⟨x.w.heap.size, 5, none⟩ = some (.int .i64 r.e1) := fun y => Since.cell (by simp [go_sem]) (by first | (simp; done) | (simp; omega)) y
  have hb0_6 : ∀ y : Since (x.w.alloc (.cells #[.int .i64 r.id, .int .i64 r.rd, .int .i64 r.s0, .int .i64 r.s1, .int .i64 r.e0, .int .i64 r.e1, .bool r.op, .slice r.la r.legs.length r.lc, .slice r.pa r.pauses.length r.pc, .int .i64 r.fw, .int .i64 r.fp, .int .i64 r.wh, .int .i64 r.pl] 44)), y.w.cell? ⟨x.w.heap.size, 6, none⟩ = some (.bool r.op) := fun y => Since.cell (by simp [go_sem]) (by first | (simp; done) | (simp; omega)) y
  have hb0_7 : ∀ y : Since (x.w.alloc (.cells #[.int .i64 r.id, .int .i64 r.rd, .int .i64 r.s0, .int .i64 r.s1, .int .i64 r.e0, .int .i64 r.e1, .bool r.op, .slice r.la r.legs.length r.lc, .slice r.pa r.pauses.length r.pc, .int .i64 r.fw, .int .i64 r.fp, .int .i64 r.wh, .int .i64 r.pl] 44)), y.w.cell? ⟨x.w.heap.size, 7, none⟩ = some (.slice r.la r.legs.length r.lc) := fun y => Since.cell (by simp [go_sem]) (by first | (simp; done) | (simp; omega)) y
  have hb0_8 : ∀ y : Since (x.w.alloc (.cells #[.int .i64 r.id, .int .i64 r.rd, .int .i64 r.s0, .int .i64 r.s1, .int .i64 r.e0, .int .i64 r.e1, .bool r.op, .slice r.la r.legs.length r.lc, .slice r.pa r.pauses.length r.pc, .int .i64 r.fw, .int .i64 r.fp, .int .i64 r.wh, .int .i64 r.pl] 44)), y.w.cell? ⟨x.w.heap.size, 8, none⟩ = some (.slice r.pa r.pauses.length r.pc) := fun y => Since.cell (by simp [go_sem]) (by first | (simp; done) | (simp; omega)) y
  have hb0_9 : ∀ y : Since (x.w.alloc (.cells #[.int .i64 r.id, .int .i64 r.rd, .int .i64 r.s0, .int .i64 r.s1, .int .i64 r.e0, .int .i64 r.e1, .bool r.op, .slice r.la r.legs.length r.lc, .slice r.pa r.pauses.length r.pc, .int .i64 r.fw, .int .i64 r.fp, .int .i64 r.wh, .int .i64 r.pl] 44)), y.w.cell? ⟨x.w.heap.size, 9, none⟩ = some (.int .i64 r.fw) := fun y => Since.cell (by simp [go_sem]) (by first | (simp; done) | (simp; omega)) y
  have hb0_10 : ∀ y : Since (x.w.alloc (.cells #[.int .i64 r.id, .int .i64 r.rd, .int .i64 r.s0, .int .i64 r.s1, .int .i64 r.e0, .int .i64 r.e1, .bool r.op, .slice r.la r.legs.length r.lc, .slice r.pa r.pauses.length r.pc, .int .i64 r.fw, .int .i64 r.fp, .int .i64 r.wh, .int .i64 r.pl] 44)), y.w.cell? ⟨x.w.heap.size, 10, none⟩ = some (.int .i64 r.fp) := fun y => Since.cell (by simp [go_sem]) (by first | (simp; done) | (simp; omega)) y
  have hb0_11 : ∀ y : Since (x.w.alloc (.cells #[.int .i64 r.id, .int .i64 r.rd, .int .i64 r.s0, .int .i64 r.s1, .int .i64 r.e0, .int .i64 r.e1, .bool r.op, .slice r.la r.legs.length r.lc, .slice r.pa r.pauses.length r.pc, .int .i64 r.fw, .int .i64 r.fp, .int .i64 r.wh, .int .i64 r.pl] 44)), y.w.cell? ⟨x.w.heap.size, 11, none⟩ = some (.int .i64 r.wh) := fun y => Since.cell (by simp [go_sem]) (by first | (simp; done) | (simp; omega)) y
  have hb0_12 : ∀ y : Since (x.w.alloc (.cells #[.int .i64 r.id, .int .i64 r.rd, .int .i64 r.s0, .int .i64 r.s1, .int .i64 r.e0, .int .i64 r.e1, .bool r.op, .slice r.la r.legs.length r.lc, .slice r.pa r.pauses.length r.pc, .int .i64 r.fw, .int .i64 r.fp, .int .i64 r.wh, .int .i64 r.pl] 44)), y.w.cell? ⟨x.w.heap.size, 12, none⟩ = some (.int .i64 r.pl) := fun y => Since.cell (by simp [go_sem]) (by first | (simp; done) | (simp; omega)) y
  have hf0 : ∀ (y : Since (x.w.alloc (.cells #[.int .i64 r.id, .int .i64 r.rd, .int .i64 r.s0, .int .i64 r.s1, .int .i64 r.e0, .int .i64 r.e1, .bool r.op, .slice r.la r.legs.length r.lc, .slice r.pa r.pauses.length r.pc, .int .i64 r.fw, .int .i64 r.fp, .int .i64 r.wh, .int .i64 r.pl] 44))) (o : Nat), y.w.frozen? ⟨x.w.heap.size, o, none⟩ = false := fun y o => Since.free (by simp [go_sem]) (by first | (simp; done) | (simp; omega)) y
  have hWup : ∃ z : Since w, (x.w.alloc (.cells #[.int .i64 r.id, .int .i64 r.rd, .int .i64 r.s0, .int .i64 r.s1, .int .i64 r.e0, .int .i64 r.e1, .bool r.op, .slice r.la r.legs.length r.lc, .slice r.pa r.pauses.length r.pc, .int .i64 r.fw, .int .i64 r.fp, .int .i64 r.wh, .int .i64 r.pl] 44)) = z.w := x.alloc _
  obtain ⟨y0, hy0⟩ := Since.refl (x.w.alloc (.cells #[.int .i64 r.id, .int .i64 r.rd, .int .i64 r.s0, .int .i64 r.s1, .int .i64 r.e0, .int .i64 r.e1, .bool r.op, .slice r.la r.legs.length r.lc, .slice r.pa r.pauses.length r.pc, .int .i64 r.fw, .int .i64 r.fp, .int .i64 r.wh, .int .i64 r.pl] 44))
  have Hbx := Lib.hid (And.intro x.b.size (show x.w.heap.size + 1 = (x.w.alloc (.cells #[.int .i64 r.id, .int .i64 r.rd, .int .i64 r.s0, .int .i64 r.s1, .int .i64 r.e0, .int .i64 r.e1, .bool r.op, .slice r.la r.legs.length r.lc, .slice r.pa r.pauses.length r.pc, .int .i64 r.fw, .int .i64 r.fp, .int .i64 r.wh, .int .i64 r.pl] 44)).heap.size from by simp))
  generalize hW : (x.w.alloc (.cells #[.int .i64 r.id, .int .i64 r.rd, .int .i64 r.s0, .int .i64 r.s1, .int .i64 r.e0, .int .i64 r.e1, .bool r.op, .slice r.la r.legs.length r.lc, .slice r.pa r.pauses.length r.pc, .int .i64 r.fw, .int .i64 r.fp, .int .i64 r.wh, .int .i64 r.pl] 44)) = W at *
  clear hW
  generalize x.w.heap.size = bx at *
  have Hup := Lib.hid (Since.up hWup)
  rw [hy0]
  clear hy0
  replace HL := Lib.hid (HL.out.to hWup)
  replace HU := Lib.hid (HU.out.to hWup)
  clear hWup hf0
  have Hday := Lib.hid (show day r = r.s0 / 86400 from rfl)
  go_wp2_with fail
  go_loopw [10, 11, 12] (fun n f i wr => ∃ (k : Nat) (y : Since W), k ≤ R.length ∧ i = .int .i64 k ∧ n = .int .i64 (cntTo R (at0 us) kk (day r) k : Nat) ∧ f = .int .i64 (aftTo R (at0 us) kk r k : Nat) ∧ wr = y.w) (fun _ _ i _ => R.length - (intOf i).toNat)
  case atStart => exact ⟨0, _, by omega, rfl, rfl, rfl, rfl⟩
  case round =>
    obtain ⟨k, y, hk, rfl, rfl, rfl, rfl⟩ := hrel
    by_cases hlt : k < R.length
    · obtain ⟨e, he⟩ : ∃ e, R[k]? = some e := ⟨_, List.getElem?_eq_getElem hlt⟩
      obtain ⟨b1, off1, rfl, h1'⟩ := Els.ride HL.out.c he
      have ra0 := h1'.c0
      have ra1 := h1'.c1
      have ra2 := h1'.c2
      have ra3 := h1'.c3
      have ra4 := h1'.c4
      have ra5 := h1'.c5
      have ra6 := h1'.c6
      have ra7 := h1'.c7
      have ra8 := h1'.c8
      have ra9 := h1'.c9
      have ra10 := h1'.c10
      have ra11 := h1'.c11
      have ra12 := h1'.c12
      obtain ⟨b2, off2, rfl, hb2, hc2⟩ := HU.out k (by omega)
      have rb : ∀ y : Since W, y.w.cell? ⟨b2, off2 + k, none⟩ = some (.int .i64 (at0 us k)) := Since.cell hc2 hb2
      have hk0 : (0 : Int) ≤ (k : Int) := by omega
      have hkl : (k : Int) < (R.length : Int) := by omega
      have hkn : (k : Int) < (us.length : Int) := by omega
      have Hx := Lib.hid (cntTo_next R (at0 us) kk (day r) k)
      have Hy := Lib.hid (aftTo_next R (at0 us) kk r k)
      rw [rAt_eq he] at Hx Hy
      have Hle := Lib.hid (And.intro (cntTo_le R (at0 us) kk (day r) k) (aftTo_le R (at0 us) kk r k))
      obtain ⟨hs0, hs1⟩ := Hs0.out e (List.mem_of_getElem? he)
      have hc0 : 0 ≤ (cntTo R (at0 us) kk (day r) k : Int) := by omega
      have hc1 : (cntTo R (at0 us) kk (day r) k : Int) ≤ 256 := by have := Hle.out; omega
      have hd0 : 0 ≤ (aftTo R (at0 us) kk r k : Int) := by omega
      have hd1 : (aftTo R (at0 us) kk r k : Int) ≤ 256 := by have := Hle.out; omega
      have Hbc := Lib.hid (fun q : Since W => rbefore_calls W q r e)
      clear h1' he hb2 hc2
      by_cases hu : at0 us k = kk
      · have hub : (at0 us k == kk) = true := by simpa using hu
        by_cases hd : e.s0 / 86400 = r.s0 / 86400
        · have hdb : (e.s0 / 86400 == r.s0 / 86400) = true := by simpa using hd
          have Hn := Lib.hid (show (cntTo R (at0 us) kk (day r) (k + 1) : Int) = cntTo R (at0 us) kk (day r) k + 1 by rw [Hx.out, if_pos ⟨hu, hd⟩]; rfl)
          cases hbf : bef r e with
          | true =>
            have Hm := Lib.hid (show (aftTo R (at0 us) kk r (k + 1) : Int) = aftTo R (at0 us) kk r k + 1 by rw [Hy.out, if_pos ⟨⟨hu, hd⟩, hbf⟩]; rfl)
            rw [hbf] at Hbc
            clear hu hd Hx Hy hbf
            go_wp2_with fail
            refine wp_region_since (by kernel_rfl) (by kernel_rfl) ?_
            repeat (go_big_quiet_step (fail))
            refine wpQuiet_nil ?_
            rintro _ ⟨z, rfl⟩
            go_wp2_with fail
            refine wp_region_since (by kernel_rfl) (by kernel_rfl) ?_
            repeat (go_big_quiet_step ((go_at_call 20; exact Hbc.out _)))
            refine wpQuiet_nil ?_
            rintro _ ⟨z2, rfl⟩
            go_wp2_with fail
            go_roundw
            case rel => exact ⟨k + 1, z2, by omega, by go_num, by rw [Hn.out], by rw [Hm.out], rfl⟩
            case measure => simp [intOf] <;> omega
          | false =>
            have Hm := Lib.hid (show aftTo R (at0 us) kk r (k + 1) = aftTo R (at0 us) kk r k by rw [Hy.out, if_neg (fun h => by rw [hbf] at h; cases h.2)]; rfl)
            rw [hbf] at Hbc
            clear hu hd Hx Hy hbf
            go_wp2_with fail
            refine wp_region_since (by kernel_rfl) (by kernel_rfl) ?_
            repeat (go_big_quiet_step (fail))
            refine wpQuiet_nil ?_
            rintro _ ⟨z, rfl⟩
            go_wp2_with fail
            refine wp_region_since (by kernel_rfl) (by kernel_rfl) ?_
            repeat (go_big_quiet_step ((go_at_call 20; exact Hbc.out _)))
            refine wpQuiet_nil ?_
            rintro _ ⟨z2, rfl⟩
            go_wp2_with fail
            go_roundw
            case rel => exact ⟨k + 1, z2, by omega, by go_num, by rw [Hn.out], by rw [Hm.out], rfl⟩
            case measure => simp [intOf] <;> omega
        · have hdb : (e.s0 / 86400 == r.s0 / 86400) = false := by simpa using hd
          have Hn := Lib.hid (show cntTo R (at0 us) kk (day r) (k + 1) = cntTo R (at0 us) kk (day r) k by rw [Hx.out, if_neg (fun h => hd h.2)]; rfl)
          have Hm := Lib.hid (show aftTo R (at0 us) kk r (k + 1) = aftTo R (at0 us) kk r k by rw [Hy.out, if_neg (fun h => hd h.1.2)]; rfl)
          clear hu hd Hx Hy
          go_wp2_with fail
          refine wp_region_since (by kernel_rfl) (by kernel_rfl) ?_
          repeat (go_big_quiet_step (fail))
          refine wpQuiet_nil ?_
          rintro _ ⟨z, rfl⟩
          go_wp2_with fail
          go_roundw
          case rel => exact ⟨k + 1, z, by omega, by go_num, by rw [Hn.out], by rw [Hm.out], rfl⟩
          case measure => simp [intOf] <;> omega
      · have hub : (at0 us k == kk) = false := by simpa using hu
        have Hn := Lib.hid (show cntTo R (at0 us) kk (day r) (k + 1) = cntTo R (at0 us) kk (day r) k by rw [Hx.out, if_neg (fun h => hu h.1)]; rfl)
        have Hm := Lib.hid (show aftTo R (at0 us) kk r (k + 1) = aftTo R (at0 us) kk r k by rw [Hy.out, if_neg (fun h => hu h.1.1)]; rfl)
        clear hu Hx Hy
        go_wp2_with fail
        refine wp_region_since (by kernel_rfl) (by kernel_rfl) ?_
        repeat (go_big_quiet_step (fail))
        refine wpQuiet_nil ?_
        rintro _ ⟨z, rfl⟩
        go_wp2_with fail
        go_roundw
        case rel => exact ⟨k + 1, z, by omega, by go_num, by rw [Hn.out], by rw [Hm.out], rfl⟩
        case measure => simp [intOf] <;> omega
    · obtain rfl : k = R.length := by omega
      go_wp2_with fail
      go_ret2
      exact ⟨rfl, Hup.out _⟩
end Go.Proofs.Ytbkfcdheckkjaaa
/- The laws of passes, third part: the chapter's examples. -/
namespace Go.Proofs.Ytbkfcdheckkjaaa
open Go.RowKit

theorem bare_e (r : Ride) : rideE r.bare = rideE r := rfl
theorem rAt_bare (R : List Ride) (i : Nat) : rAt (R.map Ride.bare) i = (rAt R i).bare := by
  unfold rAt
  rw [List.getD_eq_getElem?_getD, List.getD_eq_getElem?_getD, List.getElem?_map]
  cases R[i]? <;> rfl
theorem firstErr_bare (R : List Ride) : firstErr (R.map Ride.bare) = firstErr R := by
  unfold firstErr
  induction R with
  | nil => rfl
  | cons r R ih =>
    simp only [List.map_cons, List.find?_cons, bare_e]
    cases rideE r != 0
    · exact ih
    · rfl
theorem ridesE_bare (R : List Ride) : ridesE (R.map Ride.bare) = ridesE R := by
  unfold ridesE
  rw [firstErr_bare, List.length_map, List.map_map]; rfl
theorem usesE_bare (lp : List Pass) (R : List Ride) : usesE lp (R.map Ride.bare) = usesE lp R := by
  unfold usesE; rw [ridesE_bare]
theorem cnt_bare (R : List Ride) (u : Nat → Int) (x : Ride) (k : Int) : cnt (R.map Ride.bare) u x.bare k = cnt R u x k := by
  unfold cnt
  rw [List.length_map]
  congr 1
  refine List.filter_congr fun j _ => ?_
  rw [rAt_bare]; rfl
theorem isUse_bare {lp : List Pass} {R : List Ride} {u : Nat → Int} : IsUse lp (R.map Ride.bare) u ↔ IsUse lp R u := by
  unfold IsUse
  rw [List.length_map]
  refine forall_congr' fun i => forall_congr' fun hi => ?_
  rw [rAt_bare]
  have e : firstP lp (rAt R i).bare (cnt (R.map Ride.bare) u (rAt R i).bare) = firstP lp (rAt R i) (cnt R u (rAt R i)) := by
    have h1 : firstP lp (rAt R i).bare (cnt (R.map Ride.bare) u (rAt R i).bare) = firstP lp (rAt R i) (cnt (R.map Ride.bare) u (rAt R i).bare) := rfl
    rw [h1]
    exact firstP_congr fun k _ => cnt_bare R u (rAt R i) k
  rw [e]
theorem useOk_bare {lp : List Pass} {R : List Ride} {us : List Int} (h : UseOk lp R us) : UseOk lp (R.map Ride.bare) us :=
  ⟨fun hz => by rw [usesE_bare] at hz; exact ⟨by rw [List.length_map]; exact (h.ok hz).1, isUse_bare.2 (h.ok hz).2⟩, fun hz => h.no (by rw [usesE_bare] at hz; exact hz)⟩
theorem cntU_bare (R : List Ride) (u : Nat → Int) (k d : Int) : cntU (R.map Ride.bare) u k d = cntU R u k d := by
  unfold cntU cntTo
  rw [List.length_map]
  congr 1
  refine List.filter_congr fun j _ => ?_
  rw [rAt_bare]; rfl
theorem ex_e : usesE passesL ridesL = 0 := by decide +kernel
theorem ex_e2 : usesE passesL ridesL.reverse = 0 := by decide +kernel
instance (lp : List Pass) (R : List Ride) (u : Nat → Int) : Decidable (IsUse lp R u) := by unfold IsUse; infer_instance
theorem ex_u : UseOk passesL ridesL [0, 1, 1, -1] := ⟨fun _ => ⟨rfl, by decide +kernel⟩, fun h => (h ex_e).elim⟩
theorem ex_u2 : UseOk passesL ridesL.reverse [-1, 1, 1, 0] := ⟨fun _ => ⟨rfl, by decide +kernel⟩, fun h => (h ex_e2).elim⟩
theorem ex_use {R : List Ride} (hR : R.map Ride.bare = ridesL) : usesE passesL R = 0 ∧ ∀ us, UseOk passesL R us → us = [0, 1, 1, -1] :=
  ⟨by rw [← usesE_bare, hR, ex_e], fun us h => by have := useOk_bare h; rw [hR] at this; exact this.unique ex_u⟩
theorem ex_use2 {R : List Ride} (hR : R.map Ride.bare = ridesL) : usesE passesL R.reverse = 0 ∧ ∀ us, UseOk passesL R.reverse us → us = [-1, 1, 1, 0] := by
  have hR2 : R.reverse.map Ride.bare = ridesL.reverse := by rw [List.map_reverse, hR]
  exact ⟨by rw [← usesE_bare, hR2, ex_e2], fun us h => by have := useOk_bare h; rw [hR2] at this; exact this.unique ex_u2⟩
theorem ex_left {R : List Ride} (hR : R.map Ride.bare = ridesL) (d : Int) (v : Int) (hv : (d = 1 ∧ v = 0) ∨ (d = 2 ∧ v = 2) ∨ (d = 0 ∧ v = 0)) : leftE passesL R 1 d = 0 ∧ ∀ us, UseOk passesL R us → leftV passesL R us 1 d = v := by
  have he : leftE passesL R 1 d = 0 := by
    unfold leftE
    rw [(ex_use hR).1, if_neg (by simp), if_neg (by simp [passesL]), if_neg (by omega)]
  refine ⟨he, fun us h => ?_⟩
  rw [(ex_use hR).2 us h]
  unfold leftV
  rw [he, if_neg (by simp), ← cntU_bare, hR]
  rcases hv with ⟨rfl, rfl⟩ | ⟨rfl, rfl⟩ | ⟨rfl, rfl⟩ <;> decide +kernel
theorem passes_s (w : World) (y : Since w) : Calls Try.prog 22 #[] y.w fun o w' => ∃ (a : Option Addr) (c : Nat) (y' : Since w), o = .returned (.slice a 2 c) ∧ w' = y'.w ∧ (∃ z : Since y.w, y'.w = z.w) ∧ PassRow y'.w a passesL := by
  refine (passes_calls y.w (Since.self y.w)).mono ?_
  rintro _ w' ⟨a, c, z, rfl, rfl, h⟩
  obtain ⟨y', e⟩ := y.trans z
  exact ⟨a, c, y', rfl, e, ⟨z, e.symm⟩, e ▸ h⟩
theorem rides_s (w : World) (y : Since w) : Calls Try.prog 23 #[] y.w fun o w' => ∃ (a : Option Addr) (c : Nat) (R : List Ride) (y' : Since w), o = .returned (.slice a R.length c) ∧ w' = y'.w ∧ (∃ z : Since y.w, y'.w = z.w) ∧ RideRow y'.w a R ∧ R.map Ride.bare = ridesL := by
  refine (rides_calls y.w (Since.self y.w)).mono ?_
  rintro _ w' ⟨a, c, R, z, rfl, rfl, h, hR, _⟩
  obtain ⟨y', e⟩ := y.trans z
  exact ⟨a, c, R, y', rfl, e, ⟨z, e.symm⟩, e ▸ h, hR⟩
theorem ridesL_len {R : List Ride} (hR : R.map Ride.bare = ridesL) : R.length = 4 := by
  have := congrArg List.length hR
  rwa [List.length_map] at this
theorem turned_s (w : World) (y : Since w) (a : Option Addr) (R : List Ride) (c : Nat) (h : RideRow y.w a R) (hR : R.map Ride.bare = ridesL) :
    Calls Try.prog 24 #[.slice a R.length c] y.w fun o w' => ∃ (a : Option Addr) (c : Nat) (T : List Ride) (y' : Since w), o = .returned (.slice a T.length c) ∧ w' = y'.w ∧ (∃ z : Since y.w, y'.w = z.w) ∧ RideRow y'.w a T ∧ Hid (T = R.reverse) := by
  refine (turned_calls y.w (Since.self y.w) a R c h (by rw [ridesL_len hR]; decide)).mono ?_
  rintro _ w' ⟨a, c, z, rfl, rfl, h, _⟩
  obtain ⟨y', e⟩ := y.trans z
  exact ⟨a, c, R.reverse, y', rfl, e, ⟨z, e.symm⟩, e ▸ h, Lib.hid rfl⟩
theorem useX_s (w : World) (y : Since w) (pa : Option Addr) (lp : List Pass) (pc : Nat) (a : Option Addr) (R : List Ride) (c : Nat) (hp : PassRow y.w pa lp) (hpl : lp.length ≤ 9223372036854775807) (h : RideRow y.w a R) (hl : R.length ≤ 9223372036854775807) :
    Calls Try.prog 13 #[.slice pa lp.length pc, .slice a R.length c] y.w fun o w' => ∃ (a : Option Addr) (cap : Nat) (us : List Int) (y' : Since w), o = .returned (.tuple #[.slice a us.length cap, .int .i64 (usesE lp R)]) ∧ w' = y'.w ∧ (∃ z : Since y.w, y'.w = z.w) ∧ IntRow y'.w a us ∧ UseOk lp R us := by
  refine (useX_calls y.w (Since.self y.w) pa lp pc a R c hp hpl h hl).mono ?_
  rintro _ w' ⟨a, c, us, z, rfl, rfl, h, hU⟩
  obtain ⟨y', e⟩ := y.trans z
  exact ⟨a, c, us, y', rfl, e, ⟨z, e.symm⟩, e ▸ h, hU⟩
theorem ruse_s (w : World) (y : Since w) (pa : Option Addr) (lp : List Pass) (pc : Nat) (a : Option Addr) (R : List Ride) (c : Nat) (hp : PassRow y.w pa lp) (hpl : lp.length ≤ 9223372036854775807) (h : RideRow y.w a R) (hl : R.length ≤ 9223372036854775807) :
    Calls Try.prog 14 #[.slice pa lp.length pc, .slice a R.length c] y.w fun o w' => ∃ (a : Option Addr) (cap : Nat) (us : List Int) (y' : Since w), o = .returned (.tuple #[.slice a us.length cap, .int .i64 (usesE lp R)]) ∧ w' = y'.w ∧ (∃ z : Since y.w, y'.w = z.w) ∧ IntRow y'.w a us ∧ UseOk lp R us := by
  refine (ruse_calls y.w (Since.self y.w) pa lp pc a R c hp hpl h hl).mono ?_
  rintro _ w' ⟨a, c, us, z, rfl, rfl, h, hU⟩
  obtain ⟨y', e⟩ := y.trans z
  exact ⟨a, c, us, y', rfl, e, ⟨z, e.symm⟩, e ▸ h, hU⟩
theorem use1_s (w : World) (y : Since w) (pa : Option Addr) (pc : Nat) (a : Option Addr) (R : List Ride) (c : Nat) (hp : PassRow y.w pa passesL) (h : RideRow y.w a R) (hR : R.map Ride.bare = ridesL) :
    Calls Try.prog 13 #[.slice pa 2 pc, .slice a R.length c] y.w fun o w' => ∃ (a : Option Addr) (cap : Nat) (y' : Since w), o = .returned (.tuple #[.slice a 4 cap, .int .i64 0]) ∧ w' = y'.w ∧ (∃ z : Since y.w, y'.w = z.w) ∧ IntRow y'.w a [0, 1, 1, -1] := by
  have hc := useX_s w y pa passesL pc a R c hp (by decide) h (by rw [ridesL_len hR]; decide)
  refine hc.mono ?_
  rintro _ w' ⟨a, c, us, y', rfl, rfl, hz, h, hU⟩
  have := (ex_use hR).2 us hU
  subst this
  rw [(ex_use hR).1]
  exact ⟨a, c, y', rfl, rfl, hz, h⟩
theorem use2_s (w : World) (y : Since w) (pa : Option Addr) (pc : Nat) (a : Option Addr) (R : List Ride) (c : Nat) (T : List Ride) (hT : T = R.reverse) (hp : PassRow y.w pa passesL) (h : RideRow y.w a T) (hR : R.map Ride.bare = ridesL) :
    Calls Try.prog 13 #[.slice pa 2 pc, .slice a T.length c] y.w fun o w' => ∃ (a : Option Addr) (cap : Nat) (y' : Since w), o = .returned (.tuple #[.slice a 4 cap, .int .i64 0]) ∧ w' = y'.w ∧ (∃ z : Since y.w, y'.w = z.w) ∧ IntRow y'.w a [-1, 1, 1, 0] := by
  subst hT
  have hc := useX_s w y pa passesL pc a R.reverse c hp (by decide) h (by rw [List.length_reverse, ridesL_len hR]; decide)
  refine hc.mono ?_
  rintro _ w' ⟨a, c, us, y', rfl, rfl, hz, h, hU⟩
  have := (ex_use2 hR).2 us hU
  subst this
  rw [(ex_use2 hR).1]
  exact ⟨a, c, y', rfl, rfl, hz, h⟩
theorem left_s (w : World) (y : Since w) (pa : Option Addr) (pc : Nat) (a : Option Addr) (R : List Ride) (c : Nat) (d v : Int) (hv : (d = 1 ∧ v = 0) ∨ (d = 2 ∧ v = 2) ∨ (d = 0 ∧ v = 0)) (hp : PassRow y.w pa passesL) (h : RideRow y.w a R) (hR : R.map Ride.bare = ridesL) :
    Calls Try.prog 16 #[.slice pa 2 pc, .slice a R.length c, .int .i64 1, .int .i64 d] y.w fun o w' => o = .returned (.tuple #[.int .i64 v, .int .i64 0]) ∧ ∃ y' : Since w, w' = y'.w ∧ (∃ z : Since y.w, y'.w = z.w) := by
  have hc := left_calls y.w (Since.self y.w) pa passesL pc a R c 1 d hp (by decide) h (by rw [ridesL_len hR]; decide)
  refine hc.mono ?_
  rintro _ w' ⟨us, z, rfl, rfl, hU⟩
  obtain ⟨y', e⟩ := y.trans z
  exact ⟨by rw [(ex_left hR d v hv).1, (ex_left hR d v hv).2 us hU], y', e, z, e.symm⟩
theorem ints_s (w : World) (y : Since w) (a : Option Addr) (us : List Int) (c d : Nat) (e : TypeId) (m : List Int) (hm : m = us) (h : IntRow y.w a us) (hl : us.length ≤ 100000) :
    Calls Try.prog 15 #[.slice a us.length c, .slice (some ⟨y.w.heap.size, 0, none⟩) m.length d] (y.w.alloc (.cells (m.map (Value.int .i64)).toArray e)) fun o w' => o = .returned (.bool true) ∧ ∃ y' : Since w, w' = y'.w ∧ (∃ z : Since y.w, y'.w = z.w) := by
  subst hm
  have hst : ∃ z : Since y.w, y.w.alloc (.cells (m.map (Value.int .i64)).toArray e) = z.w := IsSince.alloc (IsSince.self _) _
  refine (ints_calls _ (Since.self _) a m c _ m d (h.to hst) (ints_new y.w m e) (by omega) (by omega)).mono ?_
  rintro _ w' ⟨rfl, z, rfl⟩
  obtain ⟨y1, e1⟩ := (⟨_, below_new _ _⟩ : Since y.w).trans z
  obtain ⟨y2, e2⟩ := y.trans y1
  exact ⟨by rw [decide_eq_true rfl], y2, by rw [← e2, ← e1], y1, e2.symm⟩
theorem ints1_s (w : World) (y : Since w) (a : Option Addr) (c d : Nat) (e : TypeId) (h : IntRow y.w a [0, 1, 1, -1]) :
    Calls Try.prog 15 #[.slice a 4 c, .slice (some ⟨y.w.heap.size, 0, none⟩) 4 d] (y.w.alloc (.cells #[.int .i64 0, .int .i64 1, .int .i64 1, .int .i64 (-1)] e)) fun o w' => o = .returned (.bool true) ∧ ∃ y' : Since w, w' = y'.w ∧ (∃ z : Since y.w, y'.w = z.w) := by
  have h1 := ints_s w y a [0, 1, 1, -1] c d e [0, 1, 1, -1] rfl h (by decide)
  simp only [List.map_cons, List.map_nil, List.length_cons, List.length_nil, Nat.zero_add, Nat.reduceAdd] at h1
  exact h1
theorem ints2_s (w : World) (y : Since w) (a : Option Addr) (c d : Nat) (e : TypeId) (h : IntRow y.w a [-1, 1, 1, 0]) :
    Calls Try.prog 15 #[.slice a 4 c, .slice (some ⟨y.w.heap.size, 0, none⟩) 4 d] (y.w.alloc (.cells #[.int .i64 (-1), .int .i64 1, .int .i64 1, .int .i64 0] e)) fun o w' => o = .returned (.bool true) ∧ ∃ y' : Since w, w' = y'.w ∧ (∃ z : Since y.w, y'.w = z.w) := by
  have h1 := ints_s w y a [-1, 1, 1, 0] c d e [-1, 1, 1, 0] rfl h (by decide)
  simp only [List.map_cons, List.map_nil, List.length_cons, List.length_nil, Nat.zero_add, Nat.reduceAdd] at h1
  exact h1
theorem make_pass (w : World) : (Instr.makeSlice 22 (.int .i64 1) (.int .i64 1)).run Try.prog w = .ok (.slice (some ⟨w.heap.size, 0, none⟩) 1 1) (w.alloc (.cells #[.int .i64 0, .int .i64 0, .int .i64 0, .int .i64 0, .int .i64 0, .int .i64 0] 49)) := by
  obtain ⟨i, hi, hz0, hsz, hby⟩ := sPass.e
  have hr := run_make (P := Try.prog) w 22 49 i _ sPass.t hi hz0 .i64 .i64 1 1 (by omega) (Int.le_refl _) (by rw [hby]; decide) (by decide)
  have hm : madeCells (Value.agg #[.int .i64 0, .int .i64 0, .int .i64 0, .int .i64 0, .int .i64 0, .int .i64 0]).cells (Int.toNat 1 * 6) = #[.int .i64 0, .int .i64 0, .int .i64 0, .int .i64 0, .int .i64 0, .int .i64 0] := by kernel_rfl
  rw [hsz, hm] at hr
  exact hr
theorem pcheck_s (w : World) (y : Since w) (d : Nat) (e : TypeId) :
    Calls Try.prog 10 #[.slice (some ⟨y.w.heap.size, 0, none⟩) 1 d] (y.w.alloc (.cells #[.int .i64 0, .int .i64 0, .int .i64 0, .int .i64 0, .int .i64 0, .int .i64 0] e)) fun o w' => o = .returned (.int .i64 1) ∧ ∃ y' : Since w, w' = y'.w := by
  have hE := els_new Pass.len y.w [⟨0, 0, 0, 0, 0, 0⟩] e
  have hc := pcheck_calls (y.w.alloc (.cells (flat Pass.cs [⟨0, 0, 0, 0, 0, 0⟩]).toArray e)) (Since.self _) (some ⟨y.w.heap.size, 0, none⟩) [⟨0, 0, 0, 0, 0, 0⟩] d hE (by decide)
  refine hc.mono ?_
  rintro _ w' ⟨rfl, z, rfl⟩
  obtain ⟨y1, e1⟩ := (⟨_, below_new _ _⟩ : Since y.w).trans z
  obtain ⟨y2, e2⟩ := y.trans y1
  exact ⟨ret_int (by decide +kernel), y2, by rw [← e2, ← e1]⟩
end Go.Proofs.Ytbkfcdheckkjaaa
/- The laws of passes, fourth part: awake. -/
namespace Go.Proofs.Ytbkfcdheckkjaaa
open Go.RowKit

set_option maxRecDepth 100000 in
set_option maxHeartbeats 16000000 in
theorem awake_calls (w : World) (x : Since w) : Calls Try.prog 9 #[] x.w fun o w' => o = .returned (.bool true) ∧ ∃ y : Since w, w' = y.w := by
  go_enter Try.func9, Try.ntmps9
  go_upto_region 2 with (first | (go_at_call 22; refine (passes_s w _).mono ?_; rintro _ _ ⟨pa1, pc1, y1, rfl, rfl, hz, hp1⟩; (try replace HA := Lib.hid (HA.out.to hz)); (try replace HB := Lib.hid (HB.out.to hz)); have HP := Lib.hid hp1; clear hp1 hz) | (go_at_call 23; refine (rides_s w _).mono ?_; rintro _ _ ⟨ra1, rc1, R1, y1, rfl, rfl, hz, hr1, hR1⟩; replace HP := Lib.hid (HP.out.to hz); (try replace HA := Lib.hid (HA.out.to hz)); (try replace HB := Lib.hid (HB.out.to hz)); have HR := Lib.hid hr1; have HR1 := Lib.hid hR1; clear hr1 hR1 hz) | (go_at_call 13; refine (use1_s w _ pa1 pc1 ra1 R1 rc1 HP.out HR.out HR1.out).mono ?_; rintro _ _ ⟨ua, uc, y1, rfl, rfl, hz, hu⟩; have HA := Lib.hid hu; clear hz hu))
  clear HP HR HR1
  go_upto_region 3 with (first | (go_at_call 22; refine (passes_s w _).mono ?_; rintro _ _ ⟨pa1, pc1, y1, rfl, rfl, hz, hp1⟩; (try replace HA := Lib.hid (HA.out.to hz)); (try replace HB := Lib.hid (HB.out.to hz)); have HP := Lib.hid hp1; clear hp1 hz) | (go_at_call 23; refine (rides_s w _).mono ?_; rintro _ _ ⟨ra1, rc1, R1, y1, rfl, rfl, hz, hr1, hR1⟩; replace HP := Lib.hid (HP.out.to hz); (try replace HA := Lib.hid (HA.out.to hz)); (try replace HB := Lib.hid (HB.out.to hz)); have HR := Lib.hid hr1; have HR1 := Lib.hid hR1; clear hr1 hR1 hz) | (go_at_call 24; refine (turned_s w _ ra1 R1 rc1 HR.out HR1.out).mono ?_; rintro _ _ ⟨ta1, tc1, T1, y1, rfl, rfl, hz, hr1, HT1⟩; replace HA := Lib.hid (HA.out.to hz); replace HP := Lib.hid (HP.out.to hz); have HT := Lib.hid hr1; clear hz hr1) | (go_at_call 13; refine (use2_s w _ pa1 pc1 ta1 R1 tc1 T1 HT1.out HP.out HT.out HR1.out).mono ?_; rintro _ _ ⟨ub, ud, y1, rfl, rfl, hz, hu⟩; replace HA := Lib.hid (HA.out.to hz); have HB := Lib.hid hu; clear hz hu))
  clear HP HR HR1 HT
  go_upto_region 4 with (first | (go_at_call 22; refine (passes_s w _).mono ?_; rintro _ _ ⟨pa1, pc1, y1, rfl, rfl, hz, hp1⟩; (try replace HA := Lib.hid (HA.out.to hz)); (try replace HB := Lib.hid (HB.out.to hz)); have HP := Lib.hid hp1; clear hp1 hz) | (go_at_call 23; refine (rides_s w _).mono ?_; rintro _ _ ⟨ra1, rc1, R1, y1, rfl, rfl, hz, hr1, hR1⟩; replace HP := Lib.hid (HP.out.to hz); (try replace HA := Lib.hid (HA.out.to hz)); (try replace HB := Lib.hid (HB.out.to hz)); have HR := Lib.hid hr1; have HR1 := Lib.hid hR1; clear hr1 hR1 hz) | (go_at_call 16; refine (left_s w _ pa1 pc1 ra1 R1 rc1 1 0 (by decide) HP.out HR.out HR1.out).mono ?_; rintro _ _ ⟨rfl, y1, rfl, hz⟩; (try replace HA := Lib.hid (HA.out.to hz)); (try replace HB := Lib.hid (HB.out.to hz)); clear hz))
  clear HP HR HR1
  go_upto_region 5 with (first | (go_at_call 22; refine (passes_s w _).mono ?_; rintro _ _ ⟨pa1, pc1, y1, rfl, rfl, hz, hp1⟩; (try replace HA := Lib.hid (HA.out.to hz)); (try replace HB := Lib.hid (HB.out.to hz)); have HP := Lib.hid hp1; clear hp1 hz) | (go_at_call 23; refine (rides_s w _).mono ?_; rintro _ _ ⟨ra1, rc1, R1, y1, rfl, rfl, hz, hr1, hR1⟩; replace HP := Lib.hid (HP.out.to hz); (try replace HA := Lib.hid (HA.out.to hz)); (try replace HB := Lib.hid (HB.out.to hz)); have HR := Lib.hid hr1; have HR1 := Lib.hid hR1; clear hr1 hR1 hz) | (go_at_call 16; refine (left_s w _ pa1 pc1 ra1 R1 rc1 2 2 (by decide) HP.out HR.out HR1.out).mono ?_; rintro _ _ ⟨rfl, y1, rfl, hz⟩; (try replace HA := Lib.hid (HA.out.to hz)); (try replace HB := Lib.hid (HB.out.to hz)); clear hz))
  clear HP HR HR1
  go_upto_region 6 with (first | (go_at_call 22; refine (passes_s w _).mono ?_; rintro _ _ ⟨pa1, pc1, y1, rfl, rfl, hz, hp1⟩; (try replace HA := Lib.hid (HA.out.to hz)); (try replace HB := Lib.hid (HB.out.to hz)); have HP := Lib.hid hp1; clear hp1 hz) | (go_at_call 23; refine (rides_s w _).mono ?_; rintro _ _ ⟨ra1, rc1, R1, y1, rfl, rfl, hz, hr1, hR1⟩; replace HP := Lib.hid (HP.out.to hz); (try replace HA := Lib.hid (HA.out.to hz)); (try replace HB := Lib.hid (HB.out.to hz)); have HR := Lib.hid hr1; have HR1 := Lib.hid hR1; clear hr1 hR1 hz) | (go_at_call 16; refine (left_s w _ pa1 pc1 ra1 R1 rc1 0 0 (by decide) HP.out HR.out HR1.out).mono ?_; rintro _ _ ⟨rfl, y1, rfl, hz⟩; (try replace HA := Lib.hid (HA.out.to hz)); (try replace HB := Lib.hid (HB.out.to hz)); clear hz))
  clear HP HR HR1
  go_upto_region 8 with fail
  have mkp := make_pass
  go_wp2_with (first | (go_at_call 15; (with_reducible refine (ints1_s w _ ua uc 4 _ HA.out).mono ?_); rintro _ _ ⟨rfl, y1, rfl, hz⟩; replace HB := Lib.hid (HB.out.to hz); clear hz) | (go_at_call 15; (with_reducible refine (ints2_s w _ ub ud 4 _ HB.out).mono ?_); rintro _ _ ⟨rfl, y1, rfl, hz⟩; clear hz) | (go_at_call 10; (with_reducible refine (pcheck_s w _ 1 _).mono ?_); rintro _ _ ⟨rfl, y1, rfl⟩))
  go_ret
  exact ⟨rfl, _, rfl⟩
end Go.Proofs.Ytbkfcdheckkjaaa
/- The laws PassChecks, PassUses and PassLeft, walked. -/
namespace Go.Proofs.Ytbkfcdheckkjaaa
open Go.RowKit

theorem passChecks_calls (w : World) (x : Since w) (a : Option Addr) (l : List Pass) (c : Nat) (h : PassRow w a l) (hl : l.length ≤ 9223372036854775807) :
    Calls Try.prog 3 #[.slice a l.length c] x.w fun o w' => o = .returned (.bool true) ∧ ∃ y : Since w, w' = y.w := by
  have Ha := Lib.hid (fun y : Since w => awake_calls w y)
  have Hp := Lib.hid (fun y : Since w => pcheck_calls w y a l c h hl)
  have Hq := Lib.hid (fun y : Since w => rpcheck_calls w y a l c h hl)
  clear h
  generalize passE l = pe at *
  have hee : (pe == pe) = true := by simp
  rcases (by omega : 100 < l.length ∨ l.length ≤ 100) with hb | hb
  · go_enter Try.func3, Try.ntmps3
    go_wp2_with (go_at_call 9; ((with_reducible refine (Ha.out _).mono ?_); rintro _ _ ⟨rfl, y1, rfl⟩))
    go_ret
    exact ⟨rfl, _, rfl⟩
  · go_enter Try.func3, Try.ntmps3
    go_wp2_with (first | (go_at_call 10; ((with_reducible refine (Hp.out _).mono ?_); rintro _ _ ⟨rfl, y1, rfl⟩)) | (go_at_call 11; ((with_reducible refine (Hq.out _).mono ?_); rintro _ _ ⟨rfl, y1, rfl⟩)) | (go_at_call 9; ((with_reducible refine (Ha.out _).mono ?_); rintro _ _ ⟨rfl, y1, rfl⟩)))
    go_ret
    exact ⟨rfl, _, rfl⟩
/-- what all laws but the first begin with -/
theorem few_cases (lp : List Pass) (R : List Ride) : 100 < lp.length ∨ (lp.length ≤ 100 ∧ fewB R 30 = false) ∨ (lp.length ≤ 100 ∧ fewB R 30 = true ∧ R.length ≤ 30) := by
  by_cases h : 100 < lp.length
  · exact .inl h
  · cases hf : fewB R 30
    · exact .inr (.inl ⟨by omega, rfl⟩)
    · refine .inr (.inr ⟨by omega, rfl, ?_⟩)
      unfold fewB at hf
      simp only [Bool.and_eq_true, decide_eq_true_eq] at hf
      omega
set_option maxHeartbeats 4000000 in
theorem passUses_calls (w : World) (x : Since w) (pa : Option Addr) (lp : List Pass) (pc : Nat) (a : Option Addr) (R : List Ride) (c : Nat) (hp : PassRow w pa lp) (hpl : lp.length ≤ 9223372036854775807) (h : RideRow w a R) (hl : R.length ≤ 9223372036854775807) :
    Calls Try.prog 4 #[.slice pa lp.length pc, .slice a R.length c] x.w fun o w' => o = .returned (.bool true) ∧ ∃ y : Since w, w' = y.w := by
  have Ha := Lib.hid (fun y : Since w => awake_calls w y)
  have Hf := Lib.hid (fun y : Since w => few_calls w y a R c 30 h hl)
  have Hp := Lib.hid (fun y : Since w => useX_s w y pa lp pc a R c (Since.els hp y) hpl (h.since y) hl)
  have Hq := Lib.hid (fun y : Since w => ruse_s w y pa lp pc a R c (Since.els hp y) hpl (h.since y) hl)
  clear h hp
  have hee : (usesE lp R == usesE lp R) = true := by simp
  have Hun := Lib.hid (fun (us vs : List Int) (h : UseOk lp R us) (k : UseOk lp R vs) => h.unique k)
  have Hlen := Lib.hid (fun (us : List Int) (h : UseOk lp R us) => show us.length ≤ 256 by
    by_cases hz : usesE lp R = 0
    · rw [(h.ok hz).1]; exact (ridesE_zero (usesE_zero hz).2).1
    · rw [h.no hz]; simp)
  rcases few_cases lp R with hb | ⟨hb, hf⟩ | ⟨hb, hf, hR⟩
  · go_enter Try.func4, Try.ntmps4
    go_wp2_with (go_at_call 9; ((with_reducible refine (Ha.out _).mono ?_); rintro _ _ ⟨rfl, y1, rfl⟩))
    go_ret
    exact ⟨rfl, _, rfl⟩
  · rw [hf] at Hf
    clear hf
    go_enter Try.func4, Try.ntmps4
    go_wp2_with (first | (go_at_call 12; ((with_reducible refine (Hf.out _).mono ?_); rintro _ _ ⟨rfl, y1, rfl⟩)) | (go_at_call 9; ((with_reducible refine (Ha.out _).mono ?_); rintro _ _ ⟨rfl, y1, rfl⟩)))
    go_ret
    exact ⟨rfl, _, rfl⟩
  · rw [hf] at Hf
    clear hf
    go_enter Try.func4, Try.ntmps4
    go_upto_region 3 with (go_at_call 12; ((with_reducible refine (Hf.out _).mono ?_); rintro _ _ ⟨rfl, y1, rfl⟩))
    go_upto_region 4 with (go_at_call 13; ((with_reducible refine (Hp.out _).mono ?_); rintro _ _ ⟨ua, uc, us, y2, rfl, rfl, hz, hu, hU⟩; have HU := Lib.hid hu; have HOk := Lib.hid hU; clear hz hu hU))
    go_upto_region 5 with (go_at_call 14; ((with_reducible refine (Hq.out _).mono ?_); rintro _ _ ⟨va, vc, vs, y3, rfl, rfl, hz, hv, hV⟩; obtain rfl := Hun.out _ _ HOk.out hV; replace HU := Lib.hid (HU.out.to hz); have HV := Lib.hid hv; clear hz hv hV))
    have Hi := Lib.hid (ints_calls y3.w (Since.self _) ua us uc va us vc HU.out HV.out (by have := Hlen.out us HOk.out; omega) (by have := Hlen.out us HOk.out; omega))
    rw [decide_eq_true rfl] at Hi
    generalize hue : usesE lp R = ue at *
    clear hue
    go_wp2_with (first | (go_at_call 15; (refine (Hi.out).mono ?_; rintro _ _ ⟨rfl, z, rfl⟩; obtain ⟨y4, h4⟩ := y3.trans z; rw [h4]; clear h4)) | (go_at_call 9; ((with_reducible refine (Ha.out _).mono ?_); rintro _ _ ⟨rfl, y5, rfl⟩)))
    go_ret
    exact ⟨rfl, _, rfl⟩
set_option maxHeartbeats 4000000 in
theorem passLeft_calls (w : World) (x : Since w) (pa : Option Addr) (lp : List Pass) (pc : Nat) (a : Option Addr) (R : List Ride) (c : Nat) (i d : Int) (hp : PassRow w pa lp) (hpl : lp.length ≤ 9223372036854775807) (h : RideRow w a R) (hl : R.length ≤ 9223372036854775807) :
    Calls Try.prog 5 #[.slice pa lp.length pc, .slice a R.length c, .int .i64 i, .int .i64 d] x.w fun o w' => o = .returned (.bool true) ∧ ∃ y : Since w, w' = y.w := by
  have Ha := Lib.hid (fun y : Since w => awake_calls w y)
  have Hf := Lib.hid (fun y : Since w => few_calls w y a R c 30 h hl)
  have Hp := Lib.hid (fun y : Since w => left_calls w y pa lp pc a R c i d hp hpl h hl)
  have Hq := Lib.hid (fun y : Since w => rleft_calls w y pa lp pc a R c i d hp hpl h hl)
  clear h hp
  have Hun := Lib.hid (fun (us vs : List Int) (h : UseOk lp R us) (k : UseOk lp R vs) => h.unique k)
  rcases few_cases lp R with hb | ⟨hb, hf⟩ | ⟨hb, hf, hR⟩
  · go_enter Try.func5, Try.ntmps5
    go_wp2_with (go_at_call 9; ((with_reducible refine (Ha.out _).mono ?_); rintro _ _ ⟨rfl, y1, rfl⟩))
    go_ret
    exact ⟨rfl, _, rfl⟩
  · rw [hf] at Hf
    clear hf
    go_enter Try.func5, Try.ntmps5
    go_wp2_with (first | (go_at_call 12; ((with_reducible refine (Hf.out _).mono ?_); rintro _ _ ⟨rfl, y1, rfl⟩)) | (go_at_call 9; ((with_reducible refine (Ha.out _).mono ?_); rintro _ _ ⟨rfl, y1, rfl⟩)))
    go_ret
    exact ⟨rfl, _, rfl⟩
  · rw [hf] at Hf
    clear hf
    go_enter Try.func5, Try.ntmps5
    go_upto_region 3 with (go_at_call 12; ((with_reducible refine (Hf.out _).mono ?_); rintro _ _ ⟨rfl, y1, rfl⟩))
    go_upto_region 4 with (go_at_call 16; ((with_reducible refine (Hp.out _).mono ?_); rintro _ _ ⟨us, y2, rfl, rfl, hU⟩; have HOk := Lib.hid hU; clear hU))
    go_upto_region 5 with (go_at_call 17; ((with_reducible refine (Hq.out _).mono ?_); rintro _ _ ⟨vs, y3, rfl, rfl, hV⟩; obtain rfl := Hun.out _ _ HOk.out hV; clear hV))
    clear Hp Hq
    generalize leftV lp R us i d = v at *
    generalize leftE lp R i d = e at *
    have h1 : (v == v) = true := by simp
    have h2 : (e == e) = true := by simp
    go_wp2_with (go_at_call 9; ((with_reducible refine (Ha.out _).mono ?_); rintro _ _ ⟨rfl, y5, rfl⟩))
    go_ret
    exact ⟨rfl, _, rfl⟩
end Go.Proofs.Ytbkfcdheckkjaaa
/- The law PassLeft: Left returns the specified number or error. Conditions: none beyond the row's. -/
namespace Go.Proofs.Ytbkfcdheckkjaaa
open Go.ChangeShapes Go.WideShapes Go.ChangeAt Go.RowKit

set_option maxRecDepth 100000 in
theorem passLeft_lifted (os : Os) (started : os.Started) (H : Type) (enc : TypeId × Value → H) :
    ReturnsInHanded {} Try.checked os 5 .any (Rows.passLeftSpec.pre6 enc Try.prog Try.f5 Rows.passLeftRow.domain false) (Rows.passLeftSpec.post enc Try.prog Try.f5 false true false false) := by
  refine returnsInHanded_of_change (C := Try.checked) own started (by kernel_rfl) Try.func5
    (ChangeSpec.witness6 (enc := enc) (C := Try.checked) false ⟨#[], #[.slice none 0 0, .slice none 0 0, .int .i64 0, .int .i64 0], []⟩ 8 (by kernel_rfl) (by kernel_rfl) (by kernel_rfl) (by kernel_rfl)) ?_
  intro W base args ds gs before hval0 hW _ _
  have hval : ∀ (j : Nat) t v, Try.f5.params[j]? = some t → args[j]? = some v → Value.okWide Try.prog W .any base t v := hval0
  have hW' := hW
  obtain ⟨p, q, hA0, hV, rfl, hfz, hnd⟩ := hW
  have hA : DataW.TrodAll enc Try.prog W 0 (fun _ => true) true Try.f5.params.toList args.toList ds p := hA0
  rw [Try.params5] at hA hval
  obtain ⟨v0, vs0, d0, ds0, p0, q0, hargs, rfl, rfl, h0, r0⟩ := trodAll_cons hA
  obtain ⟨v1, vs1, d1, ds1, p1, q1, rfl, rfl, rfl, h1, r1⟩ := trodAll_cons r0
  obtain ⟨v2, vs2, d2, ds2, p2, q2, rfl, rfl, rfl, h2, r2⟩ := trodAll_cons r1
  obtain ⟨v3, vs3, d3, ds3, p3, q3, rfl, rfl, rfl, h3, r3⟩ := trodAll_cons r2
  obtain ⟨rfl, rfl, rfl⟩ := trodAll_nil r3
  obtain rfl : args = #[v0, v1, v2, v3] := by cases args; simp_all
  obtain ⟨rfl, rfl⟩ := trodVars_none hV
  obtain ⟨a0, l0, c0, rfl, hc0, hcm0, hn0, hr0⟩ := open_passes (hval 0 22 v0 rfl rfl) h0
  obtain ⟨a1, l1, c1, rfl, hc1, hcm1, hn1, hr1, hi1⟩ := open_rides (hval 1 27 v1 rfl rfl) h1
  obtain ⟨x2, rfl, rfl, rfl, w2⟩ := open_int Try.underlying3 (hval 2 3 v2 rfl rfl) h2
  obtain ⟨x3, rfl, rfl, rfl, w3⟩ := open_int Try.underlying3 (hval 3 3 v3 rfl rfl) h3
  refine (passLeft_calls W (Since.self W) a0 l0 c0 a1 l1 c1 x2 x3 hr0 (Nat.le_trans hc0 hcm0) hr1 (Nat.le_trans hc1 hcm1)).mono fun e W' hy => ?_
  exact law_post laidOut (by kernel_rfl) rfl Try.underlying4 rfl hW' rfl hy

theorem passLeft_holds : Rows.PassLeftSaid :=
  OpenClaim.holds_of_wide 5 Try.f5 rfl rfl rfl rfl rfl rfl rfl ⟨rfl, rfl, rfl, rfl, rfl⟩ rfl rfl rfl rfl rfl (by kernel_rfl) Try.func5 (by kernel_rfl)
    (of_decide_eq_true (by kernel_rfl)) (by unfold Func.isWrapper; first | (rw [if_pos (by decide +kernel)]; kernel_rfl) | (rw [if_neg (by decide +kernel)]; exact ⟨rfl, rfl⟩))
    (fun os started H enc _ => passLeft_lifted os started H enc)

#print axioms passLeft_holds
end Go.Proofs.Ytbkfcdheckkjaaa
/- What it means that passes pay rides: plain mathematics for the laws PassQuota, PassLater, PassRiders: no program in sight. -/
namespace Go.Proofs.Ytbkfcdheckkjaaa
open Go.RowKit

theorem filter_two {α : Type} {p q r : α → Bool} : ∀ l : List α, (∀ x ∈ l, p x = true → r x = true) → (∀ x ∈ l, q x = true → r x = true) → (∀ x ∈ l, p x = true → q x = true → False) → (l.filter p).length + (l.filter q).length ≤ (l.filter r).length
  | [], _, _, _ => by simp
  | x :: l, hp, hq, hn => by
    have ih := filter_two l (fun y hy => hp y (by simp [hy])) (fun y hy => hq y (by simp [hy])) (fun y hy => hn y (by simp [hy]))
    have h1 := hp x (by simp)
    have h2 := hq x (by simp)
    have h3 := hn x (by simp)
    simp only [List.filter_cons]
    cases hpx : p x <;> cases hqx : q x <;> cases hrx : r x <;> simp [hpx, hqx, hrx] at h1 h2 h3 ⊢ <;> omega
theorem pd_step {R : List Ride} {o : List Nat} (hO : Ord R o) {m i : Nat} (h : o[m]? = some i) (u : Nat → Int) (k d : Int) : pd R u (o.take (m + 1)) k d = pd R u (o.take m) k d + if u i = k ∧ day (rAt R i) = d then 1 else 0 := by
  have := pd_next hO h u (u i) k d
  rw [← this]
  unfold pd
  congr 1
  refine List.filter_congr fun j _ => ?_
  by_cases hji : j = i
  · subst hji; rw [upd_same]
  · rw [upd_ne _ _ _ hji]
theorem pd_all {R : List Ride} {o : List Nat} (hO : Ord R o) (u : Nat → Int) (k d : Int) : pd R u o k d = cntU R u k d := by
  unfold pd cntU cntTo
  exact (hO.perm.filter _).length_eq
section
variable {lp : List Pass} {R : List Ride} {u : Nat → Int} (hU : IsUse lp R u)
include hU
theorem IsUse.range {i : Nat} (hi : i < R.length) : -1 ≤ u i ∧ u i < lp.length := by
  rcases firstP_cases lp (rAt R i) (cnt R u (rAt R i)) with ⟨k, hk, he, _⟩ | ⟨he, _⟩
  · rw [hU i hi, he]; omega
  · rw [hU i hi, he]; omega
theorem IsUse.pays {i k : Nat} (hi : i < R.length) (h : u i = k) : k < lp.length ∧ vP (pAt lp k) (rAt R i) = true ∧ (cnt R u (rAt R i) k : Int) < (pAt lp k).n := by
  rcases firstP_cases lp (rAt R i) (cnt R u (rAt R i)) with ⟨k', hk, he, hv, _⟩ | ⟨he, _⟩
  · have : k' = k := by rw [hU i hi, he] at h; omega
    subst this
    simp only [Bool.and_eq_true, decide_eq_true_eq] at hv
    exact ⟨hk, hv.1, hv.2⟩
  · rw [hU i hi, he] at h; omega
theorem IsUse.left {i k : Nat} (hi : i < R.length) (hk : k < lp.length) (hv : vP (pAt lp k) (rAt R i) = true) (h : u i < 0 ∨ (k : Int) < u i) : (pAt lp k).n ≤ (cnt R u (rAt R i) k : Int) := by
  rcases firstP_cases lp (rAt R i) (cnt R u (rAt R i)) with ⟨k', hk', he, _, hn⟩ | ⟨he, hn⟩
  · rw [hU i hi, he] at h
    have := hn k (by omega)
    rw [hv, Bool.true_and] at this
    simpa using this
  · have := hn k hk
    rw [hv, Bool.true_and] at this
    simpa using this
theorem IsUse.quota (hid : (R.map fun r : Ride => r.id).Nodup) (hg : ∀ k, k < lp.length → 0 ≤ (pAt lp k).n) {k : Nat} (hk : k < lp.length) (d : Int) : (cntU R u k d : Int) ≤ (pAt lp k).n := by
  obtain ⟨o, hO⟩ := ord_ex R
  have : ∀ m, m ≤ R.length → (pd R u (o.take m) k d : Int) ≤ (pAt lp k).n := by
    intro m
    induction m with
    | zero => intro _; rw [List.take_zero]; exact hg k hk
    | succ m ih =>
      intro hm
      obtain ⟨i, hi⟩ : ∃ i, o[m]? = some i := ⟨_, List.getElem?_eq_getElem (by have := hO.len; omega)⟩
      rw [pd_step hO hi]
      by_cases h : u i = k ∧ day (rAt R i) = d
      · rw [if_pos h]
        have h1 := (hU.pays (hO.lt (List.mem_of_getElem? hi)) h.1).2.2
        rw [cnt_ord hO hid hi, h.2] at h1
        omega
      · rw [if_neg h]; have := ih (by omega); omega
  have h1 := this R.length (Nat.le_refl _)
  rwa [List.take_of_length_le (by rw [hO.len]; exact Nat.le_refl _), pd_all hO] at h1
theorem IsUse.full (hid : (R.map fun r : Ride => r.id).Nodup) (hg : ∀ k, k < lp.length → 0 ≤ (pAt lp k).n) {i k : Nat} (hi : i < R.length) (hk : k < lp.length) (hv : vP (pAt lp k) (rAt R i) = true) (h : u i < 0 ∨ (k : Int) < u i) :
    (cntU R u k (day (rAt R i)) : Int) = (pAt lp k).n ∧ aftTo R u k (rAt R i) R.length = 0 := by
  have h1 := hU.left hi hk hv h
  have h2 := hU.quota hid hg hk (day (rAt R i))
  have h3 : cnt R u (rAt R i) k + aftTo R u k (rAt R i) R.length ≤ cntU R u k (day (rAt R i)) := by
    unfold cnt aftTo cntU cntTo
    refine filter_two _ (fun j _ hj => ?_) (fun j _ hj => ?_) (fun j _ hj hj2 => ?_)
    · simp only [Bool.and_eq_true, decide_eq_true_eq] at hj ⊢; exact ⟨hj.1.2, hj.2⟩
    · simp only [Bool.and_eq_true, decide_eq_true_eq] at hj ⊢; exact hj.1
    · simp only [Bool.and_eq_true, decide_eq_true_eq] at hj hj2
      have := bef_asymm hj.1.1
      rw [hj2.2] at this; cases this
  omega
end
end Go.Proofs.Ytbkfcdheckkjaaa
/- The law PassQuota, walked. -/
namespace Go.Proofs.Ytbkfcdheckkjaaa
open Go.RowKit

set_option maxRecDepth 100000 in
set_option maxHeartbeats 16000000 in
theorem passQuota_calls (w : World) (x : Since w) (pa : Option Addr) (lp : List Pass) (pc : Nat) (a : Option Addr) (R : List Ride) (c : Nat) (hp : PassRow w pa lp) (hpl : lp.length ≤ 9223372036854775807) (h : RideRow w a R) (hl : R.length ≤ 9223372036854775807) :
    Calls Try.prog 6 #[.slice pa lp.length pc, .slice a R.length c] x.w fun o w' => o = .returned (.bool true) ∧ ∃ y : Since w, w' = y.w := by
  have Ha := Lib.hid (fun y : Since w => awake_calls w y)
  have Hf := Lib.hid (fun y : Since w => few_calls w y a R c 30 h hl)
  have Hp := Lib.hid (fun y : Since w => useX_s w y pa lp pc a R c (Since.els hp y) hpl (h.since y) hl)
  have HP := Lib.hid hp
  have HR := Lib.hid h
  clear h hp
  rcases few_cases lp R with hb | ⟨hb, hf⟩ | ⟨hb, hf, hR⟩
  · go_enter Try.func6, Try.ntmps6
    go_wp2_with (go_at_call 9; ((with_reducible refine (Ha.out _).mono ?_); rintro _ _ ⟨rfl, y1, rfl⟩))
    go_ret
    exact ⟨rfl, _, rfl⟩
  · rw [hf] at Hf
    clear hf
    go_enter Try.func6, Try.ntmps6
    go_wp2_with (first | (go_at_call 12; ((with_reducible refine (Hf.out _).mono ?_); rintro _ _ ⟨rfl, y1, rfl⟩)) | (go_at_call 9; ((with_reducible refine (Ha.out _).mono ?_); rintro _ _ ⟨rfl, y1, rfl⟩)))
    go_ret
    exact ⟨rfl, _, rfl⟩
  rw [hf] at Hf
  clear hf
  go_enter Try.func6, Try.ntmps6
  go_upto_region 3 with (go_at_call 12; ((with_reducible refine (Hf.out _).mono ?_); rintro _ _ ⟨rfl, y1, rfl⟩))
  go_upto_region 4 with (go_at_call 13; ((with_reducible refine (Hp.out _).mono ?_); rintro _ _ ⟨ua, uc, us, y2, rfl, rfl, hz, hu, hU⟩; have HU := Lib.hid hu; have HOk := Lib.hid hU; clear hz hu hU))
  clear Hp Hf
  by_cases hz : usesE lp R = 0
  case neg =>
    have hzb : (usesE lp R != 0) = true := by simpa using hz
    have hus := HOk.out.no hz
    subst hus
    clear hz HOk
    generalize usesE lp R = ue at *
    go_wp2_with (go_at_call 9; ((with_reducible refine (Ha.out _).mono ?_); rintro _ _ ⟨rfl, y1, rfl⟩))
    go_ret
    exact ⟨rfl, _, rfl⟩
  obtain ⟨hz1, hz2⟩ := usesE_zero hz
  have Hid := Lib.hid (ridesE_zero hz2).2.1
  have Hs0 := Lib.hid (rides_s0 hz2)
  obtain ⟨hlen, hIs⟩ := HOk.out.ok hz
  have HIs := Lib.hid hIs
  have hlb : ((us.length : Int) != (R.length : Int)) = false := by simp; omega
  have Hlen := Lib.hid hlen
  have Hg := Lib.hid (show ∀ k, k < lp.length → 0 ≤ (pAt lp k).n from fun k hk => by
    have h1 := (goodP_iff _).1 ((passE_zero hz1).2.1 (pAt lp k) (by unfold pAt; rw [List.getD_eq_getElem?_getD, List.getElem?_eq_getElem hk]; exact List.getElem_mem _))
    omega)
  rw [hz]
  clear hz hz1 hz2 hIs hlen HOk
  go_wp2_with fail
  go_loopw [7] (fun i wr => ∃ (k : Nat) (y : Since y2.w), k ≤ R.length ∧ i = .int .i64 k ∧ wr = y.w) (fun i _ => R.length - (intOf i).toNat)
  case atStart => exact ⟨0, Since.self _, by omega, rfl, rfl⟩
  case round =>
    obtain ⟨i, y3, hi, rfl, rfl⟩ := hrel
    by_cases hlt : i < R.length
    · obtain ⟨e, he⟩ : ∃ e, R[i]? = some e := ⟨_, List.getElem?_eq_getElem hlt⟩
      have He := Lib.hid (rAt_eq he)
      obtain ⟨hs0, hs1⟩ := Hs0.out e (List.mem_of_getElem? he)
      obtain ⟨b2, off2, rfl, hb2, hc2⟩ := HU.out i (by have := Hlen.out; omega)
      have rb : ∀ y : Since y2.w, y.w.cell? ⟨b2, off2 + i, none⟩ = some (.int .i64 (at0 us i)) := Since.cell hc2 hb2
      have Hcount := Lib.hid (fun (q : Since y2.w) (k : Int) => count_calls y2.w q a R c (some ⟨b2, off2, none⟩) us uc k e (HR.out.since y2) HU.out (by rw [Hlen.out]; exact Nat.le_refl _) (by omega) Hs0.out hs0 hs1)
      have Hcov := Lib.hid (fun (q : Since y2.w) (p : Pass) => covers_calls y2.w q p e hs0 hs1)
      obtain ⟨b1, off1, rfl, h1'⟩ := Els.ride (HR.out.since y2).c he
      have ra0 := h1'.c0
      have ra1 := h1'.c1
      have ra2 := h1'.c2
      have ra3 := h1'.c3
      have ra4 := h1'.c4
      have ra5 := h1'.c5
      have ra6 := h1'.c6
      have ra7 := h1'.c7
      have ra8 := h1'.c8
      have ra9 := h1'.c9
      have ra10 := h1'.c10
      have ra11 := h1'.c11
      have ra12 := h1'.c12
      have hi0 : (0 : Int) ≤ (i : Int) := by omega
      have hil : (i : Int) < (R.length : Int) := by omega
      have hiu : (i : Int) < (us.length : Int) := by have := Hlen.out; omega
      obtain ⟨hu0, hu1⟩ := HIs.out.range hlt
      clear h1' he hb2 hc2
      rcases (by omega : at0 us i = -1 ∨ 0 ≤ at0 us i) with hui | hui
      · have Hfull := Lib.hid (fun (k : Nat) (hk : k < lp.length) (hv : vP (pAt lp k) e = true) => by
          have := HIs.out.full Hid.out Hg.out hlt hk (by rw [He.out]; exact hv) (by rw [hui]; left; decide)
          rw [He.out] at this; exact this)
        rw [hui] at rb
        clear hu0 hu1 hui
        have Hrb := Lib.hid rb
        go_upto_region 17 with fail
        go_wp2_with fail
        go_loopw [10] (fun s wr => ∃ (k : Nat) (y : Since y2.w), k ≤ lp.length ∧ s = .int .i64 k ∧ wr = y.w) (fun s _ => lp.length - (intOf s).toNat)
        case atStart => exact ⟨0, y3, by omega, rfl, rfl⟩
        case round =>
          obtain ⟨k, y4, hk, rfl, rfl⟩ := hrel
          by_cases hkl : k < lp.length
          · obtain ⟨p, hp⟩ : ∃ p, lp[k]? = some p := ⟨_, List.getElem?_eq_getElem hkl⟩
            obtain ⟨b3, off3, rfl, h2'⟩ := Els.pass (Since.els HP.out y2) hp
            have pa0 := h2'.c0
            have pa1 := h2'.c1
            have pa2 := h2'.c2
            have pa3 := h2'.c3
            have pa4 := h2'.c4
            have pa5 := h2'.c5
            have hk0 : (0 : Int) ≤ (k : Int) := by omega
            have hkl' : (k : Int) < (lp.length : Int) := by omega
            have Hpe := Lib.hid (pAt_eq hp)
            clear h2' hp
            have Hcv := Lib.hid (fun q : Since y2.w => Hcov.out q p)
            cases hcv : vP p e with
            | false =>
              rw [hcv] at Hcv
              clear hcv
              go_wp2_with fail
              refine wp_region_since (by kernel_rfl) (by kernel_rfl) ?_
              repeat (go_big_quiet_step ((go_at_call 19; exact Hcv.out _)))
              refine wpQuiet_nil ?_
              rintro _ ⟨z, rfl⟩
              go_wp2_with fail
              go_roundw
              case rel => exact ⟨k + 1, z, by omega, by go_num, rfl⟩
              case measure => simp [intOf] <;> omega
            | true =>
              have hfl := Hfull.out k hkl (by rw [Hpe.out]; exact hcv)
              rw [Hpe.out] at hfl
              have Hct := Lib.hid (fun q : Since y2.w => Hcount.out q k)
              rw [hfl.1, hfl.2] at Hct
              have hpn : (p.n != p.n) = false := by simp
              rw [hcv] at Hcv
              clear hcv hfl
              go_wp2_with fail
              refine wp_region_since (by kernel_rfl) (by kernel_rfl) ?_
              repeat (go_big_quiet_step ((go_at_call 19; exact Hcv.out _)))
              refine wpQuiet_nil ?_
              rintro _ ⟨z, rfl⟩
              go_wp2_with (go_at_call 18; ((with_reducible refine (Hct.out _).mono ?_); rintro _ _ ⟨rfl, z2, rfl⟩))
              go_roundw
              case rel => exact ⟨k + 1, z2, by omega, by go_num, rfl⟩
              case measure => simp [intOf] <;> omega
          · obtain rfl : k = lp.length := by omega
            go_wp2_with fail
            go_roundw
            case rel => exact ⟨i + 1, y4, by omega, by go_num, rfl⟩
            case measure => simp [intOf] <;> omega
      · obtain ⟨k0, hk0⟩ : ∃ k0 : Nat, at0 us i = k0 := ⟨(at0 us i).toNat, by omega⟩
        have hpays := HIs.out.pays hlt hk0
        rw [He.out] at hpays
        have Hfull := Lib.hid (fun (k : Nat) (hk : k < lp.length) (hv : vP (pAt lp k) e = true) (h : (k : Int) < (k0 : Int)) => by
          have := HIs.out.full Hid.out Hg.out hlt hk (by rw [He.out]; exact hv) (by rw [hk0]; right; exact h)
          rw [He.out] at this; exact this)
        have Hq := Lib.hid (HIs.out.quota Hid.out Hg.out hpays.1 (day e))
        obtain ⟨p0, hp0⟩ : ∃ p, lp[k0]? = some p := ⟨_, List.getElem?_eq_getElem hpays.1⟩
        obtain ⟨b3, off3, rfl, h2'⟩ := Els.pass (Since.els HP.out y2) hp0
        have pz0 := h2'.c0
        have pz1 := h2'.c1
        have pz2 := h2'.c2
        have pz3 := h2'.c3
        have pz4 := h2'.c4
        have pz5 := h2'.c5
        have hv0 := hpays.2.1
        rw [pAt_eq hp0] at hv0 Hq
        have Hct0 := Lib.hid (fun q : Since y2.w => Hcount.out q k0)
        have Hcv0 := Lib.hid (fun q : Since y2.w => Hcov.out q p0)
        rw [hv0] at Hcv0
        rw [hk0] at rb
        have hkz0 : (0 : Int) ≤ (k0 : Int) := by omega
        have hkzl : (k0 : Int) < (lp.length : Int) := by have := hpays.1; omega
        have hkzc : decide (lp.length ≤ k0) = false := decide_eq_false (by have := hpays.1; omega)
        have hkzd : decide ((k0 : Int) < -1) = false := decide_eq_false (by omega)
        have hkzb : decide ((k0 : Int) < 0) = false := decide_eq_false (by omega)
        clear hu0 hu1 hui hk0 hpays hp0 h2' hv0
        generalize cntU R (at0 us) k0 (day e) = n0 at *
        generalize aftTo R (at0 us) k0 e R.length = n1 at *
        have hnb : decide (p0.n < (n0 : Int)) = false := decide_eq_false (by have := Hq.out; omega)
        go_wp2_with fail
        refine wp_region_since (by kernel_rfl) (by kernel_rfl) ?_
        repeat (go_big_quiet_step ((go_at_call 18; exact Hct0.out _)))
        refine wpQuiet_nil ?_
        rintro _ ⟨z0, rfl⟩
        go_wp2_with fail
        refine wp_region_since (by kernel_rfl) (by kernel_rfl) ?_
        repeat (go_big_quiet_step ((go_at_call 19; exact Hcv0.out _)))
        refine wpQuiet_nil ?_
        rintro _ ⟨z1, rfl⟩
        clear pz0 pz1 pz2 pz3 pz4 pz5 Hct0 Hcv0
        go_wp2_with fail
        go_loopw [10] (fun s wr => ∃ (k : Nat) (y : Since y2.w), k ≤ lp.length ∧ s = .int .i64 k ∧ wr = y.w) (fun s _ => lp.length - (intOf s).toNat)
        case atStart => exact ⟨0, z1, by omega, rfl, rfl⟩
        case round =>
          obtain ⟨k, y4, hk, rfl, rfl⟩ := hrel
          by_cases hkl : k < lp.length
          · obtain ⟨p, hp⟩ : ∃ p, lp[k]? = some p := ⟨_, List.getElem?_eq_getElem hkl⟩
            obtain ⟨b4, off4, hbo, h2'⟩ := Els.pass (Since.els HP.out y2) hp
            simp only [Option.some.injEq, Addr.mk.injEq, and_true] at hbo
            obtain ⟨rfl, rfl⟩ := hbo
            have pa0 := h2'.c0
            have pa1 := h2'.c1
            have pa2 := h2'.c2
            have pa3 := h2'.c3
            have pa4 := h2'.c4
            have pa5 := h2'.c5
            have hk0 : (0 : Int) ≤ (k : Int) := by omega
            have hkl' : (k : Int) < (lp.length : Int) := by omega
            have Hpe := Lib.hid (pAt_eq hp)
            clear h2' hp
            have Hcv := Lib.hid (fun q : Since y2.w => Hcov.out q p)
            cases hcv : vP p e with
            | false =>
              rw [hcv] at Hcv
              clear hcv
              go_wp2_with fail
              refine wp_region_since (by kernel_rfl) (by kernel_rfl) ?_
              repeat (go_big_quiet_step ((go_at_call 19; exact Hcv.out _)))
              refine wpQuiet_nil ?_
              rintro _ ⟨z, rfl⟩
              go_wp2_with fail
              go_roundw
              case rel => exact ⟨k + 1, z, by omega, by go_num, rfl⟩
              case measure => simp [intOf] <;> omega
            | true =>
              rcases (by omega : (k : Int) < (k0 : Int) ∨ (k0 : Int) ≤ (k : Int)) with hkk | hkk
              · have hkkb : decide (k < k0) = true := decide_eq_true (by omega)
                have hfl := Hfull.out k hkl (by rw [Hpe.out]; exact hcv) hkk
                rw [Hpe.out] at hfl
                have Hct := Lib.hid (fun q : Since y2.w => Hcount.out q k)
                rw [hfl.1, hfl.2] at Hct
                have hpn : (p.n != p.n) = false := by simp
                rw [hcv] at Hcv
                clear hcv hfl hkk
                go_wp2_with fail
                refine wp_region_since (by kernel_rfl) (by kernel_rfl) ?_
                repeat (go_big_quiet_step ((go_at_call 19; exact Hcv.out _)))
                refine wpQuiet_nil ?_
                rintro _ ⟨z, rfl⟩
                go_wp2_with (go_at_call 18; ((with_reducible refine (Hct.out _).mono ?_); rintro _ _ ⟨rfl, z2, rfl⟩))
                go_roundw
                case rel => exact ⟨k + 1, z2, by omega, by go_num, rfl⟩
                case measure => simp [intOf] <;> omega
              · have hkkb : decide (k < k0) = false := decide_eq_false (by omega)
                rw [hcv] at Hcv
                clear hcv hkk
                go_wp2_with fail
                refine wp_region_since (by kernel_rfl) (by kernel_rfl) ?_
                repeat (go_big_quiet_step ((go_at_call 19; exact Hcv.out _)))
                refine wpQuiet_nil ?_
                rintro _ ⟨z, rfl⟩
                go_wp2_with fail
                go_roundw
                case rel => exact ⟨k + 1, z, by omega, by go_num, rfl⟩
                case measure => simp [intOf] <;> omega
          · obtain rfl : k = lp.length := by omega
            go_wp2_with fail
            go_roundw
            case rel => exact ⟨i + 1, y4, by omega, by go_num, rfl⟩
            case measure => simp [intOf] <;> omega
    · obtain rfl : i = R.length := by omega
      obtain ⟨y5, h5⟩ := y2.trans y3
      rw [h5]
      go_wp2_with (go_at_call 9; ((with_reducible refine (Ha.out _).mono ?_); rintro _ _ ⟨rfl, y6, rfl⟩))
      go_ret
      exact ⟨rfl, _, rfl⟩
end Go.Proofs.Ytbkfcdheckkjaaa
