/- The walks of passes, ninth part: Left. -/
import Derived.Test.YtbkfcdheckkjaaaPsW8
import Derived.Test.YtbkfcdheckkjaaaPsR3
set_option linter.all false
namespace Go.Proofs.Ytbkfcdheckkjaaa
open Go.RowKit

def leftE (lp : List Pass) (R : List Ride) (i d : Int) : Int := if usesE lp R ≠ 0 then usesE lp R else if i < 0 ∨ (lp.length : Int) ≤ i then 7 else if d < 0 ∨ 49709 < d then 1 else 0
def leftV (lp : List Pass) (R : List Ride) (us : List Int) (i d : Int) : Int := if leftE lp R i d ≠ 0 then 0 else if vpd (pAt lp i.toNat) d = false then 0 else (pAt lp i.toNat).n - (cntU R (at0 us) i d : Nat)
def LeftRes (w : World) (lp : List Pass) (R : List Ride) (i d : Int) (o : Ending) (w' : World) : Prop :=
  ∃ (us : List Int) (y : Since w), o = .returned (.tuple #[.int .i64 (leftV lp R us i d), .int .i64 (leftE lp R i d)]) ∧ w' = y.w ∧ UseOk lp R us
theorem ord_ex (R : List Ride) : ∃ o, Ord R o := by
  refine ⟨(List.range R.length).mergeSort fun x y => !bef (rAt R y) (rAt R x), List.mergeSort_perm _ _, ?_⟩
  have := List.pairwise_mergeSort (le := fun x y => !bef (rAt R y) (rAt R x)) (fun a b c h1 h2 => by
    simp only [Bool.not_eq_true'] at h1 h2 ⊢; exact bef_ntrans h2 h1) (fun a b => by
    simp only [Bool.or_eq_true, Bool.not_eq_true']
    cases e : bef (rAt R b) (rAt R a)
    · exact .inl rfl
    · exact .inr (bef_asymm e)) (List.range R.length)
  exact this.imp fun h => by simpa using h
theorem use_ex (lp : List Pass) (R : List Ride) : ∃ u, IsUse lp R u := by
  obtain ⟨o, hO⟩ := ord_ex R
  have : ∀ m, m ≤ R.length → ∃ u, DoneTo lp R o u m := by
    intro m
    induction m with
    | zero => intro _; exact ⟨fun _ => 0, fun i hi => by simp at hi⟩
    | succ m ih =>
      intro hm
      obtain ⟨u, hu⟩ := ih (by omega)
      obtain ⟨i, hi⟩ : ∃ i, o[m]? = some i := ⟨_, List.getElem?_eq_getElem (by have := hO.len; omega)⟩
      exact ⟨_, done_next hO hi hu rfl⟩
  obtain ⟨u, hu⟩ := this R.length (Nat.le_refl _)
  exact ⟨u, done_all hO hu⟩
theorem useOk_any (lp : List Pass) (R : List Ride) : ∃ us, UseOk lp R us := by
  by_cases hz : usesE lp R = 0
  · obtain ⟨u, hu⟩ := use_ex lp R
    exact ⟨_, UseOk.of hz hu⟩
  · exact ⟨[], fun h => (hz h).elim, fun _ => rfl⟩
theorem useOk_ex {lp : List Pass} {R : List Ride} : usesE lp R ≠ 0 → UseOk lp R [] := fun hz => ⟨fun h => (hz h).elim, fun _ => rfl⟩
theorem ret_tuple2 {k k' : IntKind} {a a' b b' : Int} (h : a = a') (h' : b = b') : Ending.returned (.tuple #[.int k a, .int k' b]) = .returned (.tuple #[.int k a', .int k' b']) := by rw [h, h']
set_option maxRecDepth 100000 in
set_option maxHeartbeats 8000000 in
theorem left_calls (w : World) (x : Since w) (pa : Option Addr) (lp : List Pass) (pc : Nat) (a : Option Addr) (R : List Ride) (c : Nat) (i d : Int) (hp : PassRow w pa lp) (hpl : lp.length ≤ 9223372036854775807) (h : RideRow w a R) (hl : R.length ≤ 9223372036854775807) :
    Calls Try.prog 16 #[.slice pa lp.length pc, .slice a R.length c, .int .i64 i, .int .i64 d] x.w (LeftRes w lp R i d) := by
  have HPost := Lib.hid (show ∀ (us : List Int) (y : Since w) (v e : Int), UseOk lp R us → v = leftV lp R us i d → e = leftE lp R i d → LeftRes w lp R i d (.returned (.tuple #[.int .i64 v, .int .i64 e])) y.w from fun us y v e h1 h2 h3 => ⟨us, y, ret_tuple2 h2 h3, rfl, h1⟩)
  have Hc := Lib.hid (fun y : Since w => checked_calls w y pa lp pc a R c hp hpl h hl)
  have HX := Lib.hid (useOk_any lp R)
  have HP := Lib.hid hp
  have HR := Lib.hid h
  clear hp h
  have Hv0 := Lib.hid (show leftE lp R i d ≠ 0 → ∀ us, 0 = leftV lp R us i d from fun h us => by unfold leftV; rw [if_pos h])
  by_cases hz : usesE lp R = 0
  case neg =>
    have hzb : (usesE lp R != 0) = true := by simpa using hz
    have He := Lib.hid (show leftE lp R i d = usesE lp R by unfold leftE; rw [if_pos hz])
    have HU := Lib.hid (useOk_ex hz)
    have Hne := Lib.hid hz
    clear hz
    generalize hq : usesE lp R = ue at *
    clear hq
    go_enter Try.func16, Try.ntmps16
    go_wp2_with fail
    refine (Hc.out _).mono ?_
    rintro _ _ ⟨rfl, y1, rfl⟩
    go_wp2_with fail
    go_ret2
    exact HPost.out [] y1 _ _ HU.out (Hv0.out (by rw [He.out]; exact Hne.out) _) He.out.symm
  obtain ⟨hz1, hz2⟩ := usesE_zero hz
  have Hu := Lib.hid (fun y : Since w => use_calls w y pa lp pc a R c HP.out (passE_zero hz1).1 HR.out (ridesE_zero hz2).1 (ridesE_zero hz2).2.1 (rides_s0 hz2))
  have Hs0 := Lib.hid (rides_s0 hz2)
  have hR256 := (ridesE_zero hz2).1
  have hlp64 := (passE_zero hz1).1
  have Hgood := Lib.hid (passE_zero hz1).2.1
  rw [hz] at Hc
  have Hz := Lib.hid hz
  clear hz hz1 hz2
  have He' := Lib.hid (show leftE lp R i d = if i < 0 ∨ (lp.length : Int) ≤ i then 7 else if d < 0 ∨ 49709 < d then 1 else 0 by unfold leftE; rw [if_neg (by rw [Hz.out]; simp)])
  rcases (by omega : i < 0 ∨ (0 ≤ i ∧ (lp.length : Int) ≤ i) ∨ (0 ≤ i ∧ i < lp.length)) with hi | ⟨hi, hi'⟩ | ⟨hi, hi'⟩
  case inr.inr =>
    replace He' := Lib.hid (show leftE lp R i d = if d < 0 ∨ 49709 < d then 1 else 0 by rw [He'.out, if_neg (by omega)])
    obtain ⟨k, rfl⟩ : ∃ k : Nat, i = k := ⟨i.toNat, by omega⟩
    have hk : k < lp.length := by omega
    by_cases hd : inB d 0 49709 = true
    case neg =>
      have Hd := Lib.hid (show inB d 0 49709 = false by cases hh : inB d 0 49709; rfl; exact absurd hh hd)
      have He := Lib.hid (show leftE lp R k d = 1 by
        rw [He'.out, if_pos]
        have := Hd.out
        unfold inB at this
        simp at this; omega)
      clear hd
      go_enter Try.func16, Try.ntmps16
      go_wp2_with fail
      refine (Hc.out _).mono ?_
      rintro _ _ ⟨rfl, y1, rfl⟩
      go_wp2_with fail
      refine (in_calls w y1 d 0 49709).mono ?_
      rintro _ _ ⟨rfl, y2, rfl⟩
      rw [Hd.out]
      go_wp2_with fail
      go_ret2
      obtain ⟨us, hus⟩ := HX.out
      exact HPost.out us y2 _ _ hus (Hv0.out (by rw [He.out]; simp) _) He.out.symm
    have Hd := Lib.hid hd
    have He := Lib.hid (show leftE lp R k d = 0 by
      rw [He'.out, if_neg]
      have := Hd.out
      unfold inB at this
      simp at this; omega)
    obtain ⟨p, hp⟩ : ∃ p, lp[k]? = some p := ⟨_, List.getElem?_eq_getElem hk⟩
    obtain ⟨b2, off2, rfl, h2'⟩ := Els.pass HP.out hp
    have pa0 := h2'.c0
    have pa1 := h2'.c1
    have pa2 := h2'.c2
    have pa3 := h2'.c3
    have pa4 := h2'.c4
    have pa5 := h2'.c5
    have Hpe := Lib.hid (pAt_eq hp)
    have hpg := (goodP_iff p).1 (Hgood.out p (List.mem_of_getElem? hp))
    obtain ⟨-, -, -, -, hn1, hn2, -⟩ := hpg
    have hk0 : (0 : Int) ≤ (k : Int) := by omega
    have hkl : (k : Int) < (lp.length : Int) := by omega
    have Hv := Lib.hid (show ∀ us, leftV lp R us k d = if vpd p d = false then 0 else p.n - (cntU R (at0 us) k d : Nat) from fun us => by
      unfold leftV; rw [if_neg (by rw [He.out]; simp), show (k : Int).toNat = k by omega, Hpe.out])
    clear hd h2' hp Hgood Hpe
    cases hvp : vpd p d with
    | false =>
      have Hvp := Lib.hid hvp
      clear hvp
      go_enter Try.func16, Try.ntmps16
      go_wp2_with fail
      refine (Hc.out _).mono ?_
      rintro _ _ ⟨rfl, y1, rfl⟩
      go_wp2_with fail
      refine (in_calls w y1 d 0 49709).mono ?_
      rintro _ _ ⟨rfl, y2, rfl⟩
      rw [Hd.out]
      go_wp2_with fail
      refine (valid_calls w y2 p d).mono ?_
      rintro _ _ ⟨rfl, y3, rfl⟩
      rw [Hvp.out]
      go_wp2_with fail
      go_ret2
      obtain ⟨us, hus⟩ := HX.out
      exact HPost.out us y3 _ _ hus (by rw [Hv.out, if_pos Hvp.out]) He.out.symm
    | true =>
      have Hvp := Lib.hid hvp
      clear hvp
      go_enter Try.func16, Try.ntmps16
      go_wp2_with fail
      refine (Hc.out _).mono ?_
      rintro _ _ ⟨rfl, y1, rfl⟩
      go_wp2_with fail
      refine (in_calls w y1 d 0 49709).mono ?_
      rintro _ _ ⟨rfl, y2, rfl⟩
      rw [Hd.out]
      go_wp2_with fail
      refine (valid_calls w y2 p d).mono ?_
      rintro _ _ ⟨rfl, y3, rfl⟩
      rw [Hvp.out]
      go_wp2_with fail
      refine (Hu.out y3).mono ?_
      rintro _ _ ⟨a2, cap, y4, u, rfl, rfl, hU, hRow⟩
      have HU := Lib.hid hU; have HRow := Lib.hid hRow
      clear hU hRow
      clear Hc Hu
      go_wp2_with fail
      go_loopw [11, 51] (fun n i wr => ∃ (m : Nat) (y : Since y4.w), m ≤ R.length ∧ i = .int .i64 m ∧ n = .int .i64 (p.n - (cntTo R u k d m : Nat)) ∧ wr = y.w) (fun _ i _ => R.length - (intOf i).toNat)
      case atStart => exact ⟨0, Since.self _, by omega, rfl, by show Value.int _ p.n = Value.int _ (p.n - ((0 : Nat) : Int)); rw [show p.n - ((0 : Nat) : Int) = p.n by omega], rfl⟩
      case round =>
        obtain ⟨m, y, hm, rfl, rfl, rfl⟩ := hrel
        by_cases hlt : m < R.length
        · obtain ⟨e, he⟩ : ∃ e, R[m]? = some e := ⟨_, List.getElem?_eq_getElem hlt⟩
          obtain ⟨b1, off1, rfl, h1'⟩ := Els.ride (HR.out.since y4).c he
          have ra0 := h1'.c0
          have ra1 := h1'.c1
          have ra2 := h1'.c2
          have ra3 := h1'.c3
          have ra4 := h1'.c4
          have ra5 := h1'.c5
          have ra6 := h1'.c6
          have ra7 := h1'.c7
          have ra8 := h1'.c8
          have ra9 := h1'.c9
          have ra10 := h1'.c10
          have ra11 := h1'.c11
          have ra12 := h1'.c12
          obtain ⟨b3, off3, rfl, hb3, hc3⟩ := HRow.out m hlt
          have rb : ∀ y : Since y4.w, y.w.cell? ⟨b3, off3 + m, none⟩ = some (.int .i64 (u m)) := Since.cell hc3 hb3
          have hm0 : (0 : Int) ≤ (m : Int) := by omega
          have hml : (m : Int) < (R.length : Int) := by omega
          have Hx := Lib.hid (cntTo_next R u k d m)
          rw [rAt_eq he] at Hx
          have Hle := Lib.hid (cntTo_le R u k d m)
          obtain ⟨hs0, hs1⟩ := Hs0.out e (List.mem_of_getElem? he)
          have hc0 : -1000 ≤ p.n - (cntTo R u k d m : Int) := by have := Hle.out; omega
          have hc1 : p.n - (cntTo R u k d m : Int) ≤ 1000 := by omega
          clear h1' he hb3 hc3
          by_cases hu : u m = (k : Int)
          · have hub : (u m == (k : Int)) = true := by simpa using hu
            by_cases hd2 : day e = d
            · have hdb : (day e == d) = true := by simpa using hd2
              have Hn := Lib.hid (show p.n - (cntTo R u k d (m + 1) : Int) = p.n - (cntTo R u k d m : Int) - 1 by rw [Hx.out, if_pos ⟨hu, hd2⟩]; push_cast; omega)
              clear hu hd2 Hx
              go_wp2_with fail
              refine (day_calls y4.w y e hs0 hs1).mono ?_
              rintro _ _ ⟨rfl, z, rfl⟩
              go_wp2_with fail
              go_roundw
              case rel => exact ⟨m + 1, z, by omega, by go_num, by rw [Hn.out], rfl⟩
              case measure => simp [intOf] <;> omega
            · have hdb : (day e == d) = false := by simpa using hd2
              have Hn := Lib.hid (show cntTo R u k d (m + 1) = cntTo R u k d m by rw [Hx.out, if_neg (fun h => hd2 h.2)]; rfl)
              clear hu hd2 Hx
              go_wp2_with fail
              refine (day_calls y4.w y e hs0 hs1).mono ?_
              rintro _ _ ⟨rfl, z, rfl⟩
              go_wp2_with fail
              go_roundw
              case rel => exact ⟨m + 1, z, by omega, by go_num, by rw [Hn.out], rfl⟩
              case measure => simp [intOf] <;> omega
          · have hub : (u m == (k : Int)) = false := by simpa using hu
            have Hn := Lib.hid (show cntTo R u k d (m + 1) = cntTo R u k d m by rw [Hx.out, if_neg (fun h => hu h.1)]; rfl)
            clear hu Hx
            go_wp2_with fail
            go_roundw
            case rel => exact ⟨m + 1, y, by omega, by go_num, by rw [Hn.out], rfl⟩
            case measure => simp [intOf] <;> omega
        · obtain rfl : m = R.length := by omega
          go_wp2_with fail
          go_ret2
          obtain ⟨yy, hyy⟩ := y4.trans y
          rw [hyy]
          have Hcg := Lib.hid (show cntTo R (at0 ((List.range R.length).map u)) k d R.length = cntTo R u k d R.length by
            unfold cntTo
            congr 1
            refine List.filter_congr fun j hj => ?_
            rw [at0_range u _ j (List.mem_range.1 hj)])
          exact HPost.out ((List.range R.length).map u) yy _ _ (UseOk.of Hz.out HU.out) (by rw [Hv.out, if_neg (by rw [Hvp.out]; simp)]; show _ = p.n - ((cntTo R (at0 ((List.range R.length).map u)) k d R.length : Nat) : Int); rw [Hcg.out]) He.out.symm
  all_goals
    have He := Lib.hid (show leftE lp R i d = 7 by rw [He'.out, if_pos (by omega)])
    go_enter Try.func16, Try.ntmps16
    go_wp2_with fail
    refine (Hc.out _).mono ?_
    rintro _ _ ⟨rfl, y1, rfl⟩
    go_wp2_with fail
    go_ret2
    obtain ⟨us, hus⟩ := HX.out
    exact HPost.out us y1 _ _ hus (Hv0.out (by rw [He.out]; simp) _) He.out.symm
end Go.Proofs.Ytbkfcdheckkjaaa
