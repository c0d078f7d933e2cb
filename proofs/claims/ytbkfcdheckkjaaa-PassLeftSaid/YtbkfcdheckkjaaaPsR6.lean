/- The reference of passes: what is left. -/
import Derived.Test.YtbkfcdheckkjaaaPsR5
set_option linter.all false
namespace Go.Proofs.Ytbkfcdheckkjaaa
open Go.RowKit

set_option maxRecDepth 100000 in
set_option maxHeartbeats 8000000 in
theorem rleft_calls (w : World) (x : Since w) (pa : Option Addr) (lp : List Pass) (pc : Nat) (a : Option Addr) (R : List Ride) (c : Nat) (i d : Int) (hp : PassRow w pa lp) (hpl : lp.length ≤ 9223372036854775807) (h : RideRow w a R) (hl : R.length ≤ 9223372036854775807) :
    Calls Try.prog 17 #[.slice pa lp.length pc, .slice a R.length c, .int .i64 i, .int .i64 d] x.w (LeftRes w lp R i d) := by
  have HPost := Lib.hid (show ∀ (us : List Int) (y : Since w) (v e : Int), UseOk lp R us → v = leftV lp R us i d → e = leftE lp R i d → LeftRes w lp R i d (.returned (.tuple #[.int .i64 v, .int .i64 e])) y.w from fun us y v e h1 h2 h3 => ⟨us, y, ret_tuple2 h2 h3, rfl, h1⟩)
  have Hu := Lib.hid (fun y : Since w => ruse_calls w y pa lp pc a R c hp hpl h hl)
  have HP := Lib.hid hp
  have HR := Lib.hid h
  clear hp h
  have Hv0 := Lib.hid (show leftE lp R i d ≠ 0 → ∀ us, 0 = leftV lp R us i d from fun h us => by unfold leftV; rw [if_pos h])
  by_cases hz : usesE lp R = 0
  case neg =>
    have hzb : (usesE lp R != 0) = true := by simpa using hz
    have He := Lib.hid (show leftE lp R i d = usesE lp R by unfold leftE; rw [if_pos hz])
    have Hne := Lib.hid hz
    clear hz
    go_enter Try.func17, Try.ntmps17
    go_wp2_with fail
    refine (Hu.out _).mono ?_
    rintro _ _ ⟨a2, cap, us, y1, rfl, rfl, hrow, hus⟩
    have HU := Lib.hid hus
    clear hrow hus
    generalize hq : usesE lp R = ue at *
    clear hq
    go_wp2_with fail
    go_ret2
    exact HPost.out us y1 _ _ HU.out (Hv0.out (by rw [He.out]; exact Hne.out) _) He.out.symm
  obtain ⟨hz1, hz2⟩ := usesE_zero hz
  have Hs0 := Lib.hid (rides_s0 hz2)
  have hR256 := (ridesE_zero hz2).1
  have hlp64 := (passE_zero hz1).1
  have Hgood := Lib.hid (passE_zero hz1).2.1
  have Hz := Lib.hid hz
  clear hz hz1 hz2
  have He' := Lib.hid (show leftE lp R i d = if i < 0 ∨ (lp.length : Int) ≤ i then 7 else if d < 0 ∨ 49709 < d then 1 else 0 by unfold leftE; rw [if_neg (by rw [Hz.out]; simp)])
  go_enter Try.func17, Try.ntmps17
  go_wp2_with fail
  refine (Hu.out _).mono ?_
  rintro _ _ ⟨a2, cap, us, y1, rfl, rfl, hrow, hus⟩
  rw [Hz.out]
  have HU := Lib.hid hus; have HRow := Lib.hid hrow
  have HL := Lib.hid (hus.ok Hz.out).1
  clear hus hrow Hu
  rcases (by omega : i < 0 ∨ (0 ≤ i ∧ (lp.length : Int) ≤ i) ∨ (0 ≤ i ∧ i < lp.length)) with hi | ⟨hi, hi'⟩ | ⟨hi, hi'⟩
  case inr.inr =>
    replace He' := Lib.hid (show leftE lp R i d = if d < 0 ∨ 49709 < d then 1 else 0 by rw [He'.out, if_neg (by omega)])
    obtain ⟨k, rfl⟩ : ∃ k : Nat, i = k := ⟨i.toNat, by omega⟩
    have hk : k < lp.length := by omega
    rcases (by omega : d < 0 ∨ (0 ≤ d ∧ 49709 < d) ∨ (0 ≤ d ∧ d ≤ 49709)) with hd | ⟨hd, hd'⟩ | ⟨hd, hd'⟩
    case inr.inr =>
      have He := Lib.hid (show leftE lp R k d = 0 by rw [He'.out, if_neg (by omega)])
      obtain ⟨p, hp⟩ : ∃ p, lp[k]? = some p := ⟨_, List.getElem?_eq_getElem hk⟩
      obtain ⟨b2, off2, rfl, h2'⟩ := Els.pass (Since.els HP.out y1) hp
      have pa0 := h2'.c0
      have pa1 := h2'.c1
      have pa2 := h2'.c2
      have pa3 := h2'.c3
      have pa4 := h2'.c4
      have pa5 := h2'.c5
      have Hpe := Lib.hid (pAt_eq hp)
      have hpg := (goodP_iff p).1 (Hgood.out p (List.mem_of_getElem? hp))
      obtain ⟨-, -, -, -, hn1, hn2, -⟩ := hpg
      have hk0 : (0 : Int) ≤ (k : Int) := by omega
      have hkl : (k : Int) < (lp.length : Int) := by omega
      have Hv := Lib.hid (show ∀ us, leftV lp R us k d = if vpd p d = false then 0 else p.n - (cntU R (at0 us) k d : Nat) from fun us => by
        unfold leftV; rw [if_neg (by rw [He.out]; simp), show (k : Int).toNat = k by omega, Hpe.out])
      clear h2' hp Hgood Hpe
      rcases (by omega : d < p.f ∨ (p.f ≤ d ∧ p.t ≤ d) ∨ (p.f ≤ d ∧ d < p.t)) with hv | ⟨hv, hv'⟩ | ⟨hv, hv'⟩
      case inr.inr =>
        have Hvp := Lib.hid (show vpd p d = true by unfold vpd; simp; omega)
        have hcl := cntTo_le R (at0 us) k d R.length
        have Hpc := Lib.hid (fun q : Since y1.w => rpaid_calls y1.w q a R c a2 us.length cap (at0 us) k d (HR.out.since y1) HRow.out (by rw [HL.out]; exact Nat.le_refl _) hR256 Hs0.out)
        have hcl2 : (cntU R (at0 us) k d : Int) ≤ 256 := by have := hcl; simp only [cntU]; omega
        have hcl0 : 0 ≤ (cntU R (at0 us) k d : Int) := by omega
        clear hcl
        generalize hgc : cntU R (at0 us) k d = cc at *
        have Hgc := Lib.hid hgc
        clear hgc
        obtain ⟨q1, hq0⟩ := Since.refl y1.w
        rw [hq0]
        clear hq0
        go_wp2_with fail
        refine wp_region_since (by kernel_rfl) (by kernel_rfl) ?_
        repeat (go_big_quiet_step ((go_at_call 32; exact Hpc.out _)))
        refine wpQuiet_nil ?_
        rintro _ ⟨z, rfl⟩
        go_wp2_with fail
        go_ret2
        obtain ⟨yy, hyy⟩ := y1.trans z
        rw [hyy]
        exact HPost.out us yy _ _ HU.out (by rw [Hv.out, if_neg (by rw [Hvp.out]; simp), Hgc.out]) He.out.symm
      all_goals
        have Hvp := Lib.hid (show vpd p d = false by unfold vpd; simp; omega)
        obtain ⟨q1, hq0⟩ := Since.refl y1.w
        rw [hq0]
        clear hq0
        go_wp2_with fail
        go_ret2
        obtain ⟨yy, hyy⟩ := y1.trans q1
        rw [hyy]
        exact HPost.out us yy _ _ HU.out (by rw [Hv.out, if_pos Hvp.out]) He.out.symm
    all_goals
      have He := Lib.hid (show leftE lp R k d = 1 by rw [He'.out, if_pos (by omega)])
      go_wp2_with fail
      go_ret2
      exact HPost.out us y1 _ _ HU.out (Hv0.out (by rw [He.out]; simp) _) He.out.symm
  all_goals
    have He := Lib.hid (show leftE lp R i d = 7 by rw [He'.out, if_pos (by omega)])
    go_wp2_with fail
    go_ret2
    exact HPost.out us y1 _ _ HU.out (Hv0.out (by rw [He.out]; simp) _) He.out.symm
end Go.Proofs.Ytbkfcdheckkjaaa
