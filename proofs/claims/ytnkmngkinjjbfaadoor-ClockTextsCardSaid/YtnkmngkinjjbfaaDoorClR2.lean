/- The reference of windows, second part: equal lists. -/
import Derived.Test.YtnkmngkinjjbfaaDoorClR1
set_option linter.all false
namespace Go.Proofs.YtnkmngkinjjbfaaDoor
open Go.RowKit

set_option maxHeartbeats 4000000 in
theorem sameW_calls (w : World) (x : Since w) (a : Option Addr) (us : List Win) (c : Nat) (a2 : Option Addr) (vs : List Win) (c2 : Nat) (h : WinRow w a us) (hv : WinRow w a2 vs) (hl : us.length ≤ 9223372036854775807) (_hl2 : vs.length ≤ 9223372036854775807) :
    Calls Tryd.prog 33 #[.slice a us.length c, .slice a2 vs.length c2] x.w fun o w' => o = .returned (.bool (decide (us = vs))) ∧ ∃ y : Since w, w' = y.w := by
  have HU := Lib.hid h
  have HV := Lib.hid hv
  clear h hv
  by_cases hne : us.length = vs.length
  case neg =>
    have hb : ((us.length : Int) != (vs.length : Int)) = true := by simp; omega
    have Hr := Lib.hid (show decide (us = vs) = false from decide_eq_false fun h => hne (by rw [h]))
    clear hne
    go_enter Tryd.func33, Tryd.ntmps33
    go_wp2_with fail
    go_ret
    exact ⟨ret_bool Hr.out.symm, _, rfl⟩
  have hb : ((us.length : Int) != (vs.length : Int)) = false := by simp; omega
  have Hne := Lib.hid hne
  clear hne
  go_enter Tryd.func33, Tryd.ntmps33
  go_wp2_with fail
  go_loopw [5] (fun i wr => ∃ (k : Nat) (y : Since w), k ≤ us.length ∧ i = .int .i64 k ∧ wr = y.w ∧ ∀ j, j < k → us[j]? = vs[j]?) (fun i _ => us.length - (intOf i).toNat)
  case atStart => exact ⟨0, _, by omega, rfl, rfl, fun j hj => by omega⟩
  case round =>
    obtain ⟨k, y, hk, rfl, rfl, hok⟩ := hrel
    have Hok := Lib.hid hok; clear hok
    by_cases hlt : k < us.length
    · obtain ⟨e, he⟩ : ∃ e, us[k]? = some e := ⟨_, List.getElem?_eq_getElem hlt⟩
      obtain ⟨g, hg⟩ : ∃ g, vs[k]? = some g := ⟨_, List.getElem?_eq_getElem (by have := Hne.out; omega)⟩
      obtain ⟨b1, off1, rfl, h1'⟩ := Els.win HU.out he
      obtain ⟨b2, off2, rfl, h2'⟩ := Els.win HV.out hg
      have ra0 := h1'.c0
      have ra1 := h1'.c1
      have rb0 := h2'.c0
      have rb1 := h2'.c1
      have hk0 : (0 : Int) ≤ (k : Int) := by omega
      have hkl : (k : Int) < (us.length : Int) := by omega
      have hkn : (k : Int) < (vs.length : Int) := by have := Hne.out; omega
      have He := Lib.hid (And.intro he hg)
      have hq := win_equal e.f e.t g.f g.t
      have hgd := win_guard
      have hdec : (decide (e.f = g.f) && decide (e.t = g.t)) = decide (e = g) := by
        rw [Bool.eq_iff_iff, Bool.and_eq_true, decide_eq_true_eq, decide_eq_true_eq, decide_eq_true_eq]
        constructor
        · rintro ⟨h1, h2⟩; cases e; cases g; simp at h1 h2; simp [h1, h2]
        · rintro rfl; exact ⟨rfl, rfl⟩
      rw [hdec] at hq
      clear h1' h2' he hg hdec
      by_cases heq : e = g
      · rw [decide_eq_true heq] at hq
        have Hok2 := Lib.hid (show ∀ j, j < k + 1 → us[j]? = vs[j]? from fun j hj => by
          by_cases hjk : j < k
          · exact Hok.out j hjk
          · obtain rfl : j = k := by omega
            rw [He.out.1, He.out.2, heq])
        clear heq
        go_wp2_with fail
        refine wp_region_since (by kernel_rfl) (by kernel_rfl) ?_
        repeat (go_big_quiet_step (fail))
        refine wpQuiet_nil ?_
        rintro _ ⟨z, rfl⟩
        go_wp2_with fail
        go_roundw
        case rel => exact ⟨k + 1, z, by omega, by go_num, rfl, Hok2.out⟩
        case measure => simp [intOf] <;> omega
      · rw [decide_eq_false heq] at hq
        have Hr := Lib.hid (show decide (us = vs) = false from decide_eq_false fun h => heq (by have h1 := He.out.1; rw [h, He.out.2] at h1; cases h1; rfl))
        clear heq
        go_wp2_with fail
        refine wp_region_since (by kernel_rfl) (by kernel_rfl) ?_
        repeat (go_big_quiet_step (fail))
        refine wpQuiet_nil ?_
        rintro _ ⟨z, rfl⟩
        go_wp2_with fail
        go_ret
        exact ⟨ret_bool Hr.out.symm, _, rfl⟩
    · obtain rfl : k = us.length := by omega
      have Hr := Lib.hid (show decide (us = vs) = true from decide_eq_true (List.ext_getElem? fun i => by
        by_cases hi : i < us.length
        · exact Hok.out i hi
        · rw [List.getElem?_eq_none (by omega), List.getElem?_eq_none (by have := Hne.out; omega)]))
      go_wp2_with fail
      go_ret
      exact ⟨ret_bool Hr.out.symm, _, rfl⟩
end Go.Proofs.YtnkmngkinjjbfaaDoor
