/- The reference's check of a list of rides. -/
import Derived.Test.YtbkfcdheckkjaaaPsW3
import Derived.Test.YtbkfcdheckkjaaaRdR6
set_option linter.all false
namespace Go.Proofs.Ytbkfcdheckkjaaa
open Go.RowKit

set_option maxRecDepth 100000 in
set_option maxHeartbeats 4000000 in
theorem rrides_calls (w : World) (x : Since w) (a : Option Addr) (l : List Ride) (c : Nat) (h : RideRow w a l) (hl : l.length ≤ 9223372036854775807) :
    Calls Try.prog 29 #[.slice a l.length c] x.w fun o w' => o = .returned (.int .i64 (ridesE l)) ∧ ∃ y : Since w, w' = y.w := by
  have HL := Lib.hid h
  clear h
  by_cases hbig : 256 < l.length
  · have Hr := Lib.hid (show ridesE l = 8 by unfold ridesE; rw [if_pos hbig])
    go_enter Try.func29, Try.ntmps29
    go_wp2_with fail
    go_ret
    exact ⟨ret_int Hr.out.symm, _, rfl⟩
  have hl256 : l.length ≤ 256 := by omega
  have HP := Lib.hid (fun hok : (∀ j, j < l.length → ∀ e, l[j]? = some e → rideE e = 0) => ridesE_ok hl256 hok)
  clear hbig hl
  go_enter Try.func29, Try.ntmps29
  go_wp2_with fail
  go_loopw [3] (fun i wr => ∃ (k : Nat) (y : Since w), k ≤ l.length ∧ i = .int .i64 k ∧ wr = y.w ∧ ∀ j, j < k → ∀ e, l[j]? = some e → rideE e = 0) (fun i _ => l.length - (intOf i).toNat)
  case atStart => exact ⟨0, _, by omega, rfl, rfl, fun j hj => by omega⟩
  case round =>
    obtain ⟨k, y, hk, rfl, rfl, hok⟩ := hrel
    have Hok := Lib.hid hok; clear hok
    by_cases hlt : k < l.length
    · obtain ⟨e, he⟩ : ∃ e, l[k]? = some e := ⟨_, List.getElem?_eq_getElem hlt⟩
      obtain ⟨b1, off1, rfl, h1'⟩ := Els.ride HL.out.c he
      have ra0 := h1'.c0
      have ra1 := h1'.c1
      have ra2 := h1'.c2
      have ra3 := h1'.c3
      have ra4 := h1'.c4
      have ra5 := h1'.c5
      have ra6 := h1'.c6
      have ra7 := h1'.c7
      have ra8 := h1'.c8
      have ra9 := h1'.c9
      have ra10 := h1'.c10
      have ra11 := h1'.c11
      have ra12 := h1'.c12
      have hk0 : (0 : Int) ≤ (k : Int) := by omega
      have hkl : (k : Int) < (l.length : Int) := by omega
      have He := Lib.hid he
      have Hat := Lib.hid (HL.out.r e (List.mem_of_getElem? he))
      clear h1' he
      by_cases hg : rideE e = 0
      · have Hg := Lib.hid hg; clear hg
        go_wp2_with fail
        refine (rcheck_calls w y e Hat.out).mono ?_
        rintro _ _ ⟨rfl, z, rfl⟩
        rw [Hg.out]
        go_wp2_with fail
        go_roundw
        case rel => exact ⟨k + 1, z, by omega, by go_num, rfl, upto_next (P := fun e : Ride => rideE e = 0) Hok.out He.out Hg.out⟩
        case measure => simp [intOf] <;> omega
      · have Hr := Lib.hid (ridesE_err hl256 He.out hg Hok.out)
        have heb : (rideE e != 0) = true := by simpa using hg
        clear hg
        go_wp2_with fail
        refine (rcheck_calls w y e Hat.out).mono ?_
        rintro _ _ ⟨rfl, z, rfl⟩
        generalize rideE e = re at *
        go_wp2_with fail
        go_ret
        exact ⟨ret_int Hr.out.symm, _, rfl⟩
    · obtain rfl : k = l.length := by omega
      have HQ := Lib.hid (HP.out Hok.out)
      clear Hok HP
      go_wp2_with fail
      go_loopw [5] (fun i wr => ∃ (k : Nat) (y : Since w), k ≤ l.length ∧ i = .int .i64 k ∧ wr = y.w ∧ ((l.map fun r : Ride => r.id).take k).Nodup) (fun i _ => l.length - (intOf i).toNat)
      case atStart => exact ⟨0, y, by omega, rfl, rfl, by simp⟩
      case round =>
        obtain ⟨k, y, hk, rfl, rfl, hnd⟩ := hrel
        have Hnd := Lib.hid hnd; clear hnd
        by_cases hlt : k < l.length
        · obtain ⟨e, he⟩ : ∃ e, l[k]? = some e := ⟨_, List.getElem?_eq_getElem hlt⟩
          obtain ⟨b1, off1, rfl, h1'⟩ := Els.ride HL.out.c he
          have ra0 := h1'.c0
          have hk0 : (0 : Int) ≤ (k : Int) := by omega
          have hkl : (k : Int) < (l.length : Int) := by omega
          have He := Lib.hid (map_at (f := fun r : Ride => r.id) he)
          have Hnx := Lib.hid (nodup_take_next He.out)
          clear h1' he
          go_wp2_with fail
          go_loopw [6] (fun i wr => ∃ (m : Nat) (y : Since w), m ≤ k ∧ i = .int .i64 m ∧ wr = y.w ∧ ∀ j, j < m → ∀ v, (l.map fun r : Ride => r.id)[j]? = some v → v ≠ e.id) (fun i _ => k - (intOf i).toNat)
          case atStart => exact ⟨0, y, by omega, rfl, rfl, fun j hj => by omega⟩
          case round =>
            obtain ⟨m, y, hm, rfl, rfl, hno⟩ := hrel
            have Hno := Lib.hid hno; clear hno
            by_cases hlm : m < k
            · obtain ⟨e2, he2⟩ : ∃ e, l[m]? = some e := ⟨_, List.getElem?_eq_getElem (by omega)⟩
              obtain ⟨b2, off2, hbo, h2'⟩ := Els.ride HL.out.c he2
              simp only [Option.some.injEq, Addr.mk.injEq, and_true] at hbo
              obtain ⟨rfl, rfl⟩ := hbo
              have rb0 := h2'.c0
              have hm0 : (0 : Int) ≤ (m : Int) := by omega
              have hml : (m : Int) < (l.length : Int) := by omega
              have hmk : (m : Int) < (k : Int) := by omega
              have He2 := Lib.hid (map_at (f := fun r : Ride => r.id) he2)
              clear h2' he2
              by_cases hee : e.id = e2.id
              · have hb : (e.id == e2.id) = true := by simpa using hee
                have Hr := Lib.hid (show ridesE l = 6 by
                  rw [HQ.out, if_pos (dupB_true fun h => (Hnx.out.1 (nodup_of_take h)).2 (by rw [hee]; exact List.mem_of_getElem? (by rw [List.getElem?_take, if_pos hlm]; exact He2.out)))])
                clear hee
                go_wp2_with fail
                refine wp_region_since (by kernel_rfl) (by kernel_rfl) ?_
                repeat (go_big_quiet_step (fail))
                refine wpQuiet_nil ?_
                rintro _ ⟨z, rfl⟩
                go_wp2_with fail
                go_ret
                exact ⟨ret_int Hr.out.symm, _, rfl⟩
              · have hb : (e.id == e2.id) = false := by simpa using hee
                have Hno2 := Lib.hid (show ∀ j, j < m + 1 → ∀ v, (l.map fun r : Ride => r.id)[j]? = some v → v ≠ e.id from upto_next (P := fun v => v ≠ e.id) Hno.out He2.out (fun h => hee h.symm))
                clear hee
                go_wp2_with fail
                refine wp_region_since (by kernel_rfl) (by kernel_rfl) ?_
                repeat (go_big_quiet_step (fail))
                refine wpQuiet_nil ?_
                rintro _ ⟨z, rfl⟩
                go_wp2_with fail
                go_roundw
                case rel => exact ⟨m + 1, z, by omega, by go_num, rfl, Hno2.out⟩
                case measure => simp [intOf] <;> omega
            · obtain rfl : m = k := by omega
              have Hnd2 := Lib.hid (Hnx.out.2 ⟨Hnd.out, fun hm => by
                obtain ⟨j, hj⟩ := List.mem_iff_getElem?.1 hm
                rw [List.getElem?_take] at hj
                split at hj
                · rename_i hjm; exact Hno.out j hjm _ hj rfl
                · cases hj⟩)
              go_wp2_with fail
              go_roundw
              case rel => exact ⟨m + 1, y, by omega, by go_num, rfl, Hnd2.out⟩
              case measure => simp [intOf] <;> omega
        · obtain rfl : k = l.length := by omega
          have Hr := Lib.hid (show ridesE l = 0 by
            have h1 := Hnd.out
            rw [List.take_of_length_le (by simp)] at h1
            rw [HQ.out, if_neg (by rw [dupB_false h1]; simp)])
          go_wp2_with fail
          go_ret
          exact ⟨ret_int Hr.out.symm, _, rfl⟩
end Go.Proofs.Ytbkfcdheckkjaaa
