/- The reference of passes: the next ride, and which pass pays which ride. -/
import Derived.Test.YtbkfcdheckkjaaaPsR3
import Derived.Test.YtbkfcdheckkjaaaPsR1
import Derived.Test.YtbkfcdheckkjaaaPsW9
import Derived.Deep.RegionHeld3
set_option linter.all false
namespace Go.Proofs.Ytbkfcdheckkjaaa
open Go.RowKit

abbrev BoolRow (w : World) (a : Option Addr) (n : Nat) (b : Nat → Bool) : Prop := Row w a n fun i => .bool (b i)
/-- the first of the first m rides, by their order, that is not done, or -1 -/
def NextIs (R : List Ride) (b : Nat → Bool) (m : Nat) (v : Int) : Prop :=
  (v = -1 ∧ ∀ j, j < m → b j = true) ∨ ∃ i : Nat, v = i ∧ i < m ∧ b i = false ∧ ∀ j, j < m → b j = false → bef (rAt R j) (rAt R i) = false
theorem NextIs.skip {R : List Ride} {b : Nat → Bool} {m : Nat} {v : Int} (h : NextIs R b m v) (hb : b m = true) : NextIs R b (m + 1) v := by
  rcases h with ⟨rfl, h⟩ | ⟨i, rfl, hi, h1, h2⟩
  · refine .inl ⟨rfl, fun j hj => ?_⟩
    by_cases hjm : j < m
    · exact h j hjm
    · obtain rfl : j = m := by omega
      exact hb
  · refine .inr ⟨i, rfl, by omega, h1, fun j hj hbj => ?_⟩
    by_cases hjm : j < m
    · exact h2 j hjm hbj
    · obtain rfl : j = m := by omega
      rw [hb] at hbj; cases hbj
theorem NextIs.first {R : List Ride} {b : Nat → Bool} {m : Nat} (h : ∀ j, j < m → b j = true) (hb : b m = false) : NextIs R b (m + 1) m := by
  refine .inr ⟨m, rfl, by omega, hb, fun j hj hbj => ?_⟩
  by_cases hjm : j < m
  · rw [h j hjm] at hbj; cases hbj
  · obtain rfl : j = m := by omega
    exact bef_irrefl _
theorem NextIs.keep {R : List Ride} {b : Nat → Bool} {m i : Nat} (hi : i < m) (h1 : b i = false) (h2 : ∀ j, j < m → b j = false → bef (rAt R j) (rAt R i) = false) (hn : bef (rAt R m) (rAt R i) = false) : NextIs R b (m + 1) i := by
  refine .inr ⟨i, rfl, by omega, h1, fun j hj hbj => ?_⟩
  by_cases hjm : j < m
  · exact h2 j hjm hbj
  · obtain rfl : j = m := by omega
    exact hn
theorem NextIs.better {R : List Ride} {b : Nat → Bool} {m i : Nat} (h2 : ∀ j, j < m → b j = false → bef (rAt R j) (rAt R i) = false) (hb : b m = false) (hn : bef (rAt R m) (rAt R i) = true) : NextIs R b (m + 1) m := by
  refine .inr ⟨m, rfl, by omega, hb, fun j hj hbj => ?_⟩
  by_cases hjm : j < m
  · cases hh : bef (rAt R j) (rAt R m)
    · rfl
    · have := h2 j hjm hbj
      rw [bef_trans hh hn] at this; cases this
  · obtain rfl : j = m := by omega
    exact bef_irrefl _
def NextRes (w : World) (R : List Ride) (b : Nat → Bool) (o : Ending) (w' : World) : Prop := ∃ (v : Int) (y : Since w), o = .returned (.int .i64 v) ∧ w' = y.w ∧ NextIs R b R.length v
set_option maxRecDepth 100000 in
set_option maxHeartbeats 8000000 in
theorem rnext_calls (w : World) (x : Since w) (a : Option Addr) (R : List Ride) (c : Nat) (a2 : Option Addr) (n2 c2 : Nat) (b : Nat → Bool) (h : RideRow w a R) (hu : BoolRow w a2 n2 b) (hn : R.length ≤ n2) (hl : R.length ≤ 256) :
    Calls Try.prog 30 #[.slice a R.length c, .slice a2 n2 c2] x.w (NextRes w R b) := by
  have HL := Lib.hid h
  have HU := Lib.hid hu
  clear h hu
  go_enter Try.func30, Try.ntmps30
  go_wp2_with fail
  go_loopw [5, 6] (fun s i wr => ∃ (k : Nat) (v : Int) (y : Since w), k ≤ R.length ∧ i = .int .i64 k ∧ s = .int .i64 v ∧ NextIs R b k v ∧ wr = y.w) (fun _ i _ => R.length - (intOf i).toNat)
  case atStart => exact ⟨0, -1, _, by omega, rfl, rfl, .inl ⟨rfl, fun j hj => by omega⟩, rfl⟩
  case round =>
    obtain ⟨k, v, y, hk, rfl, rfl, hN, rfl⟩ := hrel
    by_cases hlt : k < R.length
    · obtain ⟨e, he⟩ : ∃ e, R[k]? = some e := ⟨_, List.getElem?_eq_getElem hlt⟩
      obtain ⟨b1, off1, rfl, h1'⟩ := Els.ride HL.out.c he
      have ra0 := h1'.c0
      have ra1 := h1'.c1
      have ra2 := h1'.c2
      have ra3 := h1'.c3
      have ra4 := h1'.c4
      have ra5 := h1'.c5
      have ra6 := h1'.c6
      have ra7 := h1'.c7
      have ra8 := h1'.c8
      have ra9 := h1'.c9
      have ra10 := h1'.c10
      have ra11 := h1'.c11
      have ra12 := h1'.c12
      obtain ⟨b2, off2, rfl, hb2, hc2⟩ := HU.out k (by omega)
      have rb : ∀ y : Since w, y.w.cell? ⟨b2, off2 + k, none⟩ = some (.bool (b k)) := Since.cell hc2 hb2
      have hk0 : (0 : Int) ≤ (k : Int) := by omega
      have hkl : (k : Int) < (R.length : Int) := by omega
      have hkn : (k : Int) < (n2 : Int) := by omega
      have He := Lib.hid (rAt_eq he)
      clear h1' he hb2 hc2
      cases hbk : b k with
      | true =>
        rw [hbk] at rb
        have HN := Lib.hid (hN.skip hbk)
        clear hN hbk
        go_wp2_with fail
        refine wp_region_since (by kernel_rfl) (by kernel_rfl) ?_
        repeat (go_big_quiet_step (fail))
        refine wpQuiet_nil ?_
        rintro _ ⟨z, rfl⟩
        go_wp2_with fail
        go_roundw
        case rel => exact ⟨k + 1, v, z, by omega, by go_num, rfl, HN.out, rfl⟩
        case measure => simp [intOf] <;> omega
      | false =>
        rw [hbk] at rb
        rcases hN with ⟨rfl, hall⟩ | ⟨i, rfl, hi, h1, h2⟩
        · have HN := Lib.hid (NextIs.first (R := R) hall hbk)
          clear hall hbk
          go_wp2_with fail
          refine wp_region_since (by kernel_rfl) (by kernel_rfl) ?_
          repeat (go_big_quiet_step (fail))
          refine wpQuiet_nil ?_
          rintro _ ⟨z, rfl⟩
          go_wp2_with fail
          go_roundw
          case rel => exact ⟨k + 1, k, z, by omega, by go_num, rfl, HN.out, rfl⟩
          case measure => simp [intOf] <;> omega
        · obtain ⟨e2, he2⟩ : ∃ e, R[i]? = some e := ⟨_, List.getElem?_eq_getElem (by omega)⟩
          obtain ⟨b3, off3, hbo, h2'⟩ := Els.ride HL.out.c he2
          simp only [Option.some.injEq, Addr.mk.injEq, and_true] at hbo
          obtain ⟨rfl, rfl⟩ := hbo
          have rc0 := h2'.c0
          have rc1 := h2'.c1
          have rc2 := h2'.c2
          have rc3 := h2'.c3
          have rc4 := h2'.c4
          have rc5 := h2'.c5
          have rc6 := h2'.c6
          have rc7 := h2'.c7
          have rc8 := h2'.c8
          have rc9 := h2'.c9
          have rc10 := h2'.c10
          have rc11 := h2'.c11
          have rc12 := h2'.c12
          have hi0 : (0 : Int) ≤ (i : Int) := by omega
          have hi1 : decide ((i : Int) < 0) = false := decide_eq_false (by omega)
          have hil : (i : Int) < (R.length : Int) := by omega
          have He2 := Lib.hid (rAt_eq he2)
          have Hc := Lib.hid (fun y : Since w => rbefore_calls w y e e2)
          clear h2' he2
          cases hbf : bef e e2 with
          | true =>
            have HN := Lib.hid (NextIs.better h2 hbk (by rw [He.out, He2.out]; exact hbf))
            rw [hbf] at Hc
            clear h1 h2 hbk hbf
            go_wp2_with fail
            refine wp_region_since (by kernel_rfl) (by kernel_rfl) ?_
            repeat (go_big_quiet_step ((go_at_call 20; exact Hc.out _)))
            refine wpQuiet_nil ?_
            rintro _ ⟨z, rfl⟩
            go_wp2_with fail
            go_roundw
            case rel => exact ⟨k + 1, k, z, by omega, by go_num, rfl, HN.out, rfl⟩
            case measure => simp [intOf] <;> omega
          | false =>
            have HN := Lib.hid (NextIs.keep hi h1 h2 (by rw [He.out, He2.out]; exact hbf))
            rw [hbf] at Hc
            clear h1 h2 hbk hbf
            go_wp2_with fail
            refine wp_region_since (by kernel_rfl) (by kernel_rfl) ?_
            repeat (go_big_quiet_step ((go_at_call 20; exact Hc.out _)))
            refine wpQuiet_nil ?_
            rintro _ ⟨z, rfl⟩
            go_wp2_with fail
            go_roundw
            case rel => exact ⟨k + 1, i, z, by omega, by go_num, rfl, HN.out, rfl⟩
            case measure => simp [intOf] <;> omega
    · obtain rfl : k = R.length := by omega
      have HN := Lib.hid hN
      clear hN
      go_wp2_with fail
      go_ret
      exact ⟨v, y, rfl, rfl, HN.out⟩
end Go.Proofs.Ytbkfcdheckkjaaa
