/- The reference of windows, seventh part: a list in normal form is accepted as such. -/
import Derived.Test.YtnkmngkinjjbfaaDoorClR1
import Derived.IntWalk
set_option linter.all false
namespace Go.Proofs.YtnkmngkinjjbfaaDoor
open Go.RowKit

theorem norm_pair {l : List Win} (h : Norm l) {j : Nat} {p e : Win} (hp : l[j]? = some p) (he : l[j + 1]? = some e) : p.t < e.f := by
  obtain ⟨h1, rfl⟩ := List.getElem?_eq_some_iff.1 hp
  obtain ⟨h2, rfl⟩ := List.getElem?_eq_some_iff.1 he
  exact List.pairwise_iff_getElem.1 h.s j (j + 1) h1 h2 (by omega)
set_option maxRecDepth 100000 in
set_option maxHeartbeats 4000000 in
theorem normal_calls (w : World) (x : Since w) (a : Option Addr) (l : List Win) (c : Nat) (h : WinRow w a l) (hl : l.length ≤ 9223372036854775807) (hn : Norm l) :
    Calls Tryd.prog 36 #[.slice a l.length c] x.w fun o w' => o = .returned (.bool true) ∧ ∃ y : Since w, w' = y.w := by
  have HL := Lib.hid h
  have HN := Lib.hid hn
  clear h hn
  obtain ⟨n, hnl⟩ : ∃ n, n = l.length := ⟨_, rfl⟩
  rw [← hnl] at hl ⊢
  have Hnl := Lib.hid hnl
  clear hnl
  go_enter Tryd.func36, Tryd.ntmps36
  go_wp2_with fail
  go_loopw [3] (fun i wr => ∃ (k : Nat) (y : Since w), k ≤ n ∧ i = .int .i64 k ∧ wr = y.w) (fun i _ => n - (intOf i).toNat)
  case atStart => exact ⟨0, x, by omega, rfl, rfl⟩
  case round =>
    obtain ⟨k, y, hk, rfl, rfl⟩ := hrel
    by_cases hlt : k < n
    · obtain ⟨e, he⟩ : ∃ e, l[k]? = some e := ⟨_, List.getElem?_eq_getElem (by have := Hnl.out; omega)⟩
      have hev := HN.out.v e (List.mem_of_getElem? he)
      have hvl : vldW e = true := (vldW_iff e).2 (by omega)
      have hne : (e.f == e.t) = false := by simp; omega
      have Hc := Lib.hid (fun y : Since w => rvw_calls w y e)
      rw [hvl] at Hc
      clear hvl hev
      cases k with
      | zero =>
        obtain ⟨b1, off1, rfl, h1'⟩ := Els.win HL.out he
        have ra0 := h1'.c0
        have ra1 := h1'.c1
        simp only [Nat.zero_mul, Nat.add_zero] at ra0 ra1
        have hkl : (0 : Int) < (n : Int) := by omega
        have hklb : decide ((0 : Int) < (n : Int)) = true := decide_eq_true hkl
        clear h1' he
        go_wp2_with fail
        refine wp_region_since (by kernel_rfl) (by kernel_rfl) ?_
        repeat (go_big_quiet_step ((go_at_call 23; exact Hc.out _)))
        refine wpQuiet_nil ?_
        rintro _ ⟨z, rfl⟩
        go_wp2_with fail
        go_roundw
        case rel => exact ⟨1, z, by omega, by go_num, rfl⟩
        case measure => simp [intOf] <;> omega
      | succ j =>
        obtain ⟨p, hp⟩ : ∃ p, l[j]? = some p := ⟨_, List.getElem?_eq_getElem (by have := Hnl.out; omega)⟩
        have hpe := norm_pair HN.out hp he
        have hpb : decide (e.f ≤ p.t) = false := decide_eq_false (by omega)
        obtain ⟨b1, off1, rfl, h1'⟩ := Els.win HL.out he
        have ra0 := h1'.c0
        have ra1 := h1'.c1
        obtain ⟨b2, off2, hbo, h2'⟩ := Els.win HL.out hp
        simp only [Option.some.injEq, Addr.mk.injEq, and_true] at hbo
        obtain ⟨rfl, rfl⟩ := hbo
        have rb0 := h2'.c0
        have rb1 := h2'.c1
        have hk0 : (0 : Int) ≤ (j : Int) := by omega
        have hj1 : decide ((0 : Int) < (j : Int) + 1) = true := decide_eq_true (by omega)
        have hkl : (j : Int) + 1 < (n : Int) := by omega
        have hj2 : (j : Int) < (n : Int) := by omega
        have hkln : j + 1 < n := by omega
        clear h1' h2' hp he hpe
        go_wp2_with fail
        refine wp_region_since (by kernel_rfl) (by kernel_rfl) ?_
        repeat (go_big_quiet_step ((go_at_call 23; exact Hc.out _)))
        refine wpQuiet_nil ?_
        rintro _ ⟨z, rfl⟩
        go_wp2_with fail
        go_roundw
        case rel => exact ⟨j + 1 + 1, z, by omega, by go_num, rfl⟩
        case measure => simp [intOf] <;> omega
    · obtain rfl : k = n := by omega
      go_wp2_with fail
      go_ret
      exact ⟨rfl, _, rfl⟩
end Go.Proofs.YtnkmngkinjjbfaaDoor
