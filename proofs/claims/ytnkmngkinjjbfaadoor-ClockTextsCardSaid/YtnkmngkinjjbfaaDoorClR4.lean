/- The reference of windows, fourth part: the length. -/
import Derived.Test.YtnkmngkinjjbfaaDoorClR3
import Derived.IntWalk
set_option linter.all false
namespace Go.Proofs.YtnkmngkinjjbfaaDoor
open Go.RowKit

set_option maxRecDepth 100000 in
set_option maxHeartbeats 4000000 in
theorem rlength_calls (w : World) (x : Since w) (pa : Option Addr) (a : List Win) (ca : Nat) (ha : WinRow w pa a) (hla : a.length ≤ 100000) :
    Calls Tryd.prog 32 #[.slice pa a.length ca] x.w (LenRes w a) := by
  have HA := Lib.hid (runion_calls w x pa a ca ha hla)
  have Hpost := Lib.hid (show ∀ (u : List Win) (y : Since w) (v e : Int), UnOk a u → v = lenW u → e = unE a → LenRes w a (.returned (.tuple #[.int .i64 v, .int .i64 e])) y.w from fun u y v e h1 h2 h3 => ⟨u, y, by rw [h2, h3], rfl, h1⟩)
  have Hue := Lib.hid (show unE a = if badW a then 1 else 0 from rfl)
  clear ha
  cases hb : badW a with
  | true =>
    rw [hb] at Hue
    have Hno := Lib.hid (show ∀ u, UnOk a u → u = [] from fun u h => h.no hb)
    clear hb
    go_enter Tryd.func32, Tryd.ntmps32
    go_wp2_with fail
    refine HA.out.mono ?_
    rintro _ _ ⟨ax, cx, u, y1, rfl, rfl, _, _, hu⟩
    have Hu := Lib.hid hu
    clear hu
    rw [Hue.out]
    go_wp2_with fail
    go_ret2
    exact Hpost.out u y1 _ _ Hu.out (by rw [Hno.out u Hu.out]; rfl) Hue.out.symm
  | false =>
    rw [hb] at Hue
    have Hset := Lib.hid (show ∀ u, UnOk a u → Norm u from fun u h => (h.ok hb).n)
    clear hb
    go_enter Tryd.func32, Tryd.ntmps32
    go_wp2_with fail
    refine HA.out.mono ?_
    rintro _ _ ⟨ax, cx, u, y1, rfl, rfl, hrow, _, hu⟩
    have Hu := Lib.hid hu
    have HR := Lib.hid hrow
    have Hn := Lib.hid (Hset.out u hu)
    have hul := hu.n
    clear hu hrow
    rw [Hue.out]
    obtain ⟨n, hn⟩ : ∃ n, n = u.length := ⟨_, rfl⟩
    rw [← hn]
    rw [← hn] at hul
    have Hnn := Lib.hid hn
    clear hn
    go_wp2_with fail
    go_loopw [6, 7] (fun s i wr => ∃ (k : Nat) (y : Since y1.w), k ≤ n ∧ i = .int .i64 k ∧ s = .int .i64 (lenW (u.take k)) ∧ wr = y.w) (fun _ i _ => n - (intOf i).toNat)
    case atStart => exact ⟨0, Since.self _, by omega, rfl, rfl, rfl⟩
    case round =>
      obtain ⟨k, y, hk, rfl, rfl, rfl⟩ := hrel
      by_cases hlt : k < n
      · obtain ⟨e, he⟩ : ∃ e, u[k]? = some e := ⟨_, List.getElem?_eq_getElem (by have := Hnn.out; omega)⟩
        have hk0 : (0 : Int) ≤ (k : Int) := by omega
        have hkl : (k : Int) < (n : Int) := by omega
        obtain ⟨b1, off1, rfl, h1'⟩ := Els.win HR.out he
        have ra0 := h1'.c0
        have ra1 := h1'.c1
        have Hx := Lib.hid (lenW_take u k e he)
        have hev := Hn.out.v e (List.mem_of_getElem? he)
        obtain ⟨e1, e2, e3⟩ := hev
        have hnt : Norm (u.take k) := ⟨fun x hx => Hn.out.v x (List.mem_of_mem_take hx), Hn.out.s.sublist (List.take_sublist k u)⟩
        obtain ⟨l1, l2⟩ := lenW_range hnt
        clear h1' he hnt
        generalize lenW (u.take k) = L at *
        have hs1 : IntKind.i64.wrap (L + e.t) = L + e.t := IntWalk.i64_in _ (by omega)
        have hs2 : IntKind.i64.wrap (L + e.t - e.f) = L + e.t - e.f := IntWalk.i64_in _ (by omega)
        go_wp2_with fail
        refine wp_region_since (by kernel_rfl) (by kernel_rfl) ?_
        repeat (go_big_quiet_step (fail))
        refine wpQuiet_nil ?_
        rintro _ ⟨z, rfl⟩
        go_wp2_with fail
        go_roundw
        case rel => exact ⟨k + 1, z, by omega, by go_num, by rw [Hx.out]; exact congrArg _ (by omega), rfl⟩
        case measure => simp [intOf] <;> omega
      · obtain rfl : n = k := by omega
        obtain ⟨y5, h5⟩ := y1.trans y
        rw [h5]
        clear h5
        have Htk := Lib.hid (show u.take n = u from List.take_of_length_le (by have := Hnn.out; omega))
        rw [Htk.out]
        go_wp2_with fail
        go_ret2
        exact Hpost.out u y5 _ _ Hu.out rfl Hue.out.symm
end Go.Proofs.YtnkmngkinjjbfaaDoor
