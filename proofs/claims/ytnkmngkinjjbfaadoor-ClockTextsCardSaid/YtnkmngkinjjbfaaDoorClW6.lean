/- The walks of windows, sixth part: the length. -/
import Derived.Test.YtnkmngkinjjbfaaDoorClW5
set_option linter.all false
namespace Go.Proofs.YtnkmngkinjjbfaaDoor
open Go.RowKit

/-- a length and an error -/
def LenRes (w : World) (l : List Win) (o : Ending) (w' : World) : Prop :=
  ∃ (u : List Win) (y : Since w), o = .returned (.tuple #[.int .i64 (lenW u), .int .i64 (unE l)]) ∧ w' = y.w ∧ UnOk l u
theorem lenW_take (u : List Win) (k : Nat) (e : Win) (h : u[k]? = some e) : lenW (u.take (k + 1)) = lenW (u.take k) + (e.t - e.f) := by
  rw [List.take_add_one, h]
  exact lenW_snoc _ _
/-- lengths of lists in normal form are numbers of moments -/
theorem lenW_bound : ∀ {u : List Win}, Norm u → ∀ c, (∀ x ∈ u, c ≤ x.f) → 0 ≤ lenW u ∧ (u ≠ [] → lenW u ≤ 4294944000 - c)
  | [], _, _, _ => ⟨by simp [lenW], fun h => (h rfl).elim⟩
  | x :: u, hn, c, hc => by
    have hx := hn.v x (by simp)
    have hxc := hc x (by simp)
    have e : lenW (x :: u) = (x.t - x.f) + lenW u := by simp [lenW]
    obtain ⟨h1, h2⟩ := lenW_bound hn.tail x.t (fun y hy => by have := hn.hd y hy; omega)
    refine ⟨by omega, fun _ => ?_⟩
    by_cases hu : u = []
    · subst hu
      have : lenW ([] : List Win) = 0 := rfl
      omega
    · have := h2 hu; omega
theorem lenW_range {u : List Win} (h : Norm u) : 0 ≤ lenW u ∧ lenW u ≤ 4294944000 := by
  have := lenW_bound h 0 (fun x hx => (h.v x hx).1)
  refine ⟨this.1, ?_⟩
  by_cases hu : u = []
  · subst hu; have : lenW ([] : List Win) = 0 := rfl; omega
  · have := this.2 hu; omega
set_option maxRecDepth 100000 in
set_option maxHeartbeats 4000000 in
theorem length_calls (w : World) (x : Since w) (pa : Option Addr) (a : List Win) (ca : Nat) (ha : WinRow w pa a) (hla : a.length ≤ 100000) :
    Calls Tryd.prog 31 #[.slice pa a.length ca] x.w (LenRes w a) := by
  have HA := Lib.hid (union_calls w x pa a ca ha hla)
  have Hpost := Lib.hid (show ∀ (u : List Win) (y : Since w) (v e : Int), UnOk a u → v = lenW u → e = unE a → LenRes w a (.returned (.tuple #[.int .i64 v, .int .i64 e])) y.w from fun u y v e h1 h2 h3 => ⟨u, y, by rw [h2, h3], rfl, h1⟩)
  have Hue := Lib.hid (show unE a = if badW a then 1 else 0 from rfl)
  clear ha
  cases hb : badW a with
  | true =>
    rw [hb] at Hue
    have Hno := Lib.hid (show ∀ u, UnOk a u → u = [] from fun u h => h.no hb)
    clear hb
    go_enter Tryd.func31, Tryd.ntmps31
    go_wp2_with fail
    refine HA.out.mono ?_
    rintro _ _ ⟨ax, cx, u, y1, rfl, rfl, _, _, hu⟩
    have Hu := Lib.hid hu
    clear hu
    rw [Hue.out]
    go_wp2_with fail
    go_ret2
    exact Hpost.out u y1 _ _ Hu.out (by rw [Hno.out u Hu.out]; rfl) Hue.out.symm
  | false =>
    rw [hb] at Hue
    have Hset := Lib.hid (show ∀ u, UnOk a u → Norm u from fun u h => (h.ok hb).n)
    clear hb
    go_enter Tryd.func31, Tryd.ntmps31
    go_wp2_with fail
    refine HA.out.mono ?_
    rintro _ _ ⟨ax, cx, u, y1, rfl, rfl, hrow, _, hu⟩
    have Hu := Lib.hid hu
    have HR := Lib.hid hrow
    have Hn := Lib.hid (Hset.out u hu)
    have hul := hu.n
    clear hu hrow
    rw [Hue.out]
    obtain ⟨n, hn⟩ : ∃ n, n = u.length := ⟨_, rfl⟩
    rw [← hn]
    rw [← hn] at hul
    have Hnn := Lib.hid hn
    clear hn
    go_wp2_with fail
    go_loopw [6, 19] (fun s i wr => ∃ (k : Nat) (y : Since y1.w), k ≤ n ∧ i = .int .i64 k ∧ s = .int .i64 (lenW (u.take k)) ∧ wr = y.w) (fun _ i _ => n - (intOf i).toNat)
    case atStart => exact ⟨0, Since.self _, by omega, rfl, rfl, rfl⟩
    case round =>
      obtain ⟨k, y, hk, rfl, rfl, rfl⟩ := hrel
      by_cases hlt : k < n
      · obtain ⟨e, he⟩ : ∃ e, u[k]? = some e := ⟨_, List.getElem?_eq_getElem (by have := Hnn.out; omega)⟩
        have hk0 : (0 : Int) ≤ (k : Int) := by omega
        have hkl : (k : Int) < (n : Int) := by omega
        obtain ⟨b1, off1, rfl, h1'⟩ := Els.win HR.out he
        have ra0 := h1'.c0
        have ra1 := h1'.c1
        have Hx := Lib.hid (lenW_take u k e he)
        have hev := Hn.out.v e (List.mem_of_getElem? he)
        obtain ⟨e1, e2, e3⟩ := hev
        have hnt : ∀ k, Norm (u.take k) := fun k => ⟨fun x hx => Hn.out.v x (List.mem_of_mem_take hx), Hn.out.s.sublist (List.take_sublist k u)⟩
        obtain ⟨l1, l2⟩ := lenW_range (hnt k)
        obtain ⟨l3, l4⟩ := lenW_range (hnt (k + 1))
        have l5 : lenW (u.take k) + (e.t - e.f) ≤ 4294944000 := by have := Hx.out; omega
        clear h1' he hnt l3 l4
        go_wp2_with fail
        obtain ⟨y5, h5⟩ := y.alloc (.cells #[.int .i64 e.f, .int .i64 e.t] 30)
        rw [h5]
        clear h5
        go_roundw
        case rel => exact ⟨k + 1, y5, by omega, by go_num, by rw [Hx.out], rfl⟩
        case measure => simp [intOf] <;> omega
      · obtain rfl : n = k := by omega
        obtain ⟨y5, h5⟩ := y1.trans y
        rw [h5]
        clear h5
        have Htk := Lib.hid (show u.take n = u from List.take_of_length_le (by have := Hnn.out; omega))
        rw [Htk.out]
        go_wp2_with fail
        go_ret2
        exact Hpost.out u y5 _ _ Hu.out rfl Hue.out.symm
end Go.Proofs.YtnkmngkinjjbfaaDoor
