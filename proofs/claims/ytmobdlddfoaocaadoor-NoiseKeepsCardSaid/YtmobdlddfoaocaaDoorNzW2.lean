/- The walks of noise, second part: weights, ratios. -/
import Derived.Test.YtmobdlddfoaocaaDoorNzW1
namespace Go.Proofs.YtmobdlddfoaocaaDoor
open Go.RowKit

/-- the table of signs is as the text lays it -/
def Signs (w : World) : Prop := 0 < w.heap.size ∧ w.cell? ⟨0, 0, none⟩ = some (.int .i64 (-1)) ∧ w.cell? ⟨0, 1, none⟩ = some (.int .i64 1)
theorem Signs.to {w W : World} (h : Signs w) (hW : ∃ z : Since w, W = z.w) : Signs W := by
  obtain ⟨z, rfl⟩ := hW
  exact ⟨Nat.lt_of_lt_of_le h.1 z.b.size, Since.cell h.2.1 h.1 z, Since.cell h.2.2 h.1 z⟩
theorem Signs.at {w : World} (h : Signs w) (y : Since w) : y.w.cell? ⟨0, 0, none⟩ = some (.int .i64 (-1)) ∧ y.w.cell? ⟨0, 1, none⟩ = some (.int .i64 1) :=
  ⟨Since.cell h.2.1 h.1 y, Since.cell h.2.2 h.1 y⟩

set_option maxHeartbeats 1000000 in
theorem wt_calls (w : World) (x : Since w) (hs : Signs w) (a : Option Addr) (l : List Int) (cap : Nat) (v : Int) (hv : I64 v) (hlen : l.length ≤ 9223372036854775807) (hr : IntRow w a l) :
    Calls Tryd.prog 32 #[.agg #[.slice a l.length cap], .int .i64 v] x.w fun e w' => e = .returned (.int .i64 (wt l v)) ∧ ∃ y : Since w, w' = y.w := by
  obtain ⟨v0, v1⟩ := hv
  have i0 : ∀ w, (Instr.index 58 (.agg #[.int .i64 (-1), .int .i64 1]) (.int .i64 0)).run Tryd.prog w = .ok (.int .i64 (-1)) w := fun _ => by kernel_rfl
  have i1 : ∀ w, (Instr.index 58 (.agg #[.int .i64 (-1), .int .i64 1]) (.int .i64 1)).run Tryd.prog w = .ok (.int .i64 1) w := fun _ => by kernel_rfl
  go_enter Tryd.func32, Tryd.ntmps32
  go_upto_region 1 with fail
  have hbx : ∀ y : Since (x.w.alloc (.cells #[.slice a l.length cap] 24)), y.w.cell? ⟨x.w.heap.size, 0, none⟩ = some (.slice a l.length cap) := fun y => Since.cell (by simp [go_sem]) (by simp) y
  have hWup : ∃ z : Since w, (x.w.alloc (.cells #[.slice a l.length cap] 24)) = z.w := x.alloc _
  obtain ⟨y0, hy0⟩ := Since.refl (x.w.alloc (.cells #[.slice a l.length cap] 24))
  generalize hW : x.w.alloc (.cells #[.slice a l.length cap] 24) = W at *
  clear hW
  have Hup := Lib.hid (Since.up hWup)
  rw [hy0]
  clear hy0
  replace hr := hr.to hWup
  replace hs := hs.to hWup
  clear hWup
  have s0 : ∀ y : Since W, y.w.cell? ⟨0, 0, none⟩ = some (.int .i64 (-1)) := fun y => (hs.at y).1
  have s1 : ∀ y : Since W, y.w.cell? ⟨0, 1, none⟩ = some (.int .i64 1) := fun y => (hs.at y).2
  go_wp2
  go_loop [9] (fun i => ∃ k : Nat, k ≤ 2 ∧ i = .int .i64 k ∧ (1 ≤ k → 0 < v ∨ l.length ≤ v.natAbs) ∧ (2 ≤ k → v < 0 ∨ l.length ≤ v.natAbs)) (fun i => 2 - (intOf i).toNat)
  case atStart => exact ⟨0, by omega, rfl, by omega, by omega⟩
  case round =>
    obtain ⟨k, hk, rfl, h1, h2⟩ := hrel
    have H1 := Lib.hid h1; have H2 := Lib.hid h2; clear h1 h2
    by_cases hk2 : k = 2
    · subst hk2
      go_wp2
      go_ret
      exact ⟨ret_int (wt_out (by have := H1.out; have := H2.out; omega)).symm, Hup.out _⟩
    · have hmin : v = -9223372036854775808 → wrap64 (-v) = v := fun h => by subst h; kernel_rfl
      have Hmin := Lib.hid hmin; clear hmin
      by_cases hk0 : k = 0
      · subst hk0
        by_cases c1 : v ≤ 0 ∧ -v < l.length
        · obtain ⟨m, rfl⟩ : ∃ m : Nat, v = -(m : Int) := ⟨(-v).toNat, by omega⟩
          have hm : m < l.length := by omega
          obtain ⟨b, off, rfl, _, _⟩ := hr m hm
          have hcell : ∀ y : Since W, y.w.cell? ⟨b, off + m, none⟩ = some (.int .i64 (at0 l m)) := Since.at hr m hm
          have H := Lib.hid c1; clear hr hk2 c1
          go_wp2
          go_ret
          exact ⟨ret_int (by rw [wt_in (by omega)]; congr 1; omega), Hup.out _⟩
        · have hrel1 : 0 < v ∨ l.length ≤ v.natAbs := by omega
          have H := Lib.hid hrel1
          by_cases c2 : v = -9223372036854775808
          · have hw := Hmin.out c2
            have hneg : v < 0 := by omega
            clear hr hk2 c1 c2 hrel1
            go_wp2
            go_round
            case rel => exact ⟨1, by omega, rfl, fun _ => H.out, by omega⟩
            case measure => simp [intOf]
          · have c2' : -9223372036854775808 < v := by omega
            clear hr hk2 c2
            by_cases c3 : 0 < v
            · clear c1 hrel1
              go_wp2
              go_round
              case rel => exact ⟨1, by omega, rfl, fun _ => H.out, by omega⟩
              case measure => simp [intOf]
            · have c4 : (l.length : Int) ≤ -v := by omega
              clear c1 hrel1
              go_wp2
              go_round
              case rel => exact ⟨1, by omega, rfl, fun _ => H.out, by omega⟩
              case measure => simp [intOf]
      · obtain rfl : k = 1 := by omega
        by_cases c1 : 0 ≤ v ∧ v < l.length
        · obtain ⟨m, rfl⟩ : ∃ m : Nat, v = (m : Int) := ⟨v.toNat, by omega⟩
          have hm : m < l.length := by omega
          obtain ⟨b, off, rfl, _, _⟩ := hr m hm
          have hcell : ∀ y : Since W, y.w.cell? ⟨b, off + m, none⟩ = some (.int .i64 (at0 l m)) := Since.at hr m hm
          have H := Lib.hid c1; clear hr hk2 c1
          go_wp2
          go_ret
          exact ⟨ret_int (by rw [wt_in (by omega)]; congr 1), Hup.out _⟩
        · have hrel2 : v < 0 ∨ l.length ≤ v.natAbs := by omega
          have H := Lib.hid hrel2
          by_cases c3 : v < 0
          · clear c1 hrel2 hr
            go_wp2
            go_round
            case rel => exact ⟨2, by omega, rfl, fun _ => H1.out (by omega), fun _ => H.out⟩
            case measure => simp [intOf]
          · have c4 : (l.length : Int) ≤ v := by omega
            clear c1 hrel2 hr
            go_wp2
            go_round
            case rel => exact ⟨2, by omega, rfl, fun _ => H1.out (by omega), fun _ => H.out⟩
            case measure => simp [intOf]
end Go.Proofs.YtmobdlddfoaocaaDoor
