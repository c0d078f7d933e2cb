/- The walks of noise, eighth part: Same, Power, the two Below. -/
import Derived.Test.YtmobdlddfoaocaaDoorNzW7
namespace Go.Proofs.YtmobdlddfoaocaaDoor
open Go.RowKit

theorem at0_ext {l m : List Int} (hl : l.length = m.length) (h : ∀ i, i < l.length → at0 l i = at0 m i) : l = m := by
  apply List.ext_getElem hl
  intro i h1 h2
  have := h i h1
  unfold at0 at this
  simpa [List.getD_eq_getElem?_getD, h1, h2] using this

set_option maxHeartbeats 1000000 in
theorem same_calls (w : World) (x : Since w) (a b : Option Addr) (l m : List Int) (c d : Nat) (hl : l.length ≤ 9223372036854775807) (hm : m.length ≤ 9223372036854775807) (hr : IntRow w a l) (hr' : IntRow w b m) :
    Calls Tryd.prog 24 #[.slice a l.length c, .slice b m.length d] x.w fun e w' => e = .returned (.bool (decide (l = m))) ∧ ∃ y : Since w, w' = y.w := by
  by_cases hlen : l.length = m.length
  · have hne : ((l.length : Int) != (m.length : Int)) = false := by simp; omega
    have hle : l.length ≤ m.length := by omega
    have Hlen := Lib.hid hlen; clear hlen
    go_enter Tryd.func24, Tryd.ntmps24
    go_wp2_with fail
    go_loopw [5] (fun i wr => ∃ k : Nat, k ≤ l.length ∧ i = .int .i64 k ∧ (∀ j, j < k → at0 l j = at0 m j) ∧ ∃ y : Since w, wr = y.w) (fun i _ => l.length - (intOf i).toNat)
    case atStart => exact ⟨0, by omega, rfl, fun j hj => by omega, _, rfl⟩
    case round =>
      obtain ⟨k, hk, rfl, hok, y, rfl⟩ := hrel
      have Hok := Lib.hid hok; clear hok
      by_cases hlt : k < l.length
      · obtain ⟨b1, off1, rfl, _, _⟩ := hr k hlt
        obtain ⟨b2, off2, rfl, _, _⟩ := hr' k (by omega)
        have hcell : ∀ y : Since w, y.w.cell? ⟨b1, off1 + k, none⟩ = some (.int .i64 (at0 l k)) := Since.at hr k hlt
        have hcell' : ∀ y : Since w, y.w.cell? ⟨b2, off2 + k, none⟩ = some (.int .i64 (at0 m k)) := Since.at hr' k (by omega)
        have hk0 : (0 : Int) ≤ (k : Int) := by omega
        have hkl : (k : Int) < (l.length : Int) := by omega
        have hkm : (k : Int) < (m.length : Int) := by omega
        clear hr hr'
        by_cases he : at0 l k = at0 m k
        · have hb : (at0 l k != at0 m k) = false := by simpa using he
          have He := Lib.hid he; clear he
          go_wp2_with fail
          refine wp_region_since (by kernel_rfl) (by kernel_rfl) ?_
          repeat (go_big_quiet_step (fail))
          refine wpQuiet_nil ?_
          rintro _ ⟨y, rfl⟩
          go_wp2_with fail
          go_roundw
          case rel => exact ⟨k + 1, by omega, by go_num, fun j hj => by
            by_cases hjk : j < k
            · exact Hok.out j hjk
            · obtain rfl : j = k := by omega
              exact He.out, _, rfl⟩
          case measure => simp [intOf]; omega
        · have hb : (at0 l k != at0 m k) = true := by simpa using he
          have hno : decide (l = m) = false := decide_eq_false fun h => he (by rw [h])
          have He := Lib.hid he; clear he
          go_wp2_with fail
          refine wp_region_since (by kernel_rfl) (by kernel_rfl) ?_
          repeat (go_big_quiet_step (fail))
          refine wpQuiet_nil ?_
          rintro _ ⟨y, rfl⟩
          go_wp2_with fail
          go_ret
          exact ⟨ret_bool hno.symm, _, rfl⟩
      · have hyes : decide (l = m) = true := decide_eq_true (at0_ext Hlen.out fun i hi => Hok.out i (by omega))
        go_wp2_with fail
        go_ret
        exact ⟨ret_bool hyes.symm, _, rfl⟩
  · have hne : ((l.length : Int) != (m.length : Int)) = true := by simp; omega
    have hno : decide (l = m) = false := decide_eq_false fun h => hlen (by rw [h])
    have Hlen := Lib.hid hlen; clear hlen
    go_enter Tryd.func24, Tryd.ntmps24
    go_wp2_with fail
    go_ret
    exact ⟨ret_bool hno.symm, _, rfl⟩
end Go.Proofs.YtmobdlddfoaocaaDoor
