/- The reference of windows, first part: validity, containing, equality, normal form. -/
import Derived.Test.YtnkmngkinjjbfaaDoorClW6
import Derived.Test.YtnkmngkinjjbfaaDoorRdCells
set_option linter.all false
namespace Go.Proofs.YtnkmngkinjjbfaaDoor
open Go.RowKit

theorem rvw_calls (w : World) (x : Since w) (e : Win) :
    Calls Tryd.prog 23 #[.agg #[.int .i64 e.f, .int .i64 e.t]] x.w fun o w' => o = .returned (.bool (vldW e)) ∧ ∃ y : Since w, w' = y.w := by
  have HG := Lib.hid (vldW_iff e)
  go_enter Tryd.func23, Tryd.ntmps23
  go_upto_region 1 with fail
  have hb0_0 : ∀ y : Since (x.w.alloc (.cells #[.int .i64 e.f, .int .i64 e.t] 30)), y.w.cell? ⟨x.w.heap.size, 0, none⟩ = some (.int .i64 e.f) := fun y => Since.cell (by simp [go_sem]) (by first | (simp; done) | (simp; omega)) y
  have hb0_1 : ∀ y : Since (x.w.alloc (.cells #[.int .i64 e.f, .int .i64 e.t] 30)), y.w.cell? ⟨x.w.heap.size, 1, none⟩ = some (.int .i64 e.t) := fun y => Since.cell (by simp [go_sem]) (by first | (simp; done) | (simp; omega)) y
  have hf0 : ∀ (y : Since (x.w.alloc (.cells #[.int .i64 e.f, .int .i64 e.t] 30))) (o : Nat), y.w.frozen? ⟨x.w.heap.size, o, none⟩ = false := fun y o => Since.free (by simp [go_sem]) (by first | (simp; done) | (simp; omega)) y
  have hWup : ∃ z : Since w, (x.w.alloc (.cells #[.int .i64 e.f, .int .i64 e.t] 30)) = z.w := x.alloc _
  obtain ⟨y0, hy0⟩ := Since.refl (x.w.alloc (.cells #[.int .i64 e.f, .int .i64 e.t] 30))
  have Hbx := Lib.hid (And.intro x.b.size (show x.w.heap.size + 1 = (x.w.alloc (.cells #[.int .i64 e.f, .int .i64 e.t] 30)).heap.size from by simp))
  generalize hW : (x.w.alloc (.cells #[.int .i64 e.f, .int .i64 e.t] 30)) = W at *
  clear hW
  generalize x.w.heap.size = bx at *
  have Hup := Lib.hid (Since.up hWup)
  rw [hy0]
  clear hy0
  clear hWup hf0
  rcases (by omega : e.f < 0 ∨ (0 ≤ e.f ∧ e.t < e.f) ∨ (0 ≤ e.f ∧ e.f ≤ e.t ∧ 4294944000 < e.t) ∨ (0 ≤ e.f ∧ e.f ≤ e.t ∧ e.t ≤ 4294944000)) with h | ⟨h, h'⟩ | ⟨h, h', h''⟩ | ⟨h, h', h''⟩
  case inr.inr.inr =>
    have Hr := Lib.hid (show vldW e = true from HG.out.2 (by omega))
    clear HG
    go_wp2_with fail
    go_ret
    exact ⟨ret_bool (by first | exact Hr.out.symm | (rw [Hr.out]; simp; omega)), Hup.out _⟩
  all_goals
    have Hr := Lib.hid (show vldW e = false by
      cases hg : vldW e
      · rfl
      · have := HG.out.1 hg; omega)
    clear HG
    go_wp2_with fail
    go_ret
    exact ⟨ret_bool (by first | exact Hr.out.symm | (rw [Hr.out]; simp; omega)), Hup.out _⟩
theorem badW_at {l : List Win} {k : Nat} {e : Win} (h : l[k]? = some e) (hv : vldW e = false) : badW l = true := by
  cases hb : badW l
  · have := badW_false.1 hb e (List.mem_of_getElem? h)
    rw [hv] at this; cases this
  · rfl
set_option maxHeartbeats 4000000 in
theorem rcheckW_calls (w : World) (x : Since w) (a : Option Addr) (l : List Win) (c : Nat) (h : WinRow w a l) (hl : l.length ≤ 9223372036854775807) :
    Calls Tryd.prog 34 #[.slice a l.length c] x.w fun o w' => o = .returned (.int .i64 (unE l)) ∧ ∃ y : Since w, w' = y.w := by
  have HL := Lib.hid h
  have Hue := Lib.hid (show unE l = if badW l then 1 else 0 from rfl)
  clear h
  go_enter Tryd.func34, Tryd.ntmps34
  go_wp2_with fail
  go_loopw [3] (fun i wr => ∃ (k : Nat) (y : Since w), k ≤ l.length ∧ i = .int .i64 k ∧ wr = y.w ∧ ∀ j, j < k → ∀ e, l[j]? = some e → vldW e = true) (fun i _ => l.length - (intOf i).toNat)
  case atStart => exact ⟨0, _, by omega, rfl, rfl, fun j hj => by omega⟩
  case round =>
    obtain ⟨k, y, hk, rfl, rfl, hok⟩ := hrel
    have Hok := Lib.hid hok; clear hok
    by_cases hlt : k < l.length
    · obtain ⟨e, he⟩ : ∃ e, l[k]? = some e := ⟨_, List.getElem?_eq_getElem hlt⟩
      obtain ⟨b1, off1, rfl, h1'⟩ := Els.win HL.out he
      have ra0 := h1'.c0
      have ra1 := h1'.c1
      have hk0 : (0 : Int) ≤ (k : Int) := by omega
      have hkl : (k : Int) < (l.length : Int) := by omega
      have He := Lib.hid he
      clear h1' he
      cases hg : vldW e with
      | true =>
        have Hg := Lib.hid hg; clear hg
        go_wp2_with fail
        refine (rvw_calls w y e).mono ?_
        rintro _ _ ⟨rfl, z, rfl⟩
        rw [Hg.out]
        go_wp2_with fail
        go_roundw
        case rel => exact ⟨k + 1, z, by omega, by go_num, rfl, upto_next (P := fun e : Win => vldW e = true) Hok.out He.out Hg.out⟩
        case measure => simp [intOf] <;> omega
      | false =>
        have Hr := Lib.hid (show unE l = 1 by rw [Hue.out, badW_at He.out hg]; rfl)
        have Hg := Lib.hid hg; clear hg
        go_wp2_with fail
        refine (rvw_calls w y e).mono ?_
        rintro _ _ ⟨rfl, z, rfl⟩
        rw [Hg.out]
        go_wp2_with fail
        go_ret
        exact ⟨ret_int Hr.out.symm, _, rfl⟩
    · obtain rfl : k = l.length := by omega
      have Hr := Lib.hid (show unE l = 0 by
        have : badW l = false := badW_false.2 fun x hx => by
          obtain ⟨j, hj⟩ := List.mem_iff_getElem?.1 hx
          exact Hok.out j (List.getElem?_eq_some_iff.1 hj).1 x hj
        rw [Hue.out, this]; rfl)
      go_wp2_with fail
      go_ret
      exact ⟨ret_int Hr.out.symm, _, rfl⟩
set_option maxHeartbeats 4000000 in
theorem hasW_calls (w : World) (x : Since w) (a : Option Addr) (l : List Win) (c : Nat) (t : Int) (h : WinRow w a l) (hl : l.length ≤ 9223372036854775807) :
    Calls Tryd.prog 35 #[.slice a l.length c, .int .i64 t] x.w fun o w' => o = .returned (.bool (hasW l t)) ∧ ∃ y : Since w, w' = y.w := by
  have HL := Lib.hid h
  clear h
  go_enter Tryd.func35, Tryd.ntmps35
  go_wp2_with fail
  go_loopw [5] (fun i wr => ∃ (k : Nat) (y : Since w), k ≤ l.length ∧ i = .int .i64 k ∧ wr = y.w ∧ ∀ j, j < k → ∀ e, l[j]? = some e → inW t e = false) (fun i _ => l.length - (intOf i).toNat)
  case atStart => exact ⟨0, _, by omega, rfl, rfl, fun j hj => by omega⟩
  case round =>
    obtain ⟨k, y, hk, rfl, rfl, hok⟩ := hrel
    have Hok := Lib.hid hok; clear hok
    by_cases hlt : k < l.length
    · obtain ⟨e, he⟩ : ∃ e, l[k]? = some e := ⟨_, List.getElem?_eq_getElem hlt⟩
      obtain ⟨b1, off1, rfl, h1'⟩ := Els.win HL.out he
      have ra0 := h1'.c0
      have ra1 := h1'.c1
      have hk0 : (0 : Int) ≤ (k : Int) := by omega
      have hkl : (k : Int) < (l.length : Int) := by omega
      have He := Lib.hid he
      clear h1' he
      rcases (by omega : t < e.f ∨ (e.f ≤ t ∧ e.t ≤ t) ∨ (e.f ≤ t ∧ t < e.t)) with h | ⟨h, h'⟩ | ⟨h, h'⟩
      case inr.inr =>
        have Hr := Lib.hid (show hasW l t = true from hasW_iff.2 ⟨e, List.mem_of_getElem? He.out, h, h'⟩)
        go_wp2_with fail
        go_ret
        exact ⟨ret_bool Hr.out.symm, _, rfl⟩
      all_goals
        have Hv := Lib.hid (show inW t e = false by
          cases hi : inW t e
          · rfl
          · have := (inW_iff t e).1 hi; omega)
        go_wp2_with fail
        go_roundw
        case rel => exact ⟨k + 1, y, by omega, by go_num, rfl, upto_next (P := fun e : Win => inW t e = false) Hok.out He.out Hv.out⟩
        case measure => simp [intOf] <;> omega
    · obtain rfl : k = l.length := by omega
      have Hr := Lib.hid (show hasW l t = false by
        cases hh : hasW l t
        · rfl
        · obtain ⟨z, hz, h1, h2⟩ := hasW_iff.1 hh
          obtain ⟨j, hj⟩ := List.mem_iff_getElem?.1 hz
          have := Hok.out j (List.getElem?_eq_some_iff.1 hj).1 z hj
          rw [(inW_iff t z).2 ⟨h1, h2⟩] at this; cases this)
      go_wp2_with fail
      go_ret
      exact ⟨ret_bool Hr.out.symm, _, rfl⟩
theorem win_equal (a b c d : Int) (w : World) : (Op.equalIn 10000 30 (.agg #[.int .i64 a, .int .i64 b]) (.agg #[.int .i64 c, .int .i64 d])).run Tryd.prog w = .ok (decide (a = c) && decide (b = d)) w := by
  have hS : Tryd.prog.underlying 30 = some (.struct (Tryd.prog.fieldsOf 30)) := by kernel_rfl
  have hp : Tryd.prog.stoodInHeld 30 = false := by kernel_rfl
  have u3 := Tryd.underlying3
  have a3 := Tryd.isAgg3
  have z3 := Tryd.sizeOf3
  rw [show (10000 : Nat) = 9999 + 1 from rfl, run_equalIn_struct w 9999 30 _ _ hS hp]
  simp only [Program.fieldsOf, Tryd.underlying30]
  go_simp
  by_cases h1 : a = c
  · by_cases h2 : b = d <;> simp [h1, h2]
  · simp [h1]
theorem win_guard (op : BinOp) (a b : Operand) (xs ys : Array Value) (w : World) : (eqGuard op 30 a b (.agg xs) (.agg ys)).run Tryd.prog w = .ok () w := run_eqGuard_agg w op 30 a b xs ys (by kernel_rfl)
end Go.Proofs.YtnkmngkinjjbfaaDoor
