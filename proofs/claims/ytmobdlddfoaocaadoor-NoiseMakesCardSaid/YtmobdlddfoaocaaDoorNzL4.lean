/- The walk of the law NoiseExact. -/
import Derived.Test.YtmobdlddfoaocaaDoorNzL1
import Derived.Test.YtmobdlddfoaocaaDoorNzExact
namespace Go.Proofs.YtmobdlddfoaocaaDoor
open Go.RowKit

theorem ex_ok_calls (w : World) (x : Since w) (hs : Signs w) (a : Option Addr) (l : List Int) (cap : Nat) (num den s : Int) (hlen : l.length ≤ 9223372036854775807) (hr : IntRow w a l) (h : ExOk l num den s) :
    Calls Tryd.prog 25 #[.agg #[.slice a l.length cap], .agg #[.int .i64 num, .int .i64 den], .int .i64 s] x.w fun e w' => e = .returned (.tuple #[.int .i64 (exv l num den s), .int .i64 0]) ∧ ∃ y : Since w, w' = y.w := by
  have hc := excess_calls w x hs a l cap num den s hlen hr
  rw [(ex_in h).1, (ex_in h).2] at hc
  exact hc
theorem ex_no {l : List Int} {num den s : Int} (h : ¬ ExOk l num den s) : (exE l num den s = 1 ∨ exE l num den s = 32) ∧ exF l num den s = 0 := by
  by_cases hg : Good l
  · exact ⟨.inl (ex_out hg h).1, (ex_out hg h).2⟩
  · exact ⟨.inr (ex_bad hg num den s).1, (ex_bad hg num den s).2⟩
theorem ex_no_calls (w : World) (x : Since w) (hs : Signs w) (a : Option Addr) (l : List Int) (cap : Nat) (num den s : Int) (hlen : l.length ≤ 9223372036854775807) (hr : IntRow w a l) (h : ¬ ExOk l num den s) :
    Calls Tryd.prog 25 #[.agg #[.slice a l.length cap], .agg #[.int .i64 num, .int .i64 den], .int .i64 s] x.w fun e w' => (e = .returned (.tuple #[.int .i64 0, .int .i64 1]) ∨ e = .returned (.tuple #[.int .i64 0, .int .i64 32])) ∧ ∃ y : Since w, w' = y.w := by
  have hc := excess_calls w x hs a l cap num den s hlen hr
  obtain ⟨h1, h2⟩ := ex_no h
  refine hc.mono ?_
  rintro _ _ ⟨rfl, y, rfl⟩
  rw [h2]
  rcases h1 with h1 | h1 <;> rw [h1]
  · exact ⟨.inl rfl, y, rfl⟩
  · exact ⟨.inr rfl, y, rfl⟩

set_option maxHeartbeats 2000000 in
theorem noiseExact_calls (w : World) (x : Since w) (hs : Signs w) (a c : Option Addr) (l : List Int) (bs : Nat → Bool) (n cap cc : Nat) (num den s : Int) (hlen : l.length ≤ 9223372036854775807) (hn : n ≤ 9223372036854775807) (hr : IntRow w a l) (hb : Row w c n fun i => .bool (bs i)) :
    Calls Tryd.prog 7 #[.agg #[.slice a l.length cap], .agg #[.int .i64 num, .int .i64 den, .int .i64 s], .slice c n cc] x.w fun e w' => e = .returned (.bool true) ∧ ∃ y : Since w, w' = y.w := by
  go_enter Tryd.func7, Tryd.ntmps7
  go_upto_region 1 with fail
  have hb0_0 : ∀ y : Since ((x.w.alloc (.cells #[.slice a l.length cap] 24)).alloc (.cells #[.int .i64 num, .int .i64 den, .int .i64 s] 36)), y.w.cell? ⟨x.w.heap.size, 0, none⟩ = some (.slice a l.length cap) := fun y => Since.cell (by simp [go_sem]) (by first | (simp; done) | (simp; omega)) y
  have hf0 : ∀ (y : Since ((x.w.alloc (.cells #[.slice a l.length cap] 24)).alloc (.cells #[.int .i64 num, .int .i64 den, .int .i64 s] 36))) (o : Nat), y.w.frozen? ⟨x.w.heap.size, o, none⟩ = false := fun y o => Since.free (by simp [go_sem]) (by first | (simp; done) | (simp; omega)) y
  have hb1_0 : ∀ y : Since ((x.w.alloc (.cells #[.slice a l.length cap] 24)).alloc (.cells #[.int .i64 num, .int .i64 den, .int .i64 s] 36)), y.w.cell? ⟨x.w.heap.size + 1, 0, none⟩ = some (.int .i64 num) := fun y => Since.cell (by simp [go_sem]) (by first | (simp; done) | (simp; omega)) y
  have hb1_1 : ∀ y : Since ((x.w.alloc (.cells #[.slice a l.length cap] 24)).alloc (.cells #[.int .i64 num, .int .i64 den, .int .i64 s] 36)), y.w.cell? ⟨x.w.heap.size + 1, 1, none⟩ = some (.int .i64 den) := fun y => Since.cell (by simp [go_sem]) (by first | (simp; done) | (simp; omega)) y
  have hb1_2 : ∀ y : Since ((x.w.alloc (.cells #[.slice a l.length cap] 24)).alloc (.cells #[.int .i64 num, .int .i64 den, .int .i64 s] 36)), y.w.cell? ⟨x.w.heap.size + 1, 2, none⟩ = some (.int .i64 s) := fun y => Since.cell (by simp [go_sem]) (by first | (simp; done) | (simp; omega)) y
  have hf1 : ∀ (y : Since ((x.w.alloc (.cells #[.slice a l.length cap] 24)).alloc (.cells #[.int .i64 num, .int .i64 den, .int .i64 s] 36))) (o : Nat), y.w.frozen? ⟨x.w.heap.size + 1, o, none⟩ = false := fun y o => Since.free (by simp [go_sem]) (by first | (simp; done) | (simp; omega)) y
  have hWup : ∃ z : Since w, ((x.w.alloc (.cells #[.slice a l.length cap] 24)).alloc (.cells #[.int .i64 num, .int .i64 den, .int .i64 s] 36)) = z.w := Since.allocs x [.cells #[.slice a l.length cap] 24, .cells #[.int .i64 num, .int .i64 den, .int .i64 s] 36]
  obtain ⟨y0, hy0⟩ := Since.refl ((x.w.alloc (.cells #[.slice a l.length cap] 24)).alloc (.cells #[.int .i64 num, .int .i64 den, .int .i64 s] 36))
  have Hbx := Lib.hid (And.intro x.b.size (show x.w.heap.size + 2 = ((x.w.alloc (.cells #[.slice a l.length cap] 24)).alloc (.cells #[.int .i64 num, .int .i64 den, .int .i64 s] 36)).heap.size from by simp))
  generalize hW : ((x.w.alloc (.cells #[.slice a l.length cap] 24)).alloc (.cells #[.int .i64 num, .int .i64 den, .int .i64 s] 36)) = W at *
  clear hW
  generalize x.w.heap.size = bx at *
  have Hup := Lib.hid (Since.up hWup)
  rw [hy0]
  clear hy0
  replace hr := hr.to hWup
  replace hb := hb.to hWup
  replace hs := hs.to hWup
  clear hWup
  by_cases hf : l.length ≤ 40
  · go_wp2_with fail
    refine (few_yes W _ a l.length cap hlen hf).mono ?_
    rintro _ _ ⟨rfl, y, rfl⟩
    by_cases hok : ExOk l num den s
    · have HG := Lib.hid hok.1
      have HR := Lib.hid hok.2.1
      have hrb := rightB_yes hok.2.1
      have s0 := hok.2.2.1
      have s1 := hok.2.2.2
      go_wp2_with fail
      refine (ex_ok_calls W _ hs a l cap num den s hlen hr hok).mono ?_
      rintro _ _ ⟨rfl, y, rfl⟩
      clear hok
      go_wp2_with fail
      refine (rright_calls W _ num den).mono ?_
      rintro _ _ ⟨rfl, y, rfl⟩
      go_wp2_with fail
      go_loopw [9, 10, 11, 12] (fun h t b v wr => ∃ k : Nat, k ≤ 201 ∧ v = .int .i64 ((k : Int) - 100) ∧ b = .int .i64 (sumN (xT l num den s) k) ∧ (∃ hv tv : Int, h = .int .i64 hv ∧ t = .int .i64 tv ∧ 0 ≤ hv ∧ hv ≤ k * 17179869184 ∧ 0 ≤ tv ∧ tv ≤ k * 17179869184 ∧ hv ≤ tv + sumN (xT l num den s) k) ∧ ∃ y : Since W, wr = y.w) (fun _ _ _ v _ => (101 - (intOf v)).toNat)
      case atStart => exact ⟨0, by omega, rfl, rfl, ⟨0, 0, rfl, rfl, by omega, by omega, by omega, by omega, by simp [sumN]⟩, _, rfl⟩
      case round =>
        obtain ⟨k, hk, rfl, rfl, ⟨hv, tv, rfl, rfl, hv0, hv1, tv0, tv1, hle⟩, y, rfl⟩ := hrel
        by_cases hlt : k < 201
        · have hsucc := Lib.hid (sumN_succ (xT l num den s) k)
          have hsb := x_sum_bd HG.out HR.out s k
          have hT := Lib.hid (show xT l num den s k = max 0 (den * wt l ((k : Int) - 100) - num * wt l ((k : Int) - 100 - s)) from rfl)
          have heb := ex_bd HG.out HR.out ((k : Int) - 100) ((k : Int) - 100 - s)
          generalize sumN (xT l num den s) k = S at *
          go_wp2_with fail
          refine wp_region_since (by kernel_rfl) (by kernel_rfl) ?_
          repeat (go_big_quiet_step ((first | (go_at_call 18; refine (weight_calls W _ hs a l cap _ (by unfold I64; omega) hlen hr).mono (wg HG.out)) | fail)))
          refine wpQuiet_nil ?_
          rintro _ ⟨y, rfl⟩
          generalize hA : den * wt l ((k : Int) - 100) = A at *
          generalize hB : num * wt l ((k : Int) - 100 - s) = B at *
          clear hA hB
          have hfin : ∀ h' t' b' : Int, (h' = hv ∧ t' = tv ∨ h' = hv + A ∧ t' = tv + B) → b' = S + max 0 (A - B) → ∃ k' : Nat, k' ≤ 201 ∧ Value.int .i64 ((k : Int) - 100 + 1) = .int .i64 ((k' : Int) - 100) ∧ Value.int .i64 b' = .int .i64 (sumN (xT l num den s) k') ∧ (∃ hv tv : Int, Value.int .i64 h' = .int .i64 hv ∧ Value.int .i64 t' = .int .i64 tv ∧ 0 ≤ hv ∧ hv ≤ k' * 17179869184 ∧ 0 ≤ tv ∧ tv ≤ k' * 17179869184 ∧ hv ≤ tv + sumN (xT l num den s) k') ∧ ∃ y' : Since W, y.w = y'.w := fun h' t' b' hht hbb =>
            ⟨k + 1, by omega, by go_num, by rw [hsucc.out, hT.out, hbb], ⟨h', t', rfl, rfl, by omega, by omega, by omega, by omega, by rw [hsucc.out, hT.out]; omega⟩, y, rfl⟩
          have Hfin := Lib.hid hfin; clear hfin hle
          by_cases hkn : k < n
          · obtain ⟨b, off, rfl, _, _⟩ := hb k hkn
            have hcell : ∀ y : Since W, y.w.cell? ⟨b, off + k, none⟩ = some (.bool (bs k)) := Since.at hb k hkn
            clear hb hr
            generalize bs k = q at *
            cases q
            all_goals
              rcases Int.lt_or_le B A with hab | hab
              all_goals
                go_wp2_with fail
                go_roundw
                case rel => exact Hfin.out _ _ _ (by first | exact .inl ⟨rfl, rfl⟩ | exact .inr ⟨rfl, rfl⟩) (by omega)
                case measure => simp [intOf]; omega
          · clear hb hr
            rcases Int.lt_or_le B A with hab | hab
            all_goals
              go_wp2_with fail
              go_roundw
              case rel => exact Hfin.out _ _ _ (.inl ⟨rfl, rfl⟩) (by omega)
              case measure => simp [intOf]; omega
        · have hx : sumN (xT l num den s) k = exv l num den s := by
            have : k = 201 := by omega
            rw [this, x_end HG.out HR.out s]
          have hE := ex_sum_bd HG.out HR.out s 65
          have hE2 : sumN (exT l num den s) 65 = exv l num den s := rfl
          rw [hE2] at hE
          clear hE2
          rw [hx] at hle ⊢
          clear hx hb hr
          generalize exv l num den s = E at *
          have hlt' : (100 : Int) < (k : Int) - 100 := by omega
          go_wp2_with fail
          refine (awake_calls W _ hs).mono ?_
          rintro _ _ ⟨rfl, y, rfl⟩
          go_wp2_with fail
          go_ret
          exact ⟨rfl, Hup.out _⟩
    · go_wp2_with fail
      refine (ex_no_calls W _ hs a l cap num den s hlen hr hok).mono ?_
      rintro _ _ ⟨rfl | rfl, y, rfl⟩
      all_goals
        go_wp2_with fail
        refine (awake_calls W _ hs).mono ?_
        rintro _ _ ⟨rfl, y, rfl⟩
        go_wp2_with fail
        go_ret
        exact ⟨rfl, Hup.out _⟩
  · go_wp2_with fail
    refine (few_no W _ a l.length cap hlen hf).mono ?_
    rintro _ _ ⟨rfl, y, rfl⟩
    go_wp2_with fail
    refine (awake_calls W _ hs).mono ?_
    rintro _ _ ⟨rfl, y, rfl⟩
    go_wp2_with fail
    go_ret
    exact ⟨rfl, Hup.out _⟩
end Go.Proofs.YtmobdlddfoaocaaDoor
