/- The walk of the law NoiseKeeps. -/
import Derived.Test.YtmobdlddfoaocaaDoorNzKeep
import Derived.Deep.RegionHeld3
namespace Go.Proofs.YtmobdlddfoaocaaDoor
open Go.RowKit

theorem row_take {k : IntKind} {w : World} {a : Option Addr} {l : List Int} (h : Row w a l.length fun i => .int k (at0 l i)) (m : Nat) : Row w a (l.take m).length fun i => .int k (at0 (l.take m) i) := by
  intro i hi
  rw [List.length_take] at hi
  obtain ⟨b, off, h1, h2, h3⟩ := h i (by omega)
  exact ⟨b, off, h1, h2, by rw [h3]; simp only [at0_take (show i < m by omega)]⟩
def AddedOk (w : World) (o : List Int) (u : Int) (e : Ending) (w' : World) : Prop := ∃ a cap, e = .returned (.tuple #[.slice a o.length cap, .int .i64 u, .int .i64 0]) ∧ o.length ≤ cap ∧ ∃ y : Since w, w' = y.w ∧ IntRow y.w a o
theorem added_ok {w : World} {l xs ws : List Int} (h0 : addE l xs ws = 0) (e : Ending) (w' : World) (h : Added w l xs ws e w') : AddedOk w (outL l xs ws xs.length) (us (total l) ws xs.length) e w' := by
  unfold Added at h
  rw [if_pos h0] at h
  obtain ⟨_, rfl, a, cap, rfl, hcap, y, rfl, hr⟩ := h
  exact ⟨a, cap, rfl, hcap, y, rfl, hr⟩
theorem added_no {w : World} {l xs ws : List Int} (h0 : addE l xs ws ≠ 0) (e : Ending) (w' : World) (h : Added w l xs ws e w') : e = .returned (.tuple #[.slice none 0 0, .int .i64 0, .int .i64 (addE l xs ws)]) ∧ ∃ y : Since w, w' = y.w := by
  unfold Added at h
  rw [if_neg h0] at h
  exact h

set_option maxHeartbeats 2000000 in
theorem noiseKeeps_calls (w : World) (x : Since w) (hs : Signs w) (a b c : Option Addr) (l xs ws : List Int) (ca cb cc : Nat) (hca : l.length ≤ ca) (hcb : xs.length ≤ cb) (hcb' : cb ≤ 9223372036854775807) (hcc : ws.length ≤ cc) (hcc' : cc ≤ 9223372036854775807) (hl : l.length ≤ 9223372036854775807) (hx : xs.length ≤ 9223372036854775807) (hwl : ws.length ≤ 9223372036854775807)
    (hr : IntRow w a l) (hrx : IntRow w b xs) (hrw : Row w c ws.length fun i => .int .u64 (at0 ws i)) (hw : ∀ i, 0 ≤ at0 ws i ∧ at0 ws i < 18446744073709551616) :
    Calls Tryd.prog 11 #[.agg #[.slice a l.length ca], .slice b xs.length cb, .slice c ws.length cc] x.w fun e w' => e = .returned (.bool true) ∧ ∃ y : Since w, w' = y.w := by
  go_enter Tryd.func11, Tryd.ntmps11
  go_upto_region 1 with fail
  have hb0_0 : ∀ y : Since (x.w.alloc (.cells #[.slice a l.length ca] 24)), y.w.cell? ⟨x.w.heap.size, 0, none⟩ = some (.slice a l.length ca) := fun y => Since.cell (by simp [go_sem]) (by first | (simp; done) | (simp; omega)) y
  have hf0 : ∀ (y : Since (x.w.alloc (.cells #[.slice a l.length ca] 24))) (o : Nat), y.w.frozen? ⟨x.w.heap.size, o, none⟩ = false := fun y o => Since.free (by simp [go_sem]) (by first | (simp; done) | (simp; omega)) y
  have hWup : ∃ z : Since w, (x.w.alloc (.cells #[.slice a l.length ca] 24)) = z.w := x.alloc _
  obtain ⟨y0, hy0⟩ := Since.refl (x.w.alloc (.cells #[.slice a l.length ca] 24))
  have Hbx := Lib.hid (And.intro x.b.size (show x.w.heap.size + 1 = (x.w.alloc (.cells #[.slice a l.length ca] 24)).heap.size from by simp))
  generalize hW : (x.w.alloc (.cells #[.slice a l.length ca] 24)) = W at *
  clear hW
  generalize x.w.heap.size = bx at *
  have Hup := Lib.hid (Since.up hWup)
  rw [hy0]
  clear hy0
  replace hr := hr.to hWup
  replace hrx := hrx.to hWup
  replace hrw := hrw.to hWup
  replace hs := hs.to hWup
  clear hWup
  by_cases hf : l.length ≤ 40
  · go_wp2_with fail
    refine (few_yes W _ a l.length ca hl hf).mono ?_
    rintro _ _ ⟨rfl, y, rfl⟩
    by_cases hok : xs.length ≤ 40 ∧ ws.length ≤ 200
    · obtain ⟨h40, h200⟩ := hok
      have d40 : decide (40 < (xs.length : Int)) = false := decide_eq_false (by omega)
      have d200 : decide (200 < (ws.length : Int)) = false := decide_eq_false (by omega)
      by_cases hE : addE l xs ws = 0
      · go_wp2_with fail
        refine (add_calls W _ hs a b c l xs ws ca cb cc hca hcc hl hx hwl hr hrx hrw hw).mono fun e w' h => ?_
        replace h := added_ok hE e w' h
        have hul := us_le (addE_zero hE).2.2.2
        have hux := us_mono (t := total l) (ws := ws) xs.length
        have hol : (outL l xs ws xs.length).length = xs.length := outL_length _ _ _ _
        have kE := keep_addE hE
        have kO := keep_outL hE
        have kU := keep_len hE
        have hE2 := head_addE hE (xs.length / 2)
        have hO2 := head_outL (l := l) (xs := xs) (ws := ws) (m := xs.length / 2) (by omega)
        have hU2 := us_le_of (t := total l) (ws := ws) (j := xs.length / 2) (N := xs.length) (by omega)
        have hwt := fun i (hi : i < xs.length) => keep_weight hw hE hi
        generalize outL l xs ws xs.length = o at *
        have hK : (ws.take (us (total l) ws xs.length)).length = us (total l) ws xs.length := by rw [List.length_take]; omega
        have hrw2 := row_take hrw (us (total l) ws xs.length)
        have hw2 : ∀ i, 0 ≤ at0 (ws.take (us (total l) ws xs.length)) i ∧ at0 (ws.take (us (total l) ws xs.length)) i < 18446744073709551616 := fun i => by
          by_cases hi : i < us (total l) ws xs.length
          · rw [at0_take hi]; exact hw i
          · have : at0 (ws.take (us (total l) ws xs.length)) i = 0 := by unfold at0; simp [List.getD_eq_getElem?_getD, List.getElem?_take, hi]
            omega
        generalize ws.take (us (total l) ws xs.length) = wt at *
        generalize us (total l) ws xs.length = K at *
        have hX : (xs.take (xs.length / 2)).length = xs.length / 2 := by rw [List.length_take]; omega
        have hrx2 := row_take hrx (xs.length / 2)
        generalize xs.take (xs.length / 2) = xt at *
        rw [← hX] at hO2 hU2
        have hpl : (o.take xt.length).length = xt.length := by rw [List.length_take]; omega
        have hptake : o.take xt.length = o.take xt.length := rfl
        generalize hpe : o.take xt.length = p at hO2 hpl
        have HPe := Lib.hid hpe; clear hpe hptake
        have HP := Lib.hid hpl; clear hpl
        generalize hU2e : us (total l) ws xt.length = U2 at *
        have HU2 := Lib.hid hU2e; clear hU2e
        obtain rfl : K = wt.length := hK.symm
        obtain ⟨a1, c1, rfl, hc1, y1, rfl, hr1⟩ := h
        replace hb0_0 : ∀ (y : Since y1.w), y.w.cell? ⟨bx, 0, none⟩ = some (.slice a l.length ca) := fun y => by obtain ⟨z, e⟩ := y1.trans y; rw [e]; exact hb0_0 z
        replace hf0 : ∀ (y : Since y1.w) (o : Nat), y.w.frozen? ⟨bx, o, none⟩ = false := fun y o => by obtain ⟨z, e⟩ := y1.trans y; rw [e]; exact hf0 z o
        replace hr := hr.to ⟨y1, rfl⟩
        replace hrx := hrx.to ⟨y1, rfl⟩
        replace hrw := hrw.to ⟨y1, rfl⟩
        replace hrw2 := hrw2.to ⟨y1, rfl⟩
        replace hrx2 := hrx2.to ⟨y1, rfl⟩
        replace hs := hs.to ⟨y1, rfl⟩
        obtain ⟨q0, hq0⟩ := Since.refl y1.w
        rw [hq0]
        clear hq0
        have l1 : ((o.length : Int) != (xs.length : Int)) = false := by simp; omega
        have l2 : decide (wt.length < xs.length) = false := decide_eq_false (by omega)
        have l3 : decide (ws.length < wt.length) = false := decide_eq_false (by omega)
        have KE := Lib.hid kE
        have KO := Lib.hid kO
        have KU := Lib.hid kU
        have HE2 := Lib.hid hE2
        have HO2 := Lib.hid hO2
        have HX := Lib.hid hX
        have HE := Lib.hid hE
        have Hol := Lib.hid hol
        have Hwt := Lib.hid hwt
        clear kE kO kU hE2 hO2 hX hE hol hwt
        go_wp2_with fail
        go_loopw [10] (fun i wr => ∃ k : Nat, k ≤ xs.length ∧ i = .int .i64 k ∧ ∃ y : Since y1.w, wr = y.w) (fun i _ => xs.length - (intOf i).toNat)
        case atStart => exact ⟨0, by omega, rfl, q0, rfl⟩
        case round =>
          obtain ⟨k, hk, rfl, y, rfl⟩ := hrel
          by_cases hlt : k < xs.length
          · have hw0 := Hwt.out k hlt
            have hko : k < o.length := by have := Hol.out; omega
            obtain ⟨b1, off1, rfl, _, _⟩ := hr1 k hko
            obtain ⟨b2, off2, rfl, _, _⟩ := hrx k hlt
            have hcell : ∀ y : Since y1.w, y.w.cell? ⟨b1, off1 + k, none⟩ = some (.int .i64 (at0 o k)) := Since.at hr1 k hko
            have hcell' : ∀ y : Since y1.w, y.w.cell? ⟨b2, off2 + k, none⟩ = some (.int .i64 (at0 xs k)) := Since.at hrx k hlt
            have hk0 : (0 : Int) ≤ (k : Int) := by omega
            have hkl : (k : Int) < (xs.length : Int) := by omega
            have hkm : (k : Int) < (o.length : Int) := by omega
            have hsub : IntKind.i64.wrap (at0 o k - at0 xs k) = at0 o k - at0 xs k := IntWalk.i64_in _ (by omega)
            have hcw := fun y : Since y1.w => weight_calls y1.w y hs a l ca (at0 o k - at0 xs k) (by unfold I64; omega) hl hr
            have Hcw := Lib.hid hcw
            have hwge := hw0.1
            clear hcw hw0 hr1 hrx hrw hrw2 hrx2 hw hw2
            generalize weight l (at0 o k - at0 xs k) = W1 at *
            go_wp2_with fail
            refine wp_region_since (by kernel_rfl) (by kernel_rfl) ?_
            repeat (go_big_quiet_step ((go_at_call 18; exact Hcw.out _)))
            refine wpQuiet_nil ?_
            rintro _ ⟨y, rfl⟩
            clear hsub
            go_wp2_with fail
            go_roundw
            case rel => exact ⟨k + 1, by omega, by go_num, _, rfl⟩
            case measure => simp [intOf]; omega
          · obtain rfl : k = xs.length := by omega
            go_wp2_with fail
            obtain ⟨z0, hz0⟩ := Since.drew y
            have b0 : (0 : Int) ≤ (wt.length : Int) := by omega
            have b1 : (wt.length : Int) ≤ (ws.length : Int) := by omega
            have b2 : (wt.length : Int) ≤ (cc : Int) := by omega
            go_region_held3 (fun w' => w'.cell? ⟨bx, 0, none⟩ = some (.slice a l.length ca)) (first | go_keep | exact hb0_0 _) ((go_at_call 27; refine (add_calls y1.w z0 hs a b c l xs wt ca cb wt.length hca (Nat.le_refl _) hl hx (by omega) hr hrx hrw2 hw2).mono fun e w' h => ?_; replace h := added_ok KE.out e w' h; rw [KO.out, KU.out] at h; obtain ⟨a2, c2, rfl, hc2, y2, rfl, hr2⟩ := h))
            have hq : IntKind.i64.wrap ((xs.length : Int) / 2) = (xt.length : Int) := by
              rw [IntWalk.i64_in _ (by omega)]; have := HX.out; omega
            have Hq := Lib.hid hq; clear hq
            have c0 : (0 : Int) ≤ (xt.length : Int) := by omega
            have c1' : (xt.length : Int) ≤ (xs.length : Int) := by have := HX.out; omega
            have c2' : (xt.length : Int) ≤ (cb : Int) := by have := HX.out; omega
            have hxt : xt.length ≤ xs.length := by omega
            clear hz0
            obtain ⟨a1z, hz0⟩ : ∃ q : Option Addr, q = a1 := ⟨_, rfl⟩
            clear hz0 a1z
            replace hb0_0 : ∀ (y : Since y2.w), y.w.cell? ⟨bx, 0, none⟩ = some (.slice a l.length ca) := fun y => by obtain ⟨z, e⟩ := y2.trans y; rw [e]; exact hb0_0 z
            replace hf0 : ∀ (y : Since y2.w) (o : Nat), y.w.frozen? ⟨bx, o, none⟩ = false := fun y o => by obtain ⟨z, e⟩ := y2.trans y; rw [e]; exact hf0 z o
            replace hr := hr.to ⟨y2, rfl⟩
            replace hr1 := hr1.to ⟨y2, rfl⟩
            replace hrx := hrx.to ⟨y2, rfl⟩
            replace hrx2 := hrx2.to ⟨y2, rfl⟩
            replace hrw := hrw.to ⟨y2, rfl⟩
            replace hs := hs.to ⟨y2, rfl⟩
            obtain ⟨q2, hq0⟩ := Since.refl y2.w
            rw [hq0]
            clear hq0
            have hq := Hq.out
            obtain ⟨z1, hz1⟩ := Since.drew q2
            go_wp2_with fail
            have hxc : xt.length ≤ cb := by omega
            go_region_held3 (fun w' => w'.cell? ⟨bx, 0, none⟩ = some (.slice a l.length ca)) (first | go_keep | exact hb0_0 _) ((go_at_call 27; refine (add_calls y2.w z1 hs a b c l xt ws ca cb cc hca hcc hl (by omega) hwl hr hrx2 hrw hw).mono fun e w' h => ?_; replace h := added_ok HE2.out e w' h; rw [HO2.out, HU2.out] at h; obtain ⟨a3, c3, rfl, hc3, y3, rfl, hr3⟩ := h))
            clear hq hz1
            have hrp := row_take hr1 xt.length
            rw [HPe.out] at hrp
            have hp2 : p.length = xs.length / 2 := HP.out.trans HX.out
            have hpl := HP.out
            have t1 : ((p.length : Int) == (xs.length : Int) / 2) = true := by simp; omega
            have t2 : decide (U2 ≤ wt.length) = true := decide_eq_true hU2
            have t3 : (p.length : Int) ≤ (c1 : Int) := by have := Hol.out; omega
            have t5 : p.length ≤ c1 := by omega
            have t4 : (0 : Int) ≤ (p.length : Int) := by omega
            clear hpl hp2
            have ol9 : o.length ≤ 9223372036854775807 := by have := Hol.out; omega
            have pl9 : p.length ≤ 9223372036854775807 := by have := HP.out; omega
            clear Hq
            replace hb0_0 : ∀ (y : Since y3.w), y.w.cell? ⟨bx, 0, none⟩ = some (.slice a l.length ca) := fun y => by obtain ⟨z, e⟩ := y3.trans y; rw [e]; exact hb0_0 z
            replace hf0 : ∀ (y : Since y3.w) (o : Nat), y.w.frozen? ⟨bx, o, none⟩ = false := fun y o => by obtain ⟨z, e⟩ := y3.trans y; rw [e]; exact hf0 z o
            replace hs := hs.to ⟨y3, rfl⟩
            replace hr1 := hr1.to ⟨y3, rfl⟩
            replace hr2 := hr2.to ⟨y3, rfl⟩
            replace hrp := hrp.to ⟨y3, rfl⟩
            have s1 := fun q : Since y3.w => same_calls y3.w q a1 a2 o o c1 c2 ol9 ol9 hr1 hr2
            have s2 := fun q : Since y3.w => same_calls y3.w q a3 a1 p p c3 c1 pl9 pl9 hr3 hrp
            rw [decide_eq_true rfl] at s1 s2
            have S1 := Lib.hid s1
            have S2 := Lib.hid s2
            have Haw := Lib.hid (fun q : Since y3.w => awake_calls y3.w q hs)
            clear s1 s2
            obtain ⟨q3, hq0⟩ := Since.refl y3.w
            rw [hq0]
            clear hq0
            go_wp2_with fail
            refine (S1.out q3).mono ?_
            rintro _ _ ⟨rfl, q4, rfl⟩
            go_wp2_with fail
            refine (S2.out q4).mono ?_
            rintro _ _ ⟨rfl, q5, rfl⟩
            go_wp2_with fail
            refine (Haw.out q5).mono ?_
            rintro _ _ ⟨rfl, q6, rfl⟩
            go_wp2_with fail
            go_ret
            exact ⟨rfl, by obtain ⟨u, e⟩ := y3.trans q6; rw [e]; obtain ⟨u, e⟩ := y2.trans u; rw [e]; obtain ⟨u, e⟩ := y1.trans u; rw [e]; exact Hup.out u⟩
      · have hne : (addE l xs ws != 0) = true := by simpa using hE
        have Hno := Lib.hid (added_no (w := W) hE)
        clear hE
        go_wp2_with fail
        refine (add_calls W _ hs a b c l xs ws ca cb cc hca hcc hl hx hwl hr hrx hrw hw).mono fun e w' h => ?_
        obtain ⟨rfl, y, rfl⟩ := Hno.out e w' h
        clear h
        go_wp2_with fail
        refine (awake_calls W _ hs).mono ?_
        rintro _ _ ⟨rfl, q, rfl⟩
        go_wp2_with fail
        go_ret
        exact ⟨rfl, Hup.out _⟩
    · have hc : (40 < xs.length) ∨ (xs.length ≤ 40 ∧ 200 < ws.length) := by omega
      clear hok
      rcases hc with h | ⟨h, h'⟩
      · have d40 : decide (40 < (xs.length : Int)) = true := decide_eq_true (by omega)
        go_wp2_with fail
        refine (awake_calls W _ hs).mono ?_
        rintro _ _ ⟨rfl, q, rfl⟩
        go_wp2_with fail
        go_ret
        exact ⟨rfl, Hup.out _⟩
      · have d40 : decide (40 < (xs.length : Int)) = false := decide_eq_false (by omega)
        have d200 : decide (200 < (ws.length : Int)) = true := decide_eq_true (by omega)
        go_wp2_with fail
        refine (awake_calls W _ hs).mono ?_
        rintro _ _ ⟨rfl, q, rfl⟩
        go_wp2_with fail
        go_ret
        exact ⟨rfl, Hup.out _⟩
  · go_wp2_with fail
    refine (few_no W _ a l.length ca hl hf).mono ?_
    rintro _ _ ⟨rfl, y, rfl⟩
    go_wp2_with fail
    refine (awake_calls W _ hs).mono ?_
    rintro _ _ ⟨rfl, y, rfl⟩
    go_wp2_with fail
    go_ret
    exact ⟨rfl, Hup.out _⟩
end Go.Proofs.YtmobdlddfoaocaaDoor
