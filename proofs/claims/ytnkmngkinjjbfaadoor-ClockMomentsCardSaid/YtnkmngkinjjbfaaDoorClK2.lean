/- The laws of windows, walked: ClockMoments. -/
import Derived.Test.YtnkmngkinjjbfaaDoorClK1
set_option linter.all false
namespace Go.Proofs.YtnkmngkinjjbfaaDoor
open Go.RowKit

set_option maxRecDepth 100000 in
set_option maxHeartbeats 8000000 in
theorem clockMoments_calls (w : World) (x : Since w) (hT : Tabs w) (pa : Option Addr) (a : List Win) (ca : Nat) (pb : Option Addr) (b : List Win) (cb : Nat) (t : Int) (ha : WinRow w pa a) (hb : WinRow w pb b) (hla : a.length ≤ 9223372036854775807) (hlb : b.length ≤ 9223372036854775807) :
    Calls Tryd.prog 8 #[.slice pa a.length ca, .slice pb b.length cb, .int .i64 t] x.w fun o w' => o = .returned (.bool true) ∧ ∃ y : Since w, w' = y.w := by
  have HT := Lib.hid hT
  have HA := Lib.hid (Since.els ha x)
  have HB := Lib.hid (Since.els hb x)
  have Hf := Lib.hid (few_calls a.length b.length pa ca pb cb hla hlb)
  clear hT ha hb
  by_cases hf : a.length ≤ 40 ∧ b.length ≤ 40
  case neg =>
    have HF := Lib.hid (fun w => Hf.out false (by simp; omega) w)
    clear hf Hf
    go_enter Tryd.func8, Tryd.ntmps8
    go_wp2_with (first | (go_at_call 24; ((with_reducible refine (HF.out _).mono ?_); rintro _ _ ⟨rfl, rfl⟩)) | (go_at_call 11; ((with_reducible refine (awake_calls w x HT.out).mono ?_); rintro _ _ ⟨rfl, yz, rfl⟩)))
    go_ret
    exact ⟨rfl, yz, rfl⟩
  case pos =>
    have HF := Lib.hid (fun w => Hf.out true (by simp; omega) w)
    obtain ⟨hna, hnb⟩ := hf
    clear Hf
    cases hbad : badW a || badW b with
    | true =>
      have hs : setE a b = 1 := by unfold setE; rw [hbad]; rfl
      have Hbad := Lib.hid hbad
      have hck : unE a = 1 ∨ (unE a = 0 ∧ unE b = 1) := by
        unfold unE
        revert hbad
        cases badW a <;> cases badW b <;> simp
      have Hck := Lib.hid hck
      have Hs := Lib.hid hs
      clear hbad hs hck
      go_enter Tryd.func8, Tryd.ntmps8
      go_upto_region 3 with (go_at_call 24; ((with_reducible refine (HF.out _).mono ?_); rintro _ _ ⟨rfl, rfl⟩))
      go_wp2_with fail
      have hcall := common_c (W := w) x.w (IsSince.of x) pa a a.length ca pb b b.length cb rfl rfl HA.out HB.out (by omega) (by omega)
      rw [Hs.out] at hcall
      refine hcall.mono ?_
      clear hcall
      rintro _ _ ⟨ac, cc, c, y1, rfl, rfl, hz, hr, _, hq⟩
      replace HA := Lib.hid (HA.out.to hz)
      replace HB := Lib.hid (HB.out.to hz)
      clear hz
      have Hc := Lib.hid hr
      have Hco := Lib.hid hq
      clear hr hq
      go_wp2_with fail
      have hcall := minus_c (W := w) y1.w (IsSince.of y1) pa a a.length ca pb b b.length cb rfl rfl HA.out HB.out (by omega) (by omega)
      rw [Hs.out] at hcall
      refine hcall.mono ?_
      clear hcall
      rintro _ _ ⟨am, cm, m, y2, rfl, rfl, hz, hr, _, hq⟩
      replace HA := Lib.hid (HA.out.to hz)
      replace HB := Lib.hid (HB.out.to hz)
      replace Hc := Lib.hid (Hc.out.to hz)
      clear hz
      have Hm := Lib.hid hr
      have Hmo := Lib.hid hq
      clear hr hq
      obtain rfl : c = [] := Hco.out.no Hbad.out
      obtain rfl : m = [] := Hmo.out.no Hbad.out
      simp only [List.length_nil]
      rcases Hck.out with hk | ⟨hk, hk2⟩
      · have Hk := Lib.hid hk
        clear hk
        go_wp2_with fail
        have hcall := check_c (W := w) y2.w (IsSince.of y2) pa a a.length ca rfl HA.out (by omega)
        rw [Hk.out] at hcall
        refine hcall.mono ?_
        clear hcall
        rintro _ _ ⟨rfl, y3, rfl, hz⟩
        replace HA := Lib.hid (HA.out.to hz)
        replace HB := Lib.hid (HB.out.to hz)
        clear hz
        go_wp2_with fail
        refine (awake_calls w y3 HT.out).mono ?_
        rintro _ _ ⟨rfl, yz, rfl⟩
        go_wp2_with fail
        go_ret
        exact ⟨rfl, yz, rfl⟩
      · have Hk := Lib.hid hk
        have Hk2 := Lib.hid hk2
        clear hk hk2
        go_wp2_with fail
        have hcall := check_c (W := w) y2.w (IsSince.of y2) pa a a.length ca rfl HA.out (by omega)
        rw [Hk.out] at hcall
        refine hcall.mono ?_
        clear hcall
        rintro _ _ ⟨rfl, y3, rfl, hz⟩
        replace HA := Lib.hid (HA.out.to hz)
        replace HB := Lib.hid (HB.out.to hz)
        clear hz
        go_wp2_with fail
        have hcall := check_c (W := w) y3.w (IsSince.of y3) pb b b.length cb rfl HB.out (by omega)
        rw [Hk2.out] at hcall
        refine hcall.mono ?_
        clear hcall
        rintro _ _ ⟨rfl, y4, rfl, hz⟩
        replace HA := Lib.hid (HA.out.to hz)
        replace HB := Lib.hid (HB.out.to hz)
        clear hz
        go_wp2_with fail
        refine (awake_calls w y4 HT.out).mono ?_
        rintro _ _ ⟨rfl, yz, rfl⟩
        go_wp2_with fail
        go_ret
        exact ⟨rfl, yz, rfl⟩
    | false =>
      have hs : setE a b = 0 := by unfold setE; rw [hbad]; rfl
      have hab : badW a = false ∧ badW b = false := by revert hbad; cases badW a <;> cases badW b <;> simp
      have hk : unE a = 0 := by unfold unE; rw [hab.1]; rfl
      have hk2 : unE b = 0 := by unfold unE; rw [hab.2]; rfl
      have Hbad := Lib.hid hbad
      have Hba := Lib.hid hab.1
      have Hs := Lib.hid hs
      have Hk := Lib.hid hk
      have Hk2 := Lib.hid hk2
      clear hbad hs hk hk2 hab
      go_enter Tryd.func8, Tryd.ntmps8
      go_upto_region 3 with (go_at_call 24; ((with_reducible refine (HF.out _).mono ?_); rintro _ _ ⟨rfl, rfl⟩))
      go_wp2_with fail
      have hcall := common_c (W := w) x.w (IsSince.of x) pa a a.length ca pb b b.length cb rfl rfl HA.out HB.out (by omega) (by omega)
      rw [Hs.out] at hcall
      refine hcall.mono ?_
      clear hcall
      rintro _ _ ⟨ac, cc, c, y1, rfl, rfl, hz, hr, _, hq⟩
      replace HA := Lib.hid (HA.out.to hz)
      replace HB := Lib.hid (HB.out.to hz)
      clear hz
      have Hc := Lib.hid hr
      have Hco := Lib.hid hq
      clear hr hq
      go_wp2_with fail
      have hcall := minus_c (W := w) y1.w (IsSince.of y1) pa a a.length ca pb b b.length cb rfl rfl HA.out HB.out (by omega) (by omega)
      rw [Hs.out] at hcall
      refine hcall.mono ?_
      clear hcall
      rintro _ _ ⟨am, cm, m, y2, rfl, rfl, hz, hr, _, hq⟩
      replace HA := Lib.hid (HA.out.to hz)
      replace HB := Lib.hid (HB.out.to hz)
      replace Hc := Lib.hid (Hc.out.to hz)
      clear hz
      have Hm := Lib.hid hr
      have Hmo := Lib.hid hq
      clear hr hq
      go_wp2_with fail
      have hcall := check_c (W := w) y2.w (IsSince.of y2) pa a a.length ca rfl HA.out (by omega)
      rw [Hk.out] at hcall
      refine hcall.mono ?_
      clear hcall
      rintro _ _ ⟨rfl, y3, rfl, hz⟩
      replace HA := Lib.hid (HA.out.to hz)
      replace HB := Lib.hid (HB.out.to hz)
      replace Hc := Lib.hid (Hc.out.to hz)
      replace Hm := Lib.hid (Hm.out.to hz)
      clear hz
      go_wp2_with fail
      have hcall := check_c (W := w) y3.w (IsSince.of y3) pb b b.length cb rfl HB.out (by omega)
      rw [Hk2.out] at hcall
      refine hcall.mono ?_
      clear hcall
      rintro _ _ ⟨rfl, y4, rfl, hz⟩
      replace HA := Lib.hid (HA.out.to hz)
      replace HB := Lib.hid (HB.out.to hz)
      replace Hc := Lib.hid (Hc.out.to hz)
      replace Hm := Lib.hid (Hm.out.to hz)
      clear hz
      go_wp2_with fail
      have hcall := union_c (W := w) y4.w (IsSince.of y4) pa a a.length ca rfl HA.out (by omega)
      rw [Hk.out] at hcall
      refine hcall.mono ?_
      clear hcall
      rintro _ _ ⟨au, cu, u, y5, rfl, rfl, hz, hr, _, hq⟩
      replace HA := Lib.hid (HA.out.to hz)
      replace HB := Lib.hid (HB.out.to hz)
      replace Hc := Lib.hid (Hc.out.to hz)
      replace Hm := Lib.hid (Hm.out.to hz)
      clear hz
      have Hu := Lib.hid hr
      have Huo := Lib.hid hq
      clear hr hq
      have hul : u.length ≤ 100000 := by have := Huo.out.n; omega
      have hcl : c.length ≤ 100000 := by have := Hco.out.n; omega
      have hml : m.length ≤ 100000 := min_len Hmo.out.n hna hnb
      have Xu := Lib.hid ((Huo.out.ok Hba.out).h t)
      have Xc := Lib.hid (show hasW c t = (hasW a t && hasW b t) from (Hco.out.ok Hbad.out).h t)
      have Xm := Lib.hid (show hasW m t = (hasW a t && !hasW b t) from (Hmo.out.ok Hbad.out).h t)
      cases hva : hasW a t <;> cases hvb : hasW b t
      all_goals
        rw [hva] at Xu
        rw [hva, hvb] at Xc Xm
        have Hva := Lib.hid hva
        have Hvb := Lib.hid hvb
        clear hva hvb
        simp only [Bool.and_true, Bool.and_false, Bool.not_true, Bool.not_false] at Xc Xm
        go_wp2_with fail
        have hcall := has_c (W := w) y5.w (IsSince.of y5) pa a a.length ca t rfl HA.out (by omega)
        rw [Hva.out] at hcall
        refine hcall.mono ?_
        clear hcall
        rintro _ _ ⟨rfl, y6, rfl, hz⟩
        replace HA := Lib.hid (HA.out.to hz)
        replace HB := Lib.hid (HB.out.to hz)
        replace Hc := Lib.hid (Hc.out.to hz)
        replace Hm := Lib.hid (Hm.out.to hz)
        replace Hu := Lib.hid (Hu.out.to hz)
        clear hz
        go_wp2_with fail
        have hcall := has_c (W := w) y6.w (IsSince.of y6) pb b b.length cb t rfl HB.out (by omega)
        rw [Hvb.out] at hcall
        refine hcall.mono ?_
        clear hcall
        rintro _ _ ⟨rfl, y7, rfl, hz⟩
        replace HA := Lib.hid (HA.out.to hz)
        replace HB := Lib.hid (HB.out.to hz)
        replace Hc := Lib.hid (Hc.out.to hz)
        replace Hm := Lib.hid (Hm.out.to hz)
        replace Hu := Lib.hid (Hu.out.to hz)
        clear hz
        go_wp2_with fail
        have hcall := has_c (W := w) y7.w (IsSince.of y7) au u u.length cu t rfl Hu.out hul
        rw [Xu.out] at hcall
        refine hcall.mono ?_
        clear hcall
        rintro _ _ ⟨rfl, y8, rfl, hz⟩
        replace HA := Lib.hid (HA.out.to hz)
        replace HB := Lib.hid (HB.out.to hz)
        replace Hc := Lib.hid (Hc.out.to hz)
        replace Hm := Lib.hid (Hm.out.to hz)
        replace Hu := Lib.hid (Hu.out.to hz)
        clear hz
        go_wp2_with fail
        have hcall := has_c (W := w) y8.w (IsSince.of y8) ac c c.length cc t rfl Hc.out hcl
        rw [Xc.out] at hcall
        refine hcall.mono ?_
        clear hcall
        rintro _ _ ⟨rfl, y9, rfl, hz⟩
        replace HA := Lib.hid (HA.out.to hz)
        replace HB := Lib.hid (HB.out.to hz)
        replace Hc := Lib.hid (Hc.out.to hz)
        replace Hm := Lib.hid (Hm.out.to hz)
        replace Hu := Lib.hid (Hu.out.to hz)
        clear hz
        go_wp2_with fail
        have hcall := has_c (W := w) y9.w (IsSince.of y9) am m m.length cm t rfl Hm.out hml
        rw [Xm.out] at hcall
        refine hcall.mono ?_
        clear hcall
        rintro _ _ ⟨rfl, y10, rfl, hz⟩
        replace HA := Lib.hid (HA.out.to hz)
        replace HB := Lib.hid (HB.out.to hz)
        replace Hc := Lib.hid (Hc.out.to hz)
        replace Hm := Lib.hid (Hm.out.to hz)
        replace Hu := Lib.hid (Hu.out.to hz)
        clear hz
        go_wp2_with fail
        refine (awake_calls w y10 HT.out).mono ?_
        rintro _ _ ⟨rfl, yz, rfl⟩
        go_wp2_with fail
        go_ret
        exact ⟨rfl, yz, rfl⟩
end Go.Proofs.YtnkmngkinjjbfaaDoor
