/- The laws of windows, walked: ClockLengths. -/
import Derived.Test.YtnkmngkinjjbfaaDoorClK1
set_option linter.all false
namespace Go.Proofs.YtnkmngkinjjbfaaDoor
open Go.RowKit

theorem lenW_nil : lenW [] = 0 := rfl
theorem badW_app (a b : List Win) : badW (a ++ b) = (badW a || badW b) := by simp [badW]
theorem norm_good {l : List Win} (h : Norm l) : badW l = false := badW_false.2 fun x hx => (vldW_iff x).2 (by have := h.v x hx; omega)
theorem norm_take {l : List Win} (h : Norm l) (k : Nat) : Norm (l.take k) := ⟨fun x hx => h.v x (List.mem_of_mem_take hx), h.s.sublist (List.take_sublist k l)⟩
/-- the sums of the lengths -/
theorem len_laws {a b ua ub c m uj : List Win} (ha : IsSet ua (hasW a)) (hb : IsSet ub (hasW b)) (hc : IsSet c (fun t => hasW a t && hasW b t)) (hm : IsSet m (fun t => hasW a t && !hasW b t)) (hj : IsSet uj (hasW (a ++ b))) : lenW c + lenW m = lenW ua ∧ lenW uj + lenW c = lenW ua + lenW ub := by
  rw [ha.lenN, hb.lenN, hc.lenN, hm.lenN, hj.lenN]
  have h1 := ccnt_add (S := hasW a) (A := fun t => hasW a t && hasW b t) (B := fun t => hasW a t && !hasW b t) 4294944000 fun t _ _ => by cases hasW a t <;> cases hasW b t <;> exact ⟨rfl, rfl⟩
  have h2 := ccnt_add (S := hasW b) (A := fun t => hasW a t && hasW b t) (B := fun t => hasW b t && !hasW a t) 4294944000 fun t _ _ => by cases hasW a t <;> cases hasW b t <;> exact ⟨rfl, rfl⟩
  have h3 := ccnt_add (S := hasW (a ++ b)) (A := hasW a) (B := fun t => hasW b t && !hasW a t) 4294944000 fun t _ _ => by rw [hasW_append]; cases hasW a t <;> cases hasW b t <;> exact ⟨rfl, rfl⟩
  generalize ccnt (hasW a) 4294944000 = p at *
  generalize ccnt (hasW b) 4294944000 = q at *
  generalize ccnt (hasW (a ++ b)) 4294944000 = r at *
  generalize ccnt (fun t => hasW a t && hasW b t) 4294944000 = s at *
  generalize ccnt (fun t => hasW a t && !hasW b t) 4294944000 = u at *
  generalize ccnt (fun t => hasW b t && !hasW a t) 4294944000 = v at *
  omega
set_option maxRecDepth 100000 in
set_option maxHeartbeats 8000000 in
theorem clockLengths_calls (w : World) (x : Since w) (hT : Tabs w) (pa : Option Addr) (a : List Win) (ca : Nat) (pb : Option Addr) (b : List Win) (cb : Nat) (ha : WinRow w pa a) (hb : WinRow w pb b) (hza : pa = none → ca = 0) (hzb : pb = none → cb = 0) (hla : a.length ≤ 9223372036854775807) (hlb : b.length ≤ 9223372036854775807) :
    Calls Tryd.prog 9 #[.slice pa a.length ca, .slice pb b.length cb] x.w fun o w' => o = .returned (.bool true) ∧ ∃ y : Since w, w' = y.w := by
  have HT := Lib.hid hT
  have HA := Lib.hid (Since.els ha x)
  have HB := Lib.hid (Since.els hb x)
  have Hf := Lib.hid (few_calls a.length b.length pa ca pb cb hla hlb)
  clear hT ha hb
  by_cases hf : a.length ≤ 40 ∧ b.length ≤ 40
  case neg =>
    have HF := Lib.hid (fun w => Hf.out false (by simp; omega) w)
    clear hf Hf
    go_enter Tryd.func9, Tryd.ntmps9
    go_wp2_with (first | (go_at_call 24; ((with_reducible refine (HF.out _).mono ?_); rintro _ _ ⟨rfl, rfl⟩)) | (go_at_call 11; ((with_reducible refine (awake_calls w x HT.out).mono ?_); rintro _ _ ⟨rfl, yz, rfl⟩)))
    go_ret
    exact ⟨rfl, yz, rfl⟩
  case pos =>
    have HF := Lib.hid (fun w => Hf.out true (by simp; omega) w)
    obtain ⟨hna, hnb⟩ := hf
    clear Hf
    cases hbad : badW a || badW b with
    | true =>
      have hck : (badW a = true ∧ unE a = 1 ∧ badW b = true ∧ unE b = 1) ∨ (badW a = true ∧ unE a = 1 ∧ badW b = false ∧ unE b = 0) ∨ (badW a = false ∧ unE a = 0 ∧ badW b = true ∧ unE b = 1) := by
        revert hbad
        unfold unE
        cases badW a <;> cases badW b <;> simp
      clear hbad
      rcases hck with ⟨h1, h2, h3, h4⟩ | ⟨h1, h2, h3, h4⟩ | ⟨h1, h2, h3, h4⟩
      all_goals
        have H1 := Lib.hid h1
        have H2 := Lib.hid h2
        have H3 := Lib.hid h3
        have H4 := Lib.hid h4
        clear h1 h2 h3 h4
        go_enter Tryd.func9, Tryd.ntmps9
        go_upto_region 3 with (go_at_call 24; ((with_reducible refine (HF.out _).mono ?_); rintro _ _ ⟨rfl, rfl⟩))
        go_wp2_with fail
        have hcall := length_c (W := w) x.w (IsSince.of x) pa a a.length ca rfl HA.out (by omega)
        unfold LenS at hcall
        rw [H2.out] at hcall
        refine hcall.mono ?_
        clear hcall
        rintro _ _ ⟨u, y1, rfl, rfl, hz, hu⟩
        replace HA := Lib.hid (HA.out.to hz)
        replace HB := Lib.hid (HB.out.to hz)
        clear hz
        go_wp2_with fail
        have hcall := length_c (W := w) y1.w (IsSince.of y1) pb b b.length cb rfl HB.out (by omega)
        unfold LenS at hcall
        rw [H4.out] at hcall
        refine hcall.mono ?_
        clear hcall
        rintro _ _ ⟨v, y2, rfl, rfl, hz, hv⟩
        clear hz
        try (have hu0 : u = [] := (by exact hu.no H1.out); subst hu0)
        try (have hv0 : v = [] := (by exact hv.no H3.out); subst hv0)
        clear hu hv
        try simp only [lenW_nil]
        go_wp2_with fail
        refine (awake_calls w y2 HT.out).mono ?_
        rintro _ _ ⟨rfl, yz, rfl⟩
        go_wp2_with fail
        go_ret
        exact ⟨rfl, yz, rfl⟩
    | false =>
      have hs : setE a b = 0 := by unfold setE; rw [hbad]; rfl
      have hab : badW a = false ∧ badW b = false := by revert hbad; cases badW a <;> cases badW b <;> simp
      have hk : unE a = 0 := by unfold unE; rw [hab.1]; rfl
      have hk2 : unE b = 0 := by unfold unE; rw [hab.2]; rfl
      have hjo : badW (a ++ b) = false := by rw [badW_app, hab.1, hab.2]; rfl
      have hk3 : unE (a ++ b) = 0 := by unfold unE; rw [hjo]; rfl
      have Hbad := Lib.hid hbad
      have Hba := Lib.hid hab.1
      have Hbb := Lib.hid hab.2
      have Hjo := Lib.hid hjo
      have Hs := Lib.hid hs
      have Hk := Lib.hid hk
      have Hk2 := Lib.hid hk2
      have Hk3 := Lib.hid hk3
      have Hza := Lib.hid hza
      have Hzb := Lib.hid hzb
      clear hbad hs hk hk2 hab hjo hk3 hza hzb
      go_enter Tryd.func9, Tryd.ntmps9
      go_upto_region 3 with (go_at_call 24; ((with_reducible refine (HF.out _).mono ?_); rintro _ _ ⟨rfl, rfl⟩))
      go_wp2_with fail
      have hcall := length_c (W := w) x.w (IsSince.of x) pa a a.length ca rfl HA.out (by omega)
      unfold LenS at hcall
      rw [Hk.out] at hcall
      refine hcall.mono ?_
      clear hcall
      rintro _ _ ⟨ua, y1, rfl, rfl, hz, hq⟩
      have Huao := Lib.hid hq
      replace HA := Lib.hid (HA.out.to hz)
      replace HB := Lib.hid (HB.out.to hz)
      clear hz hq
      go_wp2_with fail
      have hcall := length_c (W := w) y1.w (IsSince.of y1) pb b b.length cb rfl HB.out (by omega)
      unfold LenS at hcall
      rw [Hk2.out] at hcall
      refine hcall.mono ?_
      clear hcall
      rintro _ _ ⟨ub, y2, rfl, rfl, hz, hq⟩
      have Hubo := Lib.hid hq
      replace HA := Lib.hid (HA.out.to hz)
      replace HB := Lib.hid (HB.out.to hz)
      clear hz hq
      go_wp2_with fail
      have hcall := common_c (W := w) y2.w (IsSince.of y2) pa a a.length ca pb b b.length cb rfl rfl HA.out HB.out (by omega) (by omega)
      rw [Hs.out] at hcall
      refine hcall.mono ?_
      clear hcall
      rintro _ _ ⟨ac, cc, c, y3, rfl, rfl, hz, hr, _, hq⟩
      replace HA := Lib.hid (HA.out.to hz)
      replace HB := Lib.hid (HB.out.to hz)
      clear hz
      have Hc := Lib.hid hr
      have Hco := Lib.hid hq
      clear hr hq
      go_wp2_with fail
      have hcall := minus_c (W := w) y3.w (IsSince.of y3) pa a a.length ca pb b b.length cb rfl rfl HA.out HB.out (by omega) (by omega)
      rw [Hs.out] at hcall
      refine hcall.mono ?_
      clear hcall
      rintro _ _ ⟨am, cm, m, y4, rfl, rfl, hz, hr, _, hq⟩
      replace HA := Lib.hid (HA.out.to hz)
      replace HB := Lib.hid (HB.out.to hz)
      replace Hc := Lib.hid (Hc.out.to hz)
      clear hz
      have Hm := Lib.hid hr
      have Hmo := Lib.hid hq
      clear hr hq
      have Hcs := Lib.hid (Hco.out.ok Hbad.out)
      have Hms := Lib.hid (Hmo.out.ok Hbad.out)
      have hcl : c.length ≤ 100000 := by have := Hco.out.n; omega
      have hml : m.length ≤ 100000 := min_len Hmo.out.n hna hnb
      clear Hco Hmo
      have Hkc := Lib.hid (show unE c = 0 by unfold unE; rw [norm_good Hcs.out.n]; rfl)
      have Hkm := Lib.hid (show unE m = 0 by unfold unE; rw [norm_good Hms.out.n]; rfl)
      go_wp2_with fail
      have hcall := length_c (W := w) y4.w (IsSince.of y4) ac c c.length cc rfl Hc.out hcl
      unfold LenS at hcall
      rw [Hkc.out] at hcall
      refine hcall.mono ?_
      clear hcall
      rintro _ _ ⟨uc, y5, rfl, rfl, hz, hq⟩
      have Huco := Lib.hid hq
      replace HA := Lib.hid (HA.out.to hz)
      replace HB := Lib.hid (HB.out.to hz)
      replace Hc := Lib.hid (Hc.out.to hz)
      replace Hm := Lib.hid (Hm.out.to hz)
      clear hz hq
      obtain rfl : uc = c := (Huco.out.ok (norm_good Hcs.out.n)).unique ⟨Hcs.out.n, fun t => rfl⟩
      clear Huco
      go_wp2_with fail
      have hcall := length_c (W := w) y5.w (IsSince.of y5) am m m.length cm rfl Hm.out hml
      unfold LenS at hcall
      rw [Hkm.out] at hcall
      refine hcall.mono ?_
      clear hcall
      rintro _ _ ⟨um, y6, rfl, rfl, hz, hq⟩
      have Humo := Lib.hid hq
      replace HA := Lib.hid (HA.out.to hz)
      replace HB := Lib.hid (HB.out.to hz)
      replace Hc := Lib.hid (Hc.out.to hz)
      replace Hm := Lib.hid (Hm.out.to hz)
      clear hz hq
      obtain rfl : um = m := (Humo.out.ok (norm_good Hms.out.n)).unique ⟨Hms.out.n, fun t => rfl⟩
      clear Humo
      have HTY := Lib.hid (HT.out.to y6)
      have HU := Lib.hid (fun q : Since y6.w => y6.trans q)
      go_wp2_with (at_builtin; (refine wpList_appendEls (w0 := y6.w) (enc := Win.cs) (k := 2) Win.len (by decide) win_one ?hw rfl _ _ 35 rfl y6.w.heap.size (Nat.le_refl _) ?hb 30 (.agg #[.int .i64 0, .int .i64 0]) 16 sWin (.slice (some ⟨y6.w.heap.size, 0, none⟩) 0 0) 0 [] rfl ?hown pa a ca rfl ?hels Hza.out ?h63 ?hbytes ?_; rotate_right 1; intro v2 q2 hown2 hb2 hg2; refine Hid.out ?_))
      case hw => exact IsSince.alloc (IsSince.self _) _
      case hb => simp
      case hown => exact own_empty (k := 2) (Blk.new y6.w _) (Nat.le_refl _)
      case hels => exact HA.out.to (IsSince.alloc (IsSince.self _) _)
      case h63 => unfold maxLen; omega
      case hbytes => omega
      have Hown2 := Lib.hid hown2
      clear hown2 hg2
      refine Lib.hid ?_
      go_wp2_with (at_builtin; (refine wpList_appendEls (w0 := y6.w) (enc := Win.cs) (k := 2) Win.len (by decide) win_one ⟨q2, rfl⟩ rfl _ _ 35 rfl y6.w.heap.size (Nat.le_refl _) ?hb 30 (.agg #[.int .i64 0, .int .i64 0]) 16 sWin v2 (0 + a.length) ([] ++ flat Win.cs a) rfl Hown2.out pb b cb rfl ?hels Hzb.out ?h63 ?hbytes ?_; rotate_right 1; intro v3 q3 hown3 hb3 hg3; refine Hid.out ?_))
      case hb => exact hb2
      case hels => exact HB.out.to (IsSince.of q2)
      case h63 => unfold maxLen; omega
      case hbytes => omega
      rw [List.nil_append, ← flat_append, show 0 + a.length + b.length = (a ++ b).length by simp] at hown3
      obtain ⟨_, a5, c5, rfl, hc5, he5, _, _⟩ := own_els Win.len (by decide) hown3
      have HO := Lib.hid he5
      have hol : (a ++ b).length ≤ 80 := by simp; omega
      clear hc5 he5 hown3 hg3 hb3 hb2 Hown2
      refine Lib.hid ?_
      replace HA := Lib.hid (HA.out.to (IsSince.of q3))
      replace HB := Lib.hid (HB.out.to (IsSince.of q3))
      replace Hc := Lib.hid (Hc.out.to (IsSince.of q3))
      replace Hm := Lib.hid (Hm.out.to (IsSince.of q3))
      go_wp2_with fail
      have hcall := length_c (W := y6.w) q3.w (IsSince.of q3) a5 (a ++ b) (a.length + b.length) c5 (by simp) HO.out (by omega)
      unfold LenS at hcall
      rw [Hk3.out] at hcall
      refine hcall.mono ?_
      clear hcall
      rintro _ _ ⟨uj, y21, rfl, rfl, hz, hq⟩
      have Hujo := Lib.hid hq
      replace HA := Lib.hid (HA.out.to hz)
      replace HB := Lib.hid (HB.out.to hz)
      replace Hc := Lib.hid (Hc.out.to hz)
      replace Hm := Lib.hid (Hm.out.to hz)
      replace HO := Lib.hid (HO.out.to hz)
      clear hz hq
      have hsum := len_laws (Huao.out.ok Hba.out) (Hubo.out.ok Hbb.out) Hcs.out Hms.out (Hujo.out.ok Hjo.out)
      have r1 := lenW_range (Huao.out.ok Hba.out).n
      have r2 := lenW_range (Hubo.out.ok Hbb.out).n
      have r3 := lenW_range Hcs.out.n
      have r4 := lenW_range Hms.out.n
      have r5 := lenW_range (Hujo.out.ok Hjo.out).n
      have Hnt := Lib.hid (fun k : Nat => lenW_range (norm_take Hcs.out.n k))
      have Hcv := Lib.hid Hcs.out.n.v
      clear Huao Hubo Hujo Hcs Hms Hbad Hba Hbb Hjo
      obtain ⟨N, hN⟩ : ∃ N, N = lenW uc := ⟨_, rfl⟩
      rw [← hN] at hsum r3 ⊢
      have HN := Lib.hid hN
      clear hN
      generalize lenW ua = X at *
      generalize lenW ub = Y0 at *
      generalize lenW um = K0 at *
      generalize lenW uj = J at *
      obtain ⟨s1, s2⟩ := hsum
      obtain ⟨r1a, r1b⟩ := r1
      obtain ⟨r2a, r2b⟩ := r2
      obtain ⟨r3a, r3b⟩ := r3
      obtain ⟨r4a, r4b⟩ := r4
      obtain ⟨r5a, r5b⟩ := r5
      have b1 : (N + K0 == X) = true := by simp; omega
      have b2 : (J + N == X + Y0) = true := by simp; omega
      have b3 : (N == N) = true := by simp
      clear s1 s2
      obtain ⟨n, hn⟩ : ∃ n, n = uc.length := ⟨_, rfl⟩
      rw [← hn]
      rw [← hn] at hcl
      have Hn := Lib.hid hn
      clear hn
      have HTY2 := Lib.hid (HTY.out.to y21)
      have HU2 := Lib.hid (fun q : Since y21.w => show ∃ z : Since w, q.w = z.w by obtain ⟨z, hz⟩ := y21.trans q; rw [hz]; exact HU.out z)
      go_wp2_with fail
      go_loopw [19, 20] (fun ss si wr => ∃ (k : Nat) (y : Since y21.w), k ≤ n ∧ si = .int .i64 (k : Int) ∧ ss = .int .i64 (lenW (uc.take k)) ∧ wr = y.w) (fun _ si _ => n - (intOf si).toNat)
      case atStart => exact ⟨0, Since.self _, by omega, rfl, rfl, rfl⟩
      case round =>
        obtain ⟨k, y, hk, rfl, rfl, rfl⟩ := hrel
        by_cases hlt : k < n
        · obtain ⟨e, he⟩ : ∃ e, uc[k]? = some e := ⟨_, List.getElem?_eq_getElem (by have := Hn.out; omega)⟩
          have hk0 : (0 : Int) ≤ (k : Int) := by omega
          have hkl : (k : Int) < (n : Int) := by omega
          have Hx := Lib.hid (lenW_take uc k e he)
          obtain ⟨l1, l2⟩ := Hnt.out k
          obtain ⟨e1, e2, e3⟩ := Hcv.out e (List.mem_of_getElem? he)
          obtain ⟨b1', off1, rfl, h1'⟩ := Els.win (Since.els Hc.out y) he
          have ra0 := h1'.c0
          have ra1 := h1'.c1
          obtain ⟨S, hS⟩ : ∃ S, S = lenW (uc.take k) := ⟨_, rfl⟩
          rw [← hS] at Hx l1 l2 ⊢
          clear hS
          have w1 : IntKind.i64.wrap (S + e.t) = S + e.t := IntWalk.i64_in _ (by omega)
          have w2 : IntKind.i64.wrap (S + e.t - e.f) = S + e.t - e.f := IntWalk.i64_in _ (by omega)
          clear h1' he
          obtain ⟨q0, hq0⟩ := Since.refl y.w
          rw [hq0]
          clear hq0
          go_wp2_with fail
          refine wp_region_since (by kernel_rfl) (by kernel_rfl) ?_
          repeat (go_big_quiet_step (fail))
          refine wpQuiet_nil ?_
          rintro _ ⟨z, rfl⟩
          clear w1 w2
          go_wp2_with fail
          obtain ⟨y5, h5⟩ := y.trans z
          rw [h5]
          go_roundw
          case rel => exact ⟨k + 1, y5, by omega, by go_num, by rw [Hx.out, show S + (e.t - e.f) = S + e.t - e.f by omega], rfl⟩
          case measure => simp [intOf] <;> omega
        · obtain rfl : k = n := by omega
          have Htk := Lib.hid (show lenW (uc.take k) = N by rw [List.take_of_length_le (by have := Hn.out; omega), HN.out])
          rw [Htk.out]
          go_wp2_with (go_at_call 11; ((with_reducible refine (awake_calls y21.w y HTY2.out).mono ?_); rintro _ _ ⟨rfl, yz, rfl⟩))
          go_ret
          exact ⟨rfl, HU2.out yz⟩
end Go.Proofs.YtnkmngkinjjbfaaDoor
