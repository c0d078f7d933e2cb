/- The laws of windows, walked: ClockForms. -/
import Derived.Test.YtnkmngkinjjbfaaDoorClK1
set_option linter.all false
namespace Go.Proofs.YtnkmngkinjjbfaaDoor
open Go.RowKit

/-- what the doubling of a list, from its end, keeps -/
structure DblInv (a : List Win) (k : Nat) (out : List Win) : Prop where
  h : ∀ t, hasW out t = hasW (a.drop k) t
  m : ∀ x ∈ out, x ∈ a
  n : out.length = 2 * (a.length - k)
theorem dbl_start (a : List Win) : DblInv a a.length [] := ⟨fun t => by rw [List.drop_length], fun x hx => (by cases hx), by simp⟩
theorem DblInv.step {a : List Win} {j : Nat} {out : List Win} {e : Win} (h : DblInv a (j + 1) out) (he : a[j]? = some e) : DblInv a j (out ++ [e, e]) := by
  obtain ⟨hj, hv⟩ := List.getElem?_eq_some_iff.1 he
  refine ⟨fun t => ?_, fun x hx => ?_, ?_⟩
  · rw [hasW_append, h.h, List.drop_eq_getElem_cons hj, hv, hasW_cons, hasW_cons, hasW_cons, hasW_nil]
    cases hasW (a.drop (j + 1)) t <;> cases inW t e <;> rfl
  · rcases List.mem_append.1 hx with hx | hx
    · exact h.m x hx
    · have : x = e := by simpa using hx
      subst this; exact List.mem_of_getElem? he
  · have := h.n; simp; omega
theorem DblInv.un {a out : List Win} (h : DblInv a 0 out) : ∀ t, hasW out t = hasW a t := h.h
theorem DblInv.good {a out : List Win} {k : Nat} (h : DblInv a k out) (hb : badW a = false) : badW out = false := badW_false.2 fun x hx => badW_false.1 hb x (h.m x hx)
theorem win_two (e : Win) : ∀ u ∈ e.cs ++ e.cs, u.oneCell' = true := fun u hu => by
  rcases List.mem_append.1 hu with h | h <;> exact win_one e u h
theorem flat_two (e : Win) : flat Win.cs [e, e] = e.cs ++ e.cs := by simp [flat]
theorem norm_good {l : List Win} (h : Norm l) : badW l = false := badW_false.2 fun x hx => (vldW_iff x).2 (by have := h.v x hx; omega)
set_option maxRecDepth 100000 in
set_option maxHeartbeats 8000000 in
theorem clockForms_calls (w : World) (x : Since w) (hT : Tabs w) (pa : Option Addr) (a : List Win) (ca : Nat) (pb : Option Addr) (b : List Win) (cb : Nat) (ha : WinRow w pa a) (hb : WinRow w pb b) (hla : a.length ≤ 9223372036854775807) (hlb : b.length ≤ 9223372036854775807) :
    Calls Tryd.prog 10 #[.slice pa a.length ca, .slice pb b.length cb] x.w fun o w' => o = .returned (.bool true) ∧ ∃ y : Since w, w' = y.w := by
  have HT := Lib.hid hT
  have HA := Lib.hid (Since.els ha x)
  have HB := Lib.hid (Since.els hb x)
  have Hf := Lib.hid (few_calls a.length b.length pa ca pb cb hla hlb)
  clear hT ha hb
  by_cases hf : a.length ≤ 40 ∧ b.length ≤ 40
  case neg =>
    have HF := Lib.hid (fun w => Hf.out false (by simp; omega) w)
    clear hf Hf
    go_enter Tryd.func10, Tryd.ntmps10
    go_wp2_with (first | (go_at_call 24; ((with_reducible refine (HF.out _).mono ?_); rintro _ _ ⟨rfl, rfl⟩)) | (go_at_call 11; ((with_reducible refine (awake_calls w x HT.out).mono ?_); rintro _ _ ⟨rfl, yz, rfl⟩)))
    go_ret
    exact ⟨rfl, yz, rfl⟩
  case pos =>
    have HF := Lib.hid (fun w => Hf.out true (by simp; omega) w)
    obtain ⟨hna, hnb⟩ := hf
    clear Hf
    cases hbad : badW a || badW b with
    | true =>
      have hs : setE a b = 1 := by unfold setE; rw [hbad]; rfl
      have hck : (badW a = true ∧ unE a = 1) ∨ (badW a = false ∧ unE a = 0) := by
        unfold unE
        cases badW a <;> simp
      have Hbad := Lib.hid hbad
      have Hs := Lib.hid hs
      clear hbad hs
      rcases hck with ⟨h1, h2⟩ | ⟨h1, h2⟩
      all_goals
        have H1 := Lib.hid h1
        have H2 := Lib.hid h2
        clear h1 h2
        go_enter Tryd.func10, Tryd.ntmps10
        go_upto_region 3 with (go_at_call 24; ((with_reducible refine (HF.out _).mono ?_); rintro _ _ ⟨rfl, rfl⟩))
        go_wp2_with fail
        have hcall := union_c (W := w) x.w (IsSince.of x) pa a a.length ca rfl HA.out (by omega)
        rw [H2.out] at hcall
        refine hcall.mono ?_
        clear hcall
        rintro _ _ ⟨au, cu, u, y1, rfl, rfl, hz, hr, _, hq⟩
        replace HA := Lib.hid (HA.out.to hz)
        replace HB := Lib.hid (HB.out.to hz)
        clear hz
        have Hu := Lib.hid hr
        have Huo := Lib.hid hq
        clear hr hq
        go_wp2_with fail
        have hcall := common_c (W := w) y1.w (IsSince.of y1) pa a a.length ca pb b b.length cb rfl rfl HA.out HB.out (by omega) (by omega)
        rw [Hs.out] at hcall
        refine hcall.mono ?_
        clear hcall
        rintro _ _ ⟨ac, cc, c, y2, rfl, rfl, hz, hr, _, hq⟩
        replace HA := Lib.hid (HA.out.to hz)
        replace HB := Lib.hid (HB.out.to hz)
        replace Hu := Lib.hid (Hu.out.to hz)
        clear hz
        have Hc := Lib.hid hr
        have Hco := Lib.hid hq
        clear hr hq
        go_wp2_with fail
        have hcall := minus_c (W := w) y2.w (IsSince.of y2) pa a a.length ca pb b b.length cb rfl rfl HA.out HB.out (by omega) (by omega)
        rw [Hs.out] at hcall
        refine hcall.mono ?_
        clear hcall
        rintro _ _ ⟨am, cm, m, y3, rfl, rfl, hz, hr, _, hq⟩
        replace HA := Lib.hid (HA.out.to hz)
        replace HB := Lib.hid (HB.out.to hz)
        replace Hu := Lib.hid (Hu.out.to hz)
        replace Hc := Lib.hid (Hc.out.to hz)
        clear hz
        have Hm := Lib.hid hr
        have Hmo := Lib.hid hq
        clear hr hq
        obtain rfl : c = [] := Hco.out.no Hbad.out
        obtain rfl : m = [] := Hmo.out.no Hbad.out
        try (have hu0 : u = [] := (by exact Huo.out.no H1.out); subst hu0)
        simp only [List.length_nil]
        go_wp2_with fail
        refine (awake_calls w y3 HT.out).mono ?_
        rintro _ _ ⟨rfl, yz, rfl⟩
        go_wp2_with fail
        go_ret
        exact ⟨rfl, yz, rfl⟩
    | false =>
      have hs : setE a b = 0 := by unfold setE; rw [hbad]; rfl
      have hab : badW a = false ∧ badW b = false := by revert hbad; cases badW a <;> cases badW b <;> simp
      have hk : unE a = 0 := by unfold unE; rw [hab.1]; rfl
      have Hbad := Lib.hid hbad
      have Hba := Lib.hid hab.1
      have Hs := Lib.hid hs
      have Hk := Lib.hid hk
      clear hbad hs hk hab
      go_enter Tryd.func10, Tryd.ntmps10
      go_upto_region 3 with (go_at_call 24; ((with_reducible refine (HF.out _).mono ?_); rintro _ _ ⟨rfl, rfl⟩))
      go_wp2_with fail
      have hcall := union_c (W := w) x.w (IsSince.of x) pa a a.length ca rfl HA.out (by omega)
      rw [Hk.out] at hcall
      refine hcall.mono ?_
      clear hcall
      rintro _ _ ⟨au, cu, u, y1, rfl, rfl, hz, hr, _, hq⟩
      replace HA := Lib.hid (HA.out.to hz)
      replace HB := Lib.hid (HB.out.to hz)
      clear hz
      have Hu := Lib.hid hr
      have Huo := Lib.hid hq
      clear hr hq
      go_wp2_with fail
      have hcall := common_c (W := w) y1.w (IsSince.of y1) pa a a.length ca pb b b.length cb rfl rfl HA.out HB.out (by omega) (by omega)
      rw [Hs.out] at hcall
      refine hcall.mono ?_
      clear hcall
      rintro _ _ ⟨ac, cc, c, y2, rfl, rfl, hz, hr, _, hq⟩
      replace HA := Lib.hid (HA.out.to hz)
      replace HB := Lib.hid (HB.out.to hz)
      replace Hu := Lib.hid (Hu.out.to hz)
      clear hz
      have Hc := Lib.hid hr
      have Hco := Lib.hid hq
      clear hr hq
      go_wp2_with fail
      have hcall := minus_c (W := w) y2.w (IsSince.of y2) pa a a.length ca pb b b.length cb rfl rfl HA.out HB.out (by omega) (by omega)
      rw [Hs.out] at hcall
      refine hcall.mono ?_
      clear hcall
      rintro _ _ ⟨am, cm, m, y3, rfl, rfl, hz, hr, _, hq⟩
      replace HA := Lib.hid (HA.out.to hz)
      replace HB := Lib.hid (HB.out.to hz)
      replace Hu := Lib.hid (Hu.out.to hz)
      replace Hc := Lib.hid (Hc.out.to hz)
      clear hz
      have Hm := Lib.hid hr
      have Hmo := Lib.hid hq
      clear hr hq
      have Hus := Lib.hid (Huo.out.ok Hba.out)
      have Hcs := Lib.hid ((Hco.out.ok Hbad.out).n)
      have Hms := Lib.hid ((Hmo.out.ok Hbad.out).n)
      have hul : u.length ≤ 100000 := by have := Huo.out.n; omega
      have hcl : c.length ≤ 100000 := by have := Hco.out.n; omega
      have hml : m.length ≤ 100000 := min_len Hmo.out.n hna hnb
      clear Huo Hco Hmo
      obtain ⟨n, hn⟩ : ∃ n, n = a.length := ⟨_, rfl⟩
      rw [← hn] at hna ⊢
      have Hn := Lib.hid hn
      clear hn hla
      have HTY := Lib.hid (HT.out.to y3)
      have HU := Lib.hid (fun q : Since y3.w => y3.trans q)
      go_wp2_with fail
      go_loopw [11, 12] (fun sb si wr => ∃ (k : Nat) (i : Int) (out : List Win) (y : Since y3.w), k ≤ n ∧ Hid (i = (k : Int) - 1) ∧ si = .int .i64 i ∧ wr = y.w ∧ y.w.ownsRow y3.w.heap.size 30 2 sb out.length (flat Win.cs out) ∧ DblInv a k out) (fun _ si _ => (intOf si + 1).toNat)
      case atStart => exact ⟨n, _, [], Since.self _, by omega, Lib.hid rfl, rfl, rfl, ⟨rfl, .inl ⟨rfl, rfl⟩⟩, by rw [Hn.out]; exact dbl_start a⟩
      case round =>
        obtain ⟨k, i, out, y, hk, hi, rfl, rfl, hown, hD⟩ := hrel
        have Hown := Lib.hid hown
        have HD := Lib.hid hD
        have hol : out.length ≤ 80 := by have := hD.n; have := Hn.out; omega
        clear hown hD
        cases k with
        | succ j =>
          obtain rfl : i = (j : Int) := by have := hi.out; omega
          clear hi
          obtain ⟨e, he⟩ : ∃ e, a[j]? = some e := ⟨_, List.getElem?_eq_getElem (by have := Hn.out; omega)⟩
          have hj0 : (0 : Int) ≤ (j : Int) := by omega
          have hjl : (j : Int) < (n : Int) := by omega
          have HD2 := Lib.hid (HD.out.step he)
          obtain ⟨b1, off1, rfl, h1'⟩ := Els.win (Since.els HA.out y) he
          have ra0 := h1'.c0
          have ra1 := h1'.c1
          clear h1' he HD
          go_upto_region 12 with fail
          refine wp_region_tail (fun w' => ∃ q : Since (y.w), w' = q.w) [0] [1, 2, 3, 4, 5, 6, 7, 8] 9 (by kernel_rfl) (by kernel_rfl) (fun _ _ _ _ _ h => h) (Since.drawn _) ?_
          simp only [List.cons_append, List.nil_append, picks_cons, picks_nil, List.getD_cons_zero, List.getD_cons_succ]
          repeat (go_big_quiet_step (fail))
          refine wpQuiet_nil ?_
          rintro _ ⟨q, rfl⟩
          simp only [List.drop_succ_cons, List.drop_zero]
          go_wp2_with (at_builtin; (refine wpList_appendK (w0 := y3.w) ?hw rfl _ _ 35 rfl y3.w.heap.size (Nat.le_refl _) ?hb 30 (.agg #[.int .i64 0, .int .i64 0]) 16 sWin u11 out.length (flat Win.cs out) rfl ?hown ⟨q.w.heap.size, 0, none⟩ 2 2 (e.cs ++ e.cs) rfl rfl ?hc (win_two e) ?h63 ?hbytes ?_; rotate_right 1; intro v2 q2 hown4 _ hg4))
          case hw => obtain ⟨yz, hyz⟩ := y.trans q; rw [hyz]; exact IsSince.alloc (IsSince.of yz) _
          case hb => have := y.b.size; have := q.b.size; simp; omega
          case hown => exact own_to (own_to Hown.out ⟨q, rfl⟩) (IsSince.alloc (IsSince.self _) _)
          case hc => exact cell_new_at q.w (e.cs ++ e.cs) _
          case h63 => unfold maxLen; omega
          case hbytes => omega
          rw [← flat_two e, ← flat_append] at hown4
          have Hown4 := Lib.hid hown4
          clear hown4 hg4
          go_wp2_with fail
          go_roundw
          case rel => exact ⟨j, (j : Int) - 1, out ++ [e, e], q2, by omega, Lib.hid rfl, rfl, rfl, by rw [List.length_append]; exact Hown4.out, HD2.out⟩
          case measure => simp [intOf] <;> omega
        | zero =>
          obtain rfl : i = -1 := by have := hi.out; omega
          clear hi
          have Hset := Lib.hid (HD.out.un)
          have Hgood := Lib.hid (HD.out.good Hba.out)
          obtain ⟨_, a5, c5, rfl, hc5, he5, _, _⟩ := own_els Win.len (by decide) Hown.out
          have HO := Lib.hid he5
          clear hc5 he5 Hown HD
          replace HA := Lib.hid (HA.out.to (IsSince.of y))
          replace HB := Lib.hid (HB.out.to (IsSince.of y))
          replace Hu := Lib.hid (Hu.out.to (IsSince.of y))
          replace Hc := Lib.hid (Hc.out.to (IsSince.of y))
          replace Hm := Lib.hid (Hm.out.to (IsSince.of y))
          have hku : unE out = 0 := by unfold unE; rw [Hgood.out]; rfl
          have Hku := Lib.hid hku
          have hkv : unE u = 0 := by unfold unE; rw [norm_good Hus.out.n]; rfl
          have Hkv := Lib.hid hkv
          clear hku hkv
          go_wp2_with fail
          have hcall := union_c (W := y3.w) y.w (IsSince.of y) a5 out out.length c5 rfl HO.out (by omega)
          rw [Hku.out] at hcall
          refine hcall.mono ?_
          clear hcall
          rintro _ _ ⟨av, cv, v, y21, rfl, rfl, hz, hr, _, hq⟩
          replace HA := Lib.hid (HA.out.to hz)
          replace HB := Lib.hid (HB.out.to hz)
          replace Hu := Lib.hid (Hu.out.to hz)
          replace Hc := Lib.hid (Hc.out.to hz)
          replace Hm := Lib.hid (Hm.out.to hz)
          replace HO := Lib.hid (HO.out.to hz)
          clear hz
          have Hv := Lib.hid hr
          have Hvo := Lib.hid hq
          clear hr hq
          go_wp2_with fail
          have hcall := union_c (W := y3.w) y21.w (IsSince.of y21) au u u.length cu rfl Hu.out hul
          rw [Hkv.out] at hcall
          refine hcall.mono ?_
          clear hcall
          rintro _ _ ⟨ax, cx, x, y22, rfl, rfl, hz, hr, _, hq⟩
          replace HA := Lib.hid (HA.out.to hz)
          replace HB := Lib.hid (HB.out.to hz)
          replace Hu := Lib.hid (Hu.out.to hz)
          replace Hc := Lib.hid (Hc.out.to hz)
          replace Hm := Lib.hid (Hm.out.to hz)
          replace HO := Lib.hid (HO.out.to hz)
          replace Hv := Lib.hid (Hv.out.to hz)
          clear hz
          have Hx := Lib.hid hr
          have Hxo := Lib.hid hq
          clear hr hq
          obtain rfl : v = u := (Hvo.out.ok Hgood.out).unique ⟨Hus.out.n, fun t => by rw [Hus.out.h, Hset.out]⟩
          obtain rfl : x = v := (Hxo.out.ok (norm_good Hus.out.n)).unique ⟨Hus.out.n, fun t => rfl⟩
          clear Hvo Hxo Hset Hgood
          go_wp2_with fail
          refine (normal_c (W := y3.w) _ (IsSince.of y22) au x x.length cu rfl Hu.out hul Hus.out.n).mono ?_
          rintro _ _ ⟨rfl, y23, rfl, hz⟩
          replace HA := Lib.hid (HA.out.to hz)
          replace HB := Lib.hid (HB.out.to hz)
          replace Hu := Lib.hid (Hu.out.to hz)
          replace Hc := Lib.hid (Hc.out.to hz)
          replace Hm := Lib.hid (Hm.out.to hz)
          replace HO := Lib.hid (HO.out.to hz)
          replace Hv := Lib.hid (Hv.out.to hz)
          replace Hx := Lib.hid (Hx.out.to hz)
          clear hz
          go_wp2_with fail
          refine (normal_c (W := y3.w) _ (IsSince.of y23) ac c c.length cc rfl Hc.out hcl Hcs.out).mono ?_
          rintro _ _ ⟨rfl, y24, rfl, hz⟩
          replace HA := Lib.hid (HA.out.to hz)
          replace HB := Lib.hid (HB.out.to hz)
          replace Hu := Lib.hid (Hu.out.to hz)
          replace Hc := Lib.hid (Hc.out.to hz)
          replace Hm := Lib.hid (Hm.out.to hz)
          replace HO := Lib.hid (HO.out.to hz)
          replace Hv := Lib.hid (Hv.out.to hz)
          replace Hx := Lib.hid (Hx.out.to hz)
          clear hz
          go_wp2_with fail
          refine (normal_c (W := y3.w) _ (IsSince.of y24) am m m.length cm rfl Hm.out hml Hms.out).mono ?_
          rintro _ _ ⟨rfl, y25, rfl, hz⟩
          replace HA := Lib.hid (HA.out.to hz)
          replace HB := Lib.hid (HB.out.to hz)
          replace Hu := Lib.hid (Hu.out.to hz)
          replace Hc := Lib.hid (Hc.out.to hz)
          replace Hm := Lib.hid (Hm.out.to hz)
          replace HO := Lib.hid (HO.out.to hz)
          replace Hv := Lib.hid (Hv.out.to hz)
          replace Hx := Lib.hid (Hx.out.to hz)
          clear hz
          go_wp2_with fail
          refine (same_c (W := y3.w) _ (IsSince.of y25) au x x.length cu av x x.length cv rfl rfl Hu.out Hv.out hul hul true (decide_eq_true rfl)).mono ?_
          rintro _ _ ⟨rfl, y26, rfl, hz⟩
          replace HA := Lib.hid (HA.out.to hz)
          replace HB := Lib.hid (HB.out.to hz)
          replace Hu := Lib.hid (Hu.out.to hz)
          replace Hc := Lib.hid (Hc.out.to hz)
          replace Hm := Lib.hid (Hm.out.to hz)
          replace HO := Lib.hid (HO.out.to hz)
          replace Hv := Lib.hid (Hv.out.to hz)
          replace Hx := Lib.hid (Hx.out.to hz)
          clear hz
          go_wp2_with fail
          refine (same_c (W := y3.w) _ (IsSince.of y26) au x x.length cu ax x x.length cx rfl rfl Hu.out Hx.out hul hul true (decide_eq_true rfl)).mono ?_
          rintro _ _ ⟨rfl, y27, rfl, hz⟩
          replace HA := Lib.hid (HA.out.to hz)
          replace HB := Lib.hid (HB.out.to hz)
          replace Hu := Lib.hid (Hu.out.to hz)
          replace Hc := Lib.hid (Hc.out.to hz)
          replace Hm := Lib.hid (Hm.out.to hz)
          replace HO := Lib.hid (HO.out.to hz)
          replace Hv := Lib.hid (Hv.out.to hz)
          replace Hx := Lib.hid (Hx.out.to hz)
          clear hz
          go_wp2_with fail
          refine (awake_calls y3.w y27 HTY.out).mono ?_
          rintro _ _ ⟨rfl, yz, rfl⟩
          go_wp2_with fail
          go_ret
          exact ⟨rfl, HU.out yz⟩
end Go.Proofs.YtnkmngkinjjbfaaDoor
