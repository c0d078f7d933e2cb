/- The law TripsParts, walked. -/
import Derived.Test.YtdmmjapccgeffaaTrMh
import Derived.IntWalk
set_option linter.all false
namespace Go.Proofs.Ytdmmjapccgeffaa
open Go.RowKit

theorem tabV_l {zs : List Int} {size : Int} {R : List Ride} {f t each : Int} (h : tabE zs size R f t each = 0) : (tabV zs size R f t each).l = cells zs size (cntL R each f t) := by rw [tabV_ok h]
theorem parts_add {q : Cas} {u : Int} (h : tabE q.zs q.n q.R q.f q.t q.e = 0) (ha : tabE q.zs q.n q.R q.f u q.e = 0) (hb : tabE q.zs q.n q.R u q.t q.e = 0) (h1 : q.f ≤ u) (h2 : u ≤ q.t) :
    (tabV q.zs q.n q.R q.f u q.e).l.length = (tabV q.zs q.n q.R q.f q.t q.e).l.length ∧ (tabV q.zs q.n q.R u q.t q.e).l.length = (tabV q.zs q.n q.R q.f q.t q.e).l.length ∧ (tabV q.zs q.n q.R q.f q.t q.e).l.length ≤ 64 ∧
    ∀ j, j < (tabV q.zs q.n q.R q.f q.t q.e).l.length → at0 (tabV q.zs q.n q.R q.f q.t q.e).l j = at0 (tabV q.zs q.n q.R q.f u q.e).l j + at0 (tabV q.zs q.n q.R u q.t q.e).l j ∧ 0 ≤ at0 (tabV q.zs q.n q.R q.f u q.e).l j ∧ at0 (tabV q.zs q.n q.R q.f u q.e).l j ≤ 256 ∧ 0 ≤ at0 (tabV q.zs q.n q.R u q.t q.e).l j ∧ at0 (tabV q.zs q.n q.R u q.t q.e).l j ≤ 256 := by
  have hR := (ridesE_zero (eachE_zero ((tabE_zero ..).1 h).2.1).2.2).1
  have h64 := tabV_len q.zs q.n q.R q.f q.t q.e
  rw [tabV_l h] at h64 ⊢
  rw [tabV_l ha, tabV_l hb]
  rw [cells_len] at h64
  simp only [cells_len]
  refine ⟨trivial, trivial, h64, fun j hj => ?_⟩
  rw [cells_at hj, cells_at hj, cells_at hj]
  have a1 := celN_range q.zs q.n (cntL q.R q.e q.f u) j
  have a2 := celN_range q.zs q.n (cntL q.R q.e u q.t) j
  have b1 := cntL_len q.R q.e q.f u
  have b2 := cntL_len q.R q.e u q.t
  exact ⟨celN_parts h1 h2 j, a1.1, by omega, a2.1, by omega⟩
set_option maxRecDepth 100000 in
set_option maxHeartbeats 16000000 in
theorem tripsParts_calls (w : World) (x : Since w) (q : Cas) (u : Int) (h : q.At w) :
    Calls Try.prog 10 #[.agg #[.slice q.az q.zs.length q.cz, .int .i64 q.n, .int .i64 q.e, .slice q.a q.R.length q.c, .int .i64 q.f, .int .i64 q.t], .int .i64 u] x.w (Yes w) := by
  have H := Lib.hid h
  clear h
  go_enter Try.func10, Try.ntmps10
  go_upto_region 1 with fail
  have hb0_0 : ∀ y : Since (x.w.alloc (.cells #[.slice q.az q.zs.length q.cz, .int .i64 q.n, .int .i64 q.e, .slice q.a q.R.length q.c, .int .i64 q.f, .int .i64 q.t] 36)), y.w.cell? ⟨x.w.heap.size, 0, none⟩ = some (.slice q.az q.zs.length q.cz) := fun y => Since.cell (by simp [go_sem]) (by first | (simp; done) | (simp; omega)) y
  have hb0_1 : ∀ y : Since (x.w.alloc (.cells #[.slice q.az q.zs.length q.cz, .int .i64 q.n, .int .i64 q.e, .slice q.a q.R.length q.c, .int .i64 q.f, .int .i64 q.t] 36)), y.w.cell? ⟨x.w.heap.size, 1, none⟩ = some (.int .i64 q.n) := fun y => Since.cell (by simp [go_sem]) (by first | (simp; done) | (simp; omega)) y
  have hb0_2 : ∀ y : Since (x.w.alloc (.cells #[.slice q.az q.zs.length q.cz, .int .i64 q.n, .int .i64 q.e, .slice q.a q.R.length q.c, .int .i64 q.f, .int .i64 q.t] 36)), y.w.cell? ⟨x.w.heap.size, 2, none⟩ = some (.int .i64 q.e) := fun y => Since.cell (by simp [go_sem]) (by first | (simp; done) | (simp; omega)) y
  have hb0_3 : ∀ y : Since (x.w.alloc (.cells #[.slice q.az q.zs.length q.cz, .int .i64 q.n, .int .i64 q.e, .slice q.a q.R.length q.c, .int .i64 q.f, .int .i64 q.t] 36)), y.w.cell? ⟨x.w.heap.size, 3, none⟩ = some (.slice q.a q.R.length q.c) := fun y => Since.cell (by simp [go_sem]) (by first | (simp; done) | (simp; omega)) y
  have hb0_4 : ∀ y : Since (x.w.alloc (.cells #[.slice q.az q.zs.length q.cz, .int .i64 q.n, .int .i64 q.e, .slice q.a q.R.length q.c, .int .i64 q.f, .int .i64 q.t] 36)), y.w.cell? ⟨x.w.heap.size, 4, none⟩ = some (.int .i64 q.f) := fun y => Since.cell (by simp [go_sem]) (by first | (simp; done) | (simp; omega)) y
  have hb0_5 : ∀ y : Since (x.w.alloc (.cells #[.slice q.az q.zs.length q.cz, .int .i64 q.n, .int .i64 q.e, .slice q.a q.R.length q.c, .int .i64 q.f, .int .i64 q.t] 36)), y.w.cell? ⟨x.w.heap.size, 5, none⟩ = some (.int .i64 q.t) := fun y => Since.cell (by simp [go_sem]) (by first | (simp; done) | (simp; omega)) y
  have hf0 : ∀ (y : Since (x.w.alloc (.cells #[.slice q.az q.zs.length q.cz, .int .i64 q.n, .int .i64 q.e, .slice q.a q.R.length q.c, .int .i64 q.f, .int .i64 q.t] 36))) (o : Nat), y.w.frozen? ⟨x.w.heap.size, o, none⟩ = false := fun y o => Since.free (by simp [go_sem]) (by first | (simp; done) | (simp; omega)) y
  have hWup : ∃ z : Since w, (x.w.alloc (.cells #[.slice q.az q.zs.length q.cz, .int .i64 q.n, .int .i64 q.e, .slice q.a q.R.length q.c, .int .i64 q.f, .int .i64 q.t] 36)) = z.w := x.alloc _
  obtain ⟨y0, hy0⟩ := Since.refl (x.w.alloc (.cells #[.slice q.az q.zs.length q.cz, .int .i64 q.n, .int .i64 q.e, .slice q.a q.R.length q.c, .int .i64 q.f, .int .i64 q.t] 36))
  have Hbx := Lib.hid (And.intro x.b.size (show x.w.heap.size + 1 = (x.w.alloc (.cells #[.slice q.az q.zs.length q.cz, .int .i64 q.n, .int .i64 q.e, .slice q.a q.R.length q.c, .int .i64 q.f, .int .i64 q.t] 36)).heap.size from by simp))
  generalize hW : (x.w.alloc (.cells #[.slice q.az q.zs.length q.cz, .int .i64 q.n, .int .i64 q.e, .slice q.a q.R.length q.c, .int .i64 q.f, .int .i64 q.t] 36)) = W at *
  clear hW
  generalize x.w.heap.size = bx at *
  have Hup := Lib.hid (Since.up hWup)
  rw [hy0]
  clear hy0
  replace H := Lib.hid (H.out.to hWup)
  have HU := Lib.hid (show IsSince w W from hWup)
  clear hWup hf0 Hbx
  have Hf := Lib.hid (few51_calls W y0 q H.out)
  cases hfw : fewC q with
  | false =>
    rw [hfw] at Hf
    go_wp2_with (first | (go_at_call 18; ((with_reducible refine Hf.out.mono ?_); rintro _ _ ⟨rfl, y1, rfl⟩)) | (go_at_call 12; ((with_reducible refine (awake_calls W y1).mono ?_); rintro _ _ ⟨rfl, y2, rfl⟩)))
    go_ret
    exact ⟨rfl, Hup.out y2⟩
  | true =>
    rw [hfw] at Hf
    obtain ⟨hR30, hlp⟩ := fewC_rides hfw
    have Hlp := Lib.hid hlp
    clear hfw hlp
    rcases (by omega : u < q.f ∨ (¬ u < q.f ∧ q.t < u) ∨ (¬ u < q.f ∧ ¬ q.t < u)) with h1 | ⟨h1, h2⟩ | ⟨h1, h2⟩
    case inl =>
      go_wp2_with (first | (go_at_call 18; ((with_reducible refine Hf.out.mono ?_); rintro _ _ ⟨rfl, y1, rfl⟩; replace H := Lib.hid (H.out.to (IsSince.of y1)))) | (go_at_call 12; ((with_reducible refine (awake_calls _ y1).mono ?_); rintro _ _ ⟨rfl, yz, rfl⟩)))
      go_ret
      exact ⟨rfl, HU.out.trans (IsSince.of yz)⟩
    case inr.inl =>
      go_wp2_with (first | (go_at_call 18; ((with_reducible refine Hf.out.mono ?_); rintro _ _ ⟨rfl, y1, rfl⟩; replace H := Lib.hid (H.out.to (IsSince.of y1)))) | (go_at_call 12; ((with_reducible refine (awake_calls _ y1).mono ?_); rintro _ _ ⟨rfl, yz, rfl⟩)))
      go_ret
      exact ⟨rfl, HU.out.trans (IsSince.of yz)⟩
    case inr.inr =>
      have HT := Lib.hid (fun (W : World) (w' : World) (hw : IsSince W w') (h : q.At w') => table51_s (W := W) w' hw q h q.a q.R q.c q.f q.t h.r h.rl h.i)
      have HA := Lib.hid (fun (W : World) (w' : World) (hw : IsSince W w') (h : q.At w') => table51_s (W := W) w' hw q h q.a q.R q.c q.f u h.r h.rl h.i)
      have HB := Lib.hid (fun (W : World) (w' : World) (hw : IsSince W w') (h : q.At w') => table51_s (W := W) w' hw q h q.a q.R q.c u q.t h.r h.rl h.i)
      have hiff := tabE_parts (zs := q.zs) (size := q.n) (R := q.R) (each := q.e) (f := q.f) (u := u) (t := q.t) (by omega) (by omega)
      by_cases he : tabE q.zs q.n q.R q.f q.t q.e = 0
      case neg =>
        generalize tabV q.zs q.n q.R q.f q.t q.e = T at *
        generalize tabE q.zs q.n q.R q.f q.t q.e = e at *
        generalize tabV q.zs q.n q.R q.f u q.e = A at *
        generalize tabE q.zs q.n q.R q.f u q.e = ea at *
        generalize tabV q.zs q.n q.R u q.t q.e = B at *
        generalize tabE q.zs q.n q.R u q.t q.e = eb at *
        have hne : (e != 0) = true := by simpa using he
        have hab : (ea != 0) = true ∨ ((ea != 0) = false ∧ (eb != 0) = true) := by
          by_cases ha : ea = 0
          · right; exact ⟨by simpa using ha, by simpa using fun hb => he (hiff.2 ⟨ha, hb⟩)⟩
          · left; simpa using ha
        clear hiff he
        go_upto_region 4 with (first | (go_at_call 18; ((with_reducible refine Hf.out.mono ?_); rintro _ _ ⟨rfl, y1, rfl⟩; replace H := Lib.hid (H.out.to (IsSince.of y1)))) | (go_at_call 19; ((with_reducible refine (HT.out W _ (IsSince.of y1) H.out).mono ?_); rintro _ _ ⟨ata, cta, y2, rfl, rfl, hz, hrow⟩; replace H := Lib.hid (H.out.to hz); have Rta := Lib.hid hrow; clear hrow; clear hz)))
        have ta0 : (y2.w.alloc (.cells #[.int .i64 T.r, .int .i64 T.c, .slice ata T.l.length cta] 39)).cell? ⟨y2.w.heap.size, 0, none⟩ = some (.int .i64 T.r) := by simp [go_sem]
        have ta1 : (y2.w.alloc (.cells #[.int .i64 T.r, .int .i64 T.c, .slice ata T.l.length cta] 39)).cell? ⟨y2.w.heap.size, 1, none⟩ = some (.int .i64 T.c) := by simp [go_sem]
        have ta2 : (y2.w.alloc (.cells #[.int .i64 T.r, .int .i64 T.c, .slice ata T.l.length cta] 39)).cell? ⟨y2.w.heap.size, 2, none⟩ = some (.slice ata T.l.length cta) := by simp [go_sem]
        have taf : ∀ o, (y2.w.alloc (.cells #[.int .i64 T.r, .int .i64 T.c, .slice ata T.l.length cta] 39)).frozen? ⟨y2.w.heap.size, o, none⟩ = false := fun o => by simp [go_sem]
        have hlt0 : y2.w.heap.size < (y2.w.alloc (.cells #[.int .i64 T.r, .int .i64 T.c, .slice ata T.l.length cta] 39)).heap.size := by simp
        have hst0 : ∃ zz : Since y2.w, (y2.w.alloc (.cells #[.int .i64 T.r, .int .i64 T.c, .slice ata T.l.length cta] 39)) = zz.w := IsSince.alloc (IsSince.self _) _
        have hsz0 := y2.b.size
        obtain ⟨y3, e2⟩ := IsSince.alloc (IsSince.of y2) (.cells #[.int .i64 T.r, .int .i64 T.c, .slice ata T.l.length cta] 39)
        rw [e2] at ta0 ta1 ta2 taf hlt0 hst0 ⊢
        (replace H := Lib.hid (H.out.to hst0); replace Rta := Lib.hid (Rta.out.to hst0))
        clear e2 hst0
        generalize y2.w.heap.size = gta at *
        have Hta0 : ∀ q : Since y3.w, q.w.cell? ⟨gta, 0, none⟩ = some (.int .i64 T.r) := fun q => Since.cell ta0 (by omega) q
        have Hta1 : ∀ q : Since y3.w, q.w.cell? ⟨gta, 1, none⟩ = some (.int .i64 T.c) := fun q => Since.cell ta1 (by omega) q
        have Hta2 : ∀ q : Since y3.w, q.w.cell? ⟨gta, 2, none⟩ = some (.slice ata T.l.length cta) := fun q => Since.cell ta2 (by omega) q
        have Htaf : ∀ (q : Since y3.w) (o : Nat), q.w.frozen? ⟨gta, o, none⟩ = false := fun q o => Since.free (taf o) (by omega) q
        have Htag := Lib.hid (And.intro hsz0 hlt0)
        clear hlt0 hsz0
        clear ta0 ta1 ta2 taf Htaf Htag
        replace HU := Lib.hid (HU.out.trans (IsSince.of y3))
        replace hb0_0 := Since.cellTo ⟨y3, rfl⟩ hb0_0
        replace hb0_1 := Since.cellTo ⟨y3, rfl⟩ hb0_1
        replace hb0_2 := Since.cellTo ⟨y3, rfl⟩ hb0_2
        replace hb0_3 := Since.cellTo ⟨y3, rfl⟩ hb0_3
        replace hb0_4 := Since.cellTo ⟨y3, rfl⟩ hb0_4
        replace hb0_5 := Since.cellTo ⟨y3, rfl⟩ hb0_5
        obtain ⟨q3, hq0⟩ := Since.refl y3.w
        rw [hq0]
        clear hq0
        replace H := Lib.hid (H.out.to ⟨q3, rfl⟩)
        replace Rta := Lib.hid (Rta.out.to ⟨q3, rfl⟩)
        go_upto_region 5 with (go_at_call 19; ((with_reducible refine (HA.out y3.w _ (IsSince.of q3) H.out).mono ?_); rintro _ _ ⟨atb, ctb, y4, rfl, rfl, hz, hrow⟩; replace H := Lib.hid (H.out.to hz); replace Rta := Lib.hid (Rta.out.to hz); have Rtb := Lib.hid hrow; clear hrow; clear hz))
        have tb0 : (y4.w.alloc (.cells #[.int .i64 A.r, .int .i64 A.c, .slice atb A.l.length ctb] 39)).cell? ⟨y4.w.heap.size, 0, none⟩ = some (.int .i64 A.r) := by simp [go_sem]
        have tb1 : (y4.w.alloc (.cells #[.int .i64 A.r, .int .i64 A.c, .slice atb A.l.length ctb] 39)).cell? ⟨y4.w.heap.size, 1, none⟩ = some (.int .i64 A.c) := by simp [go_sem]
        have tb2 : (y4.w.alloc (.cells #[.int .i64 A.r, .int .i64 A.c, .slice atb A.l.length ctb] 39)).cell? ⟨y4.w.heap.size, 2, none⟩ = some (.slice atb A.l.length ctb) := by simp [go_sem]
        have tbf : ∀ o, (y4.w.alloc (.cells #[.int .i64 A.r, .int .i64 A.c, .slice atb A.l.length ctb] 39)).frozen? ⟨y4.w.heap.size, o, none⟩ = false := fun o => by simp [go_sem]
        have hlt0 : y4.w.heap.size < (y4.w.alloc (.cells #[.int .i64 A.r, .int .i64 A.c, .slice atb A.l.length ctb] 39)).heap.size := by simp
        have hst0 : ∃ zz : Since y4.w, (y4.w.alloc (.cells #[.int .i64 A.r, .int .i64 A.c, .slice atb A.l.length ctb] 39)) = zz.w := IsSince.alloc (IsSince.self _) _
        have hsz0 := y4.b.size
        obtain ⟨y5, e2⟩ := IsSince.alloc (IsSince.of y4) (.cells #[.int .i64 A.r, .int .i64 A.c, .slice atb A.l.length ctb] 39)
        rw [e2] at tb0 tb1 tb2 tbf hlt0 hst0 ⊢
        (replace H := Lib.hid (H.out.to hst0); replace Rta := Lib.hid (Rta.out.to hst0); replace Rtb := Lib.hid (Rtb.out.to hst0))
        clear e2 hst0
        generalize y4.w.heap.size = gtb at *
        have Htb0 : ∀ q : Since y5.w, q.w.cell? ⟨gtb, 0, none⟩ = some (.int .i64 A.r) := fun q => Since.cell tb0 (by omega) q
        have Htb1 : ∀ q : Since y5.w, q.w.cell? ⟨gtb, 1, none⟩ = some (.int .i64 A.c) := fun q => Since.cell tb1 (by omega) q
        have Htb2 : ∀ q : Since y5.w, q.w.cell? ⟨gtb, 2, none⟩ = some (.slice atb A.l.length ctb) := fun q => Since.cell tb2 (by omega) q
        have Htbf : ∀ (q : Since y5.w) (o : Nat), q.w.frozen? ⟨gtb, o, none⟩ = false := fun q o => Since.free (tbf o) (by omega) q
        have Htbg := Lib.hid (And.intro hsz0 hlt0)
        clear hlt0 hsz0
        clear tb0 tb1 tb2 tbf Htbf Htbg
        replace HU := Lib.hid (HU.out.trans (IsSince.of y5))
        replace hb0_0 := Since.cellTo ⟨y5, rfl⟩ hb0_0
        replace hb0_1 := Since.cellTo ⟨y5, rfl⟩ hb0_1
        replace hb0_2 := Since.cellTo ⟨y5, rfl⟩ hb0_2
        replace hb0_3 := Since.cellTo ⟨y5, rfl⟩ hb0_3
        replace hb0_4 := Since.cellTo ⟨y5, rfl⟩ hb0_4
        replace hb0_5 := Since.cellTo ⟨y5, rfl⟩ hb0_5
        replace Hta0 := Since.cellTo ⟨y5, rfl⟩ Hta0
        replace Hta1 := Since.cellTo ⟨y5, rfl⟩ Hta1
        replace Hta2 := Since.cellTo ⟨y5, rfl⟩ Hta2
        obtain ⟨q5, hq0⟩ := Since.refl y5.w
        rw [hq0]
        clear hq0
        replace H := Lib.hid (H.out.to ⟨q5, rfl⟩)
        replace Rta := Lib.hid (Rta.out.to ⟨q5, rfl⟩)
        replace Rtb := Lib.hid (Rtb.out.to ⟨q5, rfl⟩)
        go_upto_region 6 with (go_at_call 19; ((with_reducible refine (HB.out y5.w _ (IsSince.of q5) H.out).mono ?_); rintro _ _ ⟨atc, ctc, y6, rfl, rfl, hz, hrow⟩; replace H := Lib.hid (H.out.to hz); replace Rta := Lib.hid (Rta.out.to hz); replace Rtb := Lib.hid (Rtb.out.to hz); have Rtc := Lib.hid hrow; clear hrow; clear hz))
        have tc0 : (y6.w.alloc (.cells #[.int .i64 B.r, .int .i64 B.c, .slice atc B.l.length ctc] 39)).cell? ⟨y6.w.heap.size, 0, none⟩ = some (.int .i64 B.r) := by simp [go_sem]
        have tc1 : (y6.w.alloc (.cells #[.int .i64 B.r, .int .i64 B.c, .slice atc B.l.length ctc] 39)).cell? ⟨y6.w.heap.size, 1, none⟩ = some (.int .i64 B.c) := by simp [go_sem]
        have tc2 : (y6.w.alloc (.cells #[.int .i64 B.r, .int .i64 B.c, .slice atc B.l.length ctc] 39)).cell? ⟨y6.w.heap.size, 2, none⟩ = some (.slice atc B.l.length ctc) := by simp [go_sem]
        have tcf : ∀ o, (y6.w.alloc (.cells #[.int .i64 B.r, .int .i64 B.c, .slice atc B.l.length ctc] 39)).frozen? ⟨y6.w.heap.size, o, none⟩ = false := fun o => by simp [go_sem]
        have hlt0 : y6.w.heap.size < (y6.w.alloc (.cells #[.int .i64 B.r, .int .i64 B.c, .slice atc B.l.length ctc] 39)).heap.size := by simp
        have hst0 : ∃ zz : Since y6.w, (y6.w.alloc (.cells #[.int .i64 B.r, .int .i64 B.c, .slice atc B.l.length ctc] 39)) = zz.w := IsSince.alloc (IsSince.self _) _
        have hsz0 := y6.b.size
        obtain ⟨y7, e2⟩ := IsSince.alloc (IsSince.of y6) (.cells #[.int .i64 B.r, .int .i64 B.c, .slice atc B.l.length ctc] 39)
        rw [e2] at tc0 tc1 tc2 tcf hlt0 hst0 ⊢
        (replace H := Lib.hid (H.out.to hst0); replace Rta := Lib.hid (Rta.out.to hst0); replace Rtb := Lib.hid (Rtb.out.to hst0); replace Rtc := Lib.hid (Rtc.out.to hst0))
        clear e2 hst0
        generalize y6.w.heap.size = gtc at *
        have Htc0 : ∀ q : Since y7.w, q.w.cell? ⟨gtc, 0, none⟩ = some (.int .i64 B.r) := fun q => Since.cell tc0 (by omega) q
        have Htc1 : ∀ q : Since y7.w, q.w.cell? ⟨gtc, 1, none⟩ = some (.int .i64 B.c) := fun q => Since.cell tc1 (by omega) q
        have Htc2 : ∀ q : Since y7.w, q.w.cell? ⟨gtc, 2, none⟩ = some (.slice atc B.l.length ctc) := fun q => Since.cell tc2 (by omega) q
        have Htcf : ∀ (q : Since y7.w) (o : Nat), q.w.frozen? ⟨gtc, o, none⟩ = false := fun q o => Since.free (tcf o) (by omega) q
        have Htcg := Lib.hid (And.intro hsz0 hlt0)
        clear hlt0 hsz0
        clear tc0 tc1 tc2 tcf Htcf Htcg
        replace HU := Lib.hid (HU.out.trans (IsSince.of y7))
        replace hb0_0 := Since.cellTo ⟨y7, rfl⟩ hb0_0
        replace hb0_1 := Since.cellTo ⟨y7, rfl⟩ hb0_1
        replace hb0_2 := Since.cellTo ⟨y7, rfl⟩ hb0_2
        replace hb0_3 := Since.cellTo ⟨y7, rfl⟩ hb0_3
        replace hb0_4 := Since.cellTo ⟨y7, rfl⟩ hb0_4
        replace hb0_5 := Since.cellTo ⟨y7, rfl⟩ hb0_5
        replace Hta0 := Since.cellTo ⟨y7, rfl⟩ Hta0
        replace Hta1 := Since.cellTo ⟨y7, rfl⟩ Hta1
        replace Hta2 := Since.cellTo ⟨y7, rfl⟩ Hta2
        replace Htb0 := Since.cellTo ⟨y7, rfl⟩ Htb0
        replace Htb1 := Since.cellTo ⟨y7, rfl⟩ Htb1
        replace Htb2 := Since.cellTo ⟨y7, rfl⟩ Htb2
        obtain ⟨q7, hq0⟩ := Since.refl y7.w
        rw [hq0]
        clear hq0
        replace H := Lib.hid (H.out.to ⟨q7, rfl⟩)
        replace Rta := Lib.hid (Rta.out.to ⟨q7, rfl⟩)
        replace Rtb := Lib.hid (Rtb.out.to ⟨q7, rfl⟩)
        replace Rtc := Lib.hid (Rtc.out.to ⟨q7, rfl⟩)
        clear HT HA HB Hf
        rcases hab with hab | ⟨hab, hbb⟩
        all_goals
          go_wp2_with (go_at_call 12; ((with_reducible refine (awake_calls _ q7).mono ?_); rintro _ _ ⟨rfl, yz, rfl⟩))
          go_ret
          exact ⟨rfl, HU.out.trans (IsSince.of yz)⟩
      case pos =>
        obtain ⟨ha, hb⟩ := hiff.1 he
        have HAdd := Lib.hid (parts_add he ha hb (by omega) (by omega))
        rw [he] at HT
        rw [ha] at HA
        rw [hb] at HB
        clear hiff he ha hb
        generalize tabV q.zs q.n q.R q.f q.t q.e = T at *
        generalize tabV q.zs q.n q.R q.f u q.e = A at *
        generalize tabV q.zs q.n q.R u q.t q.e = B at *
        go_upto_region 4 with (first | (go_at_call 18; ((with_reducible refine Hf.out.mono ?_); rintro _ _ ⟨rfl, y1, rfl⟩; replace H := Lib.hid (H.out.to (IsSince.of y1)))) | (go_at_call 19; ((with_reducible refine (HT.out W _ (IsSince.of y1) H.out).mono ?_); rintro _ _ ⟨ata, cta, y2, rfl, rfl, hz, hrow⟩; replace H := Lib.hid (H.out.to hz); have Rta := Lib.hid hrow; clear hrow; clear hz)))
        have ta0 : (y2.w.alloc (.cells #[.int .i64 T.r, .int .i64 T.c, .slice ata T.l.length cta] 39)).cell? ⟨y2.w.heap.size, 0, none⟩ = some (.int .i64 T.r) := by simp [go_sem]
        have ta1 : (y2.w.alloc (.cells #[.int .i64 T.r, .int .i64 T.c, .slice ata T.l.length cta] 39)).cell? ⟨y2.w.heap.size, 1, none⟩ = some (.int .i64 T.c) := by simp [go_sem]
        have ta2 : (y2.w.alloc (.cells #[.int .i64 T.r, .int .i64 T.c, .slice ata T.l.length cta] 39)).cell? ⟨y2.w.heap.size, 2, none⟩ = some (.slice ata T.l.length cta) := by simp [go_sem]
        have taf : ∀ o, (y2.w.alloc (.cells #[.int .i64 T.r, .int .i64 T.c, .slice ata T.l.length cta] 39)).frozen? ⟨y2.w.heap.size, o, none⟩ = false := fun o => by simp [go_sem]
        have hlt0 : y2.w.heap.size < (y2.w.alloc (.cells #[.int .i64 T.r, .int .i64 T.c, .slice ata T.l.length cta] 39)).heap.size := by simp
        have hst0 : ∃ zz : Since y2.w, (y2.w.alloc (.cells #[.int .i64 T.r, .int .i64 T.c, .slice ata T.l.length cta] 39)) = zz.w := IsSince.alloc (IsSince.self _) _
        have hsz0 := y2.b.size
        obtain ⟨y3, e2⟩ := IsSince.alloc (IsSince.of y2) (.cells #[.int .i64 T.r, .int .i64 T.c, .slice ata T.l.length cta] 39)
        rw [e2] at ta0 ta1 ta2 taf hlt0 hst0 ⊢
        (replace H := Lib.hid (H.out.to hst0); replace Rta := Lib.hid (Rta.out.to hst0))
        clear e2 hst0
        generalize y2.w.heap.size = gta at *
        have Hta0 : ∀ q : Since y3.w, q.w.cell? ⟨gta, 0, none⟩ = some (.int .i64 T.r) := fun q => Since.cell ta0 (by omega) q
        have Hta1 : ∀ q : Since y3.w, q.w.cell? ⟨gta, 1, none⟩ = some (.int .i64 T.c) := fun q => Since.cell ta1 (by omega) q
        have Hta2 : ∀ q : Since y3.w, q.w.cell? ⟨gta, 2, none⟩ = some (.slice ata T.l.length cta) := fun q => Since.cell ta2 (by omega) q
        have Htaf : ∀ (q : Since y3.w) (o : Nat), q.w.frozen? ⟨gta, o, none⟩ = false := fun q o => Since.free (taf o) (by omega) q
        have Htag := Lib.hid (And.intro hsz0 hlt0)
        clear hlt0 hsz0
        clear ta0 ta1 ta2 taf Htaf Htag
        replace HU := Lib.hid (HU.out.trans (IsSince.of y3))
        replace hb0_0 := Since.cellTo ⟨y3, rfl⟩ hb0_0
        replace hb0_1 := Since.cellTo ⟨y3, rfl⟩ hb0_1
        replace hb0_2 := Since.cellTo ⟨y3, rfl⟩ hb0_2
        replace hb0_3 := Since.cellTo ⟨y3, rfl⟩ hb0_3
        replace hb0_4 := Since.cellTo ⟨y3, rfl⟩ hb0_4
        replace hb0_5 := Since.cellTo ⟨y3, rfl⟩ hb0_5
        obtain ⟨q3, hq0⟩ := Since.refl y3.w
        rw [hq0]
        clear hq0
        replace H := Lib.hid (H.out.to ⟨q3, rfl⟩)
        replace Rta := Lib.hid (Rta.out.to ⟨q3, rfl⟩)
        go_upto_region 5 with (go_at_call 19; ((with_reducible refine (HA.out y3.w _ (IsSince.of q3) H.out).mono ?_); rintro _ _ ⟨atb, ctb, y4, rfl, rfl, hz, hrow⟩; replace H := Lib.hid (H.out.to hz); replace Rta := Lib.hid (Rta.out.to hz); have Rtb := Lib.hid hrow; clear hrow; clear hz))
        have tb0 : (y4.w.alloc (.cells #[.int .i64 A.r, .int .i64 A.c, .slice atb A.l.length ctb] 39)).cell? ⟨y4.w.heap.size, 0, none⟩ = some (.int .i64 A.r) := by simp [go_sem]
        have tb1 : (y4.w.alloc (.cells #[.int .i64 A.r, .int .i64 A.c, .slice atb A.l.length ctb] 39)).cell? ⟨y4.w.heap.size, 1, none⟩ = some (.int .i64 A.c) := by simp [go_sem]
        have tb2 : (y4.w.alloc (.cells #[.int .i64 A.r, .int .i64 A.c, .slice atb A.l.length ctb] 39)).cell? ⟨y4.w.heap.size, 2, none⟩ = some (.slice atb A.l.length ctb) := by simp [go_sem]
        have tbf : ∀ o, (y4.w.alloc (.cells #[.int .i64 A.r, .int .i64 A.c, .slice atb A.l.length ctb] 39)).frozen? ⟨y4.w.heap.size, o, none⟩ = false := fun o => by simp [go_sem]
        have hlt0 : y4.w.heap.size < (y4.w.alloc (.cells #[.int .i64 A.r, .int .i64 A.c, .slice atb A.l.length ctb] 39)).heap.size := by simp
        have hst0 : ∃ zz : Since y4.w, (y4.w.alloc (.cells #[.int .i64 A.r, .int .i64 A.c, .slice atb A.l.length ctb] 39)) = zz.w := IsSince.alloc (IsSince.self _) _
        have hsz0 := y4.b.size
        obtain ⟨y5, e2⟩ := IsSince.alloc (IsSince.of y4) (.cells #[.int .i64 A.r, .int .i64 A.c, .slice atb A.l.length ctb] 39)
        rw [e2] at tb0 tb1 tb2 tbf hlt0 hst0 ⊢
        (replace H := Lib.hid (H.out.to hst0); replace Rta := Lib.hid (Rta.out.to hst0); replace Rtb := Lib.hid (Rtb.out.to hst0))
        clear e2 hst0
        generalize y4.w.heap.size = gtb at *
        have Htb0 : ∀ q : Since y5.w, q.w.cell? ⟨gtb, 0, none⟩ = some (.int .i64 A.r) := fun q => Since.cell tb0 (by omega) q
        have Htb1 : ∀ q : Since y5.w, q.w.cell? ⟨gtb, 1, none⟩ = some (.int .i64 A.c) := fun q => Since.cell tb1 (by omega) q
        have Htb2 : ∀ q : Since y5.w, q.w.cell? ⟨gtb, 2, none⟩ = some (.slice atb A.l.length ctb) := fun q => Since.cell tb2 (by omega) q
        have Htbf : ∀ (q : Since y5.w) (o : Nat), q.w.frozen? ⟨gtb, o, none⟩ = false := fun q o => Since.free (tbf o) (by omega) q
        have Htbg := Lib.hid (And.intro hsz0 hlt0)
        clear hlt0 hsz0
        clear tb0 tb1 tb2 tbf Htbf Htbg
        replace HU := Lib.hid (HU.out.trans (IsSince.of y5))
        replace hb0_0 := Since.cellTo ⟨y5, rfl⟩ hb0_0
        replace hb0_1 := Since.cellTo ⟨y5, rfl⟩ hb0_1
        replace hb0_2 := Since.cellTo ⟨y5, rfl⟩ hb0_2
        replace hb0_3 := Since.cellTo ⟨y5, rfl⟩ hb0_3
        replace hb0_4 := Since.cellTo ⟨y5, rfl⟩ hb0_4
        replace hb0_5 := Since.cellTo ⟨y5, rfl⟩ hb0_5
        replace Hta0 := Since.cellTo ⟨y5, rfl⟩ Hta0
        replace Hta1 := Since.cellTo ⟨y5, rfl⟩ Hta1
        replace Hta2 := Since.cellTo ⟨y5, rfl⟩ Hta2
        obtain ⟨q5, hq0⟩ := Since.refl y5.w
        rw [hq0]
        clear hq0
        replace H := Lib.hid (H.out.to ⟨q5, rfl⟩)
        replace Rta := Lib.hid (Rta.out.to ⟨q5, rfl⟩)
        replace Rtb := Lib.hid (Rtb.out.to ⟨q5, rfl⟩)
        go_upto_region 6 with (go_at_call 19; ((with_reducible refine (HB.out y5.w _ (IsSince.of q5) H.out).mono ?_); rintro _ _ ⟨atc, ctc, y6, rfl, rfl, hz, hrow⟩; replace H := Lib.hid (H.out.to hz); replace Rta := Lib.hid (Rta.out.to hz); replace Rtb := Lib.hid (Rtb.out.to hz); have Rtc := Lib.hid hrow; clear hrow; clear hz))
        have tc0 : (y6.w.alloc (.cells #[.int .i64 B.r, .int .i64 B.c, .slice atc B.l.length ctc] 39)).cell? ⟨y6.w.heap.size, 0, none⟩ = some (.int .i64 B.r) := by simp [go_sem]
        have tc1 : (y6.w.alloc (.cells #[.int .i64 B.r, .int .i64 B.c, .slice atc B.l.length ctc] 39)).cell? ⟨y6.w.heap.size, 1, none⟩ = some (.int .i64 B.c) := by simp [go_sem]
        have tc2 : (y6.w.alloc (.cells #[.int .i64 B.r, .int .i64 B.c, .slice atc B.l.length ctc] 39)).cell? ⟨y6.w.heap.size, 2, none⟩ = some (.slice atc B.l.length ctc) := by simp [go_sem]
        have tcf : ∀ o, (y6.w.alloc (.cells #[.int .i64 B.r, .int .i64 B.c, .slice atc B.l.length ctc] 39)).frozen? ⟨y6.w.heap.size, o, none⟩ = false := fun o => by simp [go_sem]
        have hlt0 : y6.w.heap.size < (y6.w.alloc (.cells #[.int .i64 B.r, .int .i64 B.c, .slice atc B.l.length ctc] 39)).heap.size := by simp
        have hst0 : ∃ zz : Since y6.w, (y6.w.alloc (.cells #[.int .i64 B.r, .int .i64 B.c, .slice atc B.l.length ctc] 39)) = zz.w := IsSince.alloc (IsSince.self _) _
        have hsz0 := y6.b.size
        obtain ⟨y7, e2⟩ := IsSince.alloc (IsSince.of y6) (.cells #[.int .i64 B.r, .int .i64 B.c, .slice atc B.l.length ctc] 39)
        rw [e2] at tc0 tc1 tc2 tcf hlt0 hst0 ⊢
        (replace H := Lib.hid (H.out.to hst0); replace Rta := Lib.hid (Rta.out.to hst0); replace Rtb := Lib.hid (Rtb.out.to hst0); replace Rtc := Lib.hid (Rtc.out.to hst0))
        clear e2 hst0
        generalize y6.w.heap.size = gtc at *
        have Htc0 : ∀ q : Since y7.w, q.w.cell? ⟨gtc, 0, none⟩ = some (.int .i64 B.r) := fun q => Since.cell tc0 (by omega) q
        have Htc1 : ∀ q : Since y7.w, q.w.cell? ⟨gtc, 1, none⟩ = some (.int .i64 B.c) := fun q => Since.cell tc1 (by omega) q
        have Htc2 : ∀ q : Since y7.w, q.w.cell? ⟨gtc, 2, none⟩ = some (.slice atc B.l.length ctc) := fun q => Since.cell tc2 (by omega) q
        have Htcf : ∀ (q : Since y7.w) (o : Nat), q.w.frozen? ⟨gtc, o, none⟩ = false := fun q o => Since.free (tcf o) (by omega) q
        have Htcg := Lib.hid (And.intro hsz0 hlt0)
        clear hlt0 hsz0
        clear tc0 tc1 tc2 tcf Htcf Htcg
        replace HU := Lib.hid (HU.out.trans (IsSince.of y7))
        replace hb0_0 := Since.cellTo ⟨y7, rfl⟩ hb0_0
        replace hb0_1 := Since.cellTo ⟨y7, rfl⟩ hb0_1
        replace hb0_2 := Since.cellTo ⟨y7, rfl⟩ hb0_2
        replace hb0_3 := Since.cellTo ⟨y7, rfl⟩ hb0_3
        replace hb0_4 := Since.cellTo ⟨y7, rfl⟩ hb0_4
        replace hb0_5 := Since.cellTo ⟨y7, rfl⟩ hb0_5
        replace Hta0 := Since.cellTo ⟨y7, rfl⟩ Hta0
        replace Hta1 := Since.cellTo ⟨y7, rfl⟩ Hta1
        replace Hta2 := Since.cellTo ⟨y7, rfl⟩ Hta2
        replace Htb0 := Since.cellTo ⟨y7, rfl⟩ Htb0
        replace Htb1 := Since.cellTo ⟨y7, rfl⟩ Htb1
        replace Htb2 := Since.cellTo ⟨y7, rfl⟩ Htb2
        obtain ⟨q7, hq0⟩ := Since.refl y7.w
        rw [hq0]
        clear hq0
        replace H := Lib.hid (H.out.to ⟨q7, rfl⟩)
        replace Rta := Lib.hid (Rta.out.to ⟨q7, rfl⟩)
        replace Rtb := Lib.hid (Rtb.out.to ⟨q7, rfl⟩)
        replace Rtc := Lib.hid (Rtc.out.to ⟨q7, rfl⟩)
        clear HT HA HB Hf
        replace HU := Lib.hid (HU.out.trans (IsSince.of q7))
        replace hb0_0 := Since.cellTo ⟨q7, rfl⟩ hb0_0
        replace hb0_1 := Since.cellTo ⟨q7, rfl⟩ hb0_1
        replace hb0_2 := Since.cellTo ⟨q7, rfl⟩ hb0_2
        replace hb0_3 := Since.cellTo ⟨q7, rfl⟩ hb0_3
        replace hb0_4 := Since.cellTo ⟨q7, rfl⟩ hb0_4
        replace hb0_5 := Since.cellTo ⟨q7, rfl⟩ hb0_5
        replace Hta0 := Since.cellTo ⟨q7, rfl⟩ Hta0
        replace Hta1 := Since.cellTo ⟨q7, rfl⟩ Hta1
        replace Hta2 := Since.cellTo ⟨q7, rfl⟩ Hta2
        replace Htb0 := Since.cellTo ⟨q7, rfl⟩ Htb0
        replace Htb1 := Since.cellTo ⟨q7, rfl⟩ Htb1
        replace Htb2 := Since.cellTo ⟨q7, rfl⟩ Htb2
        replace Htc0 := Since.cellTo ⟨q7, rfl⟩ Htc0
        replace Htc1 := Since.cellTo ⟨q7, rfl⟩ Htc1
        replace Htc2 := Since.cellTo ⟨q7, rfl⟩ Htc2
        obtain ⟨s7, hq0⟩ := Since.refl q7.w
        rw [hq0]
        clear hq0
        obtain ⟨m, hm⟩ : ∃ m, m = T.l.length := ⟨_, rfl⟩
        have hA := HAdd.out.1
        have hB := HAdd.out.2.1
        rw [hA] at Htb2
        rw [hB] at Htc2
        rw [← hm] at Hta2 Htb2 Htc2
        have Hm := Lib.hid hm
        have hm64 : m ≤ 64 := by have := HAdd.out.2.2.1; omega
        clear hm hA hB
        go_wp2_with fail
        go_loopw [11] (fun si wr => ∃ (j : Nat) (z : Since q7.w), j ≤ m ∧ si = .int .i64 (j : Int) ∧ wr = z.w) (fun si _ => m - (intOf si).toNat)
        case atStart => exact ⟨0, s7, by omega, rfl, rfl⟩
        case round =>
          obtain ⟨j, z, hj, rfl, rfl⟩ := hrel
          by_cases hjt : j < m
          · have hj0 : (0 : Int) ≤ (j : Int) := by omega
            have hjl : (j : Int) < (m : Int) := by omega
            obtain ⟨b1, off1, hx1, hb1, hc1⟩ := Rta.out j (by have := Hm.out; omega)
            obtain ⟨b2, off2, hx2, hb2, hc2⟩ := Rtb.out j (by have := Hm.out; have := HAdd.out.1; omega)
            obtain ⟨b3, off3, hx3, hb3, hc3⟩ := Rtc.out j (by have := Hm.out; have := HAdd.out.2.1; omega)
            have kc1 : ∀ q : Since q7.w, q.w.cell? ⟨b1, off1 + j, none⟩ = some (.int .i64 (at0 T.l j)) := fun q => Since.cell hc1 hb1 q
            have kc2 : ∀ q : Since q7.w, q.w.cell? ⟨b2, off2 + j, none⟩ = some (.int .i64 (at0 A.l j)) := fun q => Since.cell hc2 hb2 q
            have kc3 : ∀ q : Since q7.w, q.w.cell? ⟨b3, off3 + j, none⟩ = some (.int .i64 (at0 B.l j)) := fun q => Since.cell hc3 hb3 q
            subst hx1 hx2 hx3
            obtain ⟨s1, s2, s3, s4, s5⟩ := HAdd.out.2.2.2 j (by have := Hm.out; omega)
            generalize at0 T.l j = v1 at *
            generalize at0 A.l j = v2 at *
            generalize at0 B.l j = v3 at *
            have w1 : IntKind.i64.wrap (v2 + v3) = v2 + v3 := IntWalk.i64_in _ (by omega)
            have w2 : (v1 != v2 + v3) = false := by simp; exact s1
            clear hc1 hb1 hc2 hb2 hc3 hb3 s1
            go_wp2_with fail
            refine wp_region_since (by kernel_rfl) (by kernel_rfl) ?_
            repeat (go_big_quiet_step (fail))
            refine wpQuiet_nil ?_
            rintro _ ⟨z2, rfl⟩
            go_wp2_with fail
            go_roundw
            case rel => exact ⟨j + 1, z2, by omega, by go_num, rfl⟩
            case measure => simp [intOf] <;> omega
          · obtain rfl : j = m := by omega
            go_wp2_with (go_at_call 12; ((with_reducible refine (awake_calls _ z).mono ?_); rintro _ _ ⟨rfl, yz, rfl⟩))
            go_ret
            exact ⟨rfl, HU.out.trans (IsSince.of yz)⟩
end Go.Proofs.Ytdmmjapccgeffaa
