/- The law TripsBound, walked. -/
import Derived.Test.YtdmmjapccgeffaaTrMh
import Derived.IntWalk
set_option linter.all false
namespace Go.Proofs.Ytdmmjapccgeffaa
open Go.RowKit

/-- of this rider and day -/
def ofD (rider dd : Int) (r : Ride) : Bool := decide (r.rd = rider ∧ r.s0 / 86400 = dd)
theorem ofD_key {rider dd : Int} (r s : Ride) (h : key r = key s) : ofD rider dd r = ofD rider dd s := by
  have h1 : r.rd = s.rd := congrArg Prod.fst h
  have h2 : r.s0 / 86400 = s.s0 / 86400 := congrArg Prod.snd h
  unfold ofD
  rw [h1, h2]
theorem tabV_l' {zs : List Int} {size : Int} {R : List Ride} {f t each : Int} (h : tabE zs size R f t each = 0) : (tabV zs size R f t each).l = cells zs size (cntL R each f t) := by rw [tabV_ok h]
theorem bound_facts {q : Cas} {rider dd : Int} (h : tabE q.zs q.n q.R q.f q.t q.e = 0) :
    tabE q.zs q.n (q.R.filter fun r => !ofD rider dd r) q.f q.t q.e = 0 ∧ tabE q.zs q.n (q.R.filter (ofD rider dd)) q.f q.t q.e = 0 ∧
    (tabV q.zs q.n (q.R.filter fun r => !ofD rider dd r) q.f q.t q.e).l.length = (tabV q.zs q.n q.R q.f q.t q.e).l.length ∧ (tabV q.zs q.n (q.R.filter (ofD rider dd)) q.f q.t q.e).l.length = (tabV q.zs q.n q.R q.f q.t q.e).l.length ∧ (tabV q.zs q.n q.R q.f q.t q.e).l.length ≤ 64 ∧
    (∀ j, j < (tabV q.zs q.n q.R q.f q.t q.e).l.length → at0 (tabV q.zs q.n q.R q.f q.t q.e).l j = at0 (tabV q.zs q.n (q.R.filter fun r => !ofD rider dd r) q.f q.t q.e).l j + at0 (tabV q.zs q.n (q.R.filter (ofD rider dd)) q.f q.t q.e).l j ∧ 0 ≤ at0 (tabV q.zs q.n (q.R.filter fun r => !ofD rider dd r) q.f q.t q.e).l j ∧ at0 (tabV q.zs q.n (q.R.filter fun r => !ofD rider dd r) q.f q.t q.e).l j ≤ 256 ∧ 0 ≤ at0 (tabV q.zs q.n (q.R.filter (ofD rider dd)) q.f q.t q.e).l j ∧ at0 (tabV q.zs q.n (q.R.filter (ofD rider dd)) q.f q.t q.e).l j ≤ 256) ∧
    apV (tabV q.zs q.n q.R q.f q.t q.e) (tabV q.zs q.n (q.R.filter fun r => !ofD rider dd r) q.f q.t q.e) = sumN (at0 (tabV q.zs q.n (q.R.filter (ofD rider dd)) q.f q.t q.e).l) (tabV q.zs q.n q.R q.f q.t q.e).l.length ∧
    apE (tabV q.zs q.n q.R q.f q.t q.e) (tabV q.zs q.n (q.R.filter fun r => !ofD rider dd r) q.f q.t q.e) = 0 ∧
    ∀ j, j ≤ (tabV q.zs q.n q.R q.f q.t q.e).l.length → 0 ≤ sumN (at0 (tabV q.zs q.n (q.R.filter (ofD rider dd)) q.f q.t q.e).l) j ∧ sumN (at0 (tabV q.zs q.n (q.R.filter (ofD rider dd)) q.f q.t q.e).l) j ≤ q.e ∧ q.e ≤ 256 := by
  have hkn : ∀ r s, key r = key s → (!ofD rider dd r) = !ofD rider dd s := fun r s h => by rw [ofD_key r s h]
  have hu := tabE_part (q := fun r => !ofD rider dd r) hkn h
  have hv := tabE_part (q := ofD rider dd) ofD_key h
  obtain ⟨h1, h2, h3⟩ := (tabE_zero ..).1 h
  obtain ⟨e0, e1, hrz⟩ := eachE_zero h2
  have hR := (ridesE_zero hrz).1
  have h64 := tabV_len q.zs q.n q.R q.f q.t q.e
  have hck := chk_table h
  have hcu := chk_table hu
  have hap : apE (tabV q.zs q.n q.R q.f q.t q.e) (tabV q.zs q.n (q.R.filter fun r => !ofD rider dd r) q.f q.t q.e) = 0 := apE_of hck hcu (by rw [tabV_ok h, tabV_ok hu]) (by rw [tabV_ok h, tabV_ok hu])
  have hlv : (tabV q.zs q.n (q.R.filter (ofD rider dd)) q.f q.t q.e).l.length = (tabV q.zs q.n q.R q.f q.t q.e).l.length := by rw [tabV_l' h, tabV_l' hv, cells_len, cells_len]
  have hlu : (tabV q.zs q.n (q.R.filter fun r => !ofD rider dd r) q.f q.t q.e).l.length = (tabV q.zs q.n q.R q.f q.t q.e).l.length := by rw [tabV_l' h, tabV_l' hu, cells_len, cells_len]
  have hj : ∀ j, j < (tabV q.zs q.n q.R q.f q.t q.e).l.length → at0 (tabV q.zs q.n q.R q.f q.t q.e).l j = at0 (tabV q.zs q.n (q.R.filter fun r => !ofD rider dd r) q.f q.t q.e).l j + at0 (tabV q.zs q.n (q.R.filter (ofD rider dd)) q.f q.t q.e).l j ∧ 0 ≤ at0 (tabV q.zs q.n (q.R.filter fun r => !ofD rider dd r) q.f q.t q.e).l j ∧ at0 (tabV q.zs q.n (q.R.filter fun r => !ofD rider dd r) q.f q.t q.e).l j ≤ 256 ∧ 0 ≤ at0 (tabV q.zs q.n (q.R.filter (ofD rider dd)) q.f q.t q.e).l j ∧ at0 (tabV q.zs q.n (q.R.filter (ofD rider dd)) q.f q.t q.e).l j ≤ 256 := by
    intro j hj
    rw [tabV_l' h, cells_len] at hj
    rw [tabV_l' h, tabV_l' hu, tabV_l' hv, cells_at hj, cells_at hj, cells_at hj]
    have a1 := celN_range q.zs q.n (cntL (q.R.filter fun r => !ofD rider dd r) q.e q.f q.t) j
    have a2 := celN_range q.zs q.n (cntL (q.R.filter (ofD rider dd)) q.e q.f q.t) j
    have b1 := Nat.le_trans (cntL_len (q.R.filter fun r => !ofD rider dd r) q.e q.f q.t) (List.length_filter_le _ _)
    have b2 := Nat.le_trans (cntL_len (q.R.filter (ofD rider dd)) q.e q.f q.t) (List.length_filter_le _ _)
    refine ⟨?_, a1.1, by omega, a2.1, by omega⟩
    rw [cntL_part hkn, cntL_part ofD_key]
    exact celN_part q.zs q.n (ofD rider dd) j _
  refine ⟨hu, hv, hlu, hlv, h64, hj, ?_, hap, fun j hj2 => ⟨?_, ?_, e1⟩⟩
  · unfold apV
    rw [if_pos hap]
    exact apS_parts _ fun i hi => ⟨(hj i hi).1, (hj i hi).2.2.2.1⟩
  · have hc : sumN (at0 (tabV q.zs q.n (q.R.filter (ofD rider dd)) q.f q.t q.e).l) j = sumN (celN q.zs q.n (cntL (q.R.filter (ofD rider dd)) q.e q.f q.t)) j := sumN_congr j fun i hi => by rw [tabV_l' hv]; exact cells_at (by rw [tabV_l' h, cells_len] at hj2; omega)
    rw [hc]
    exact sumN_nonneg (fun i => (celN_range ..).1) j
  · have hc : sumN (at0 (tabV q.zs q.n (q.R.filter (ofD rider dd)) q.f q.t q.e).l) j = sumN (celN q.zs q.n (cntL (q.R.filter (ofD rider dd)) q.e q.f q.t)) j := sumN_congr j fun i hi => by rw [tabV_l' hv]; exact cells_at (by rw [tabV_l' h, cells_len] at hj2; omega)
    rw [hc]
    have hj3 : j ≤ (q.n * q.n).toNat := by rw [tabV_l' h, cells_len] at hj2; exact hj2
    have hm := sumN_mono (f := celN q.zs q.n (cntL (q.R.filter (ofD rider dd)) q.e q.f q.t)) (fun i => (celN_range ..).1) hj3
    rw [sum_cells (zs := q.zs) ⟨h1.1, h1.2.1⟩ _ ((tabE_zero ..).1 hv).2.2, cntL_part ofD_key] at hm
    have hb := cnt_bound (f := q.f) (t := q.t) (q := ofD rider dd) (k := (rider, dd)) h2 (fun r hr => by
      have hr2 : r.rd = rider ∧ r.s0 / 86400 = dd := of_decide_eq_true hr
      exact Prod.ext hr2.1 hr2.2)
    rw [cntL_part ofD_key]
    omega
set_option maxRecDepth 100000 in
set_option maxHeartbeats 16000000 in
theorem tripsBound_calls (w : World) (x : Since w) (q : Cas) (rider dd : Int) (h : q.At w) :
    Calls Try.prog 7 #[.agg #[.slice q.az q.zs.length q.cz, .int .i64 q.n, .int .i64 q.e, .slice q.a q.R.length q.c, .int .i64 q.f, .int .i64 q.t], .int .i64 rider, .int .i64 dd] x.w (Yes w) := by
  have H := Lib.hid h
  clear h
  go_enter Try.func7, Try.ntmps7
  go_upto_region 1 with fail
  have hb0_0 : ∀ y : Since (x.w.alloc (.cells #[.slice q.az q.zs.length q.cz, .int .i64 q.n, .int .i64 q.e, .slice q.a q.R.length q.c, .int .i64 q.f, .int .i64 q.t] 36)), y.w.cell? ⟨x.w.heap.size, 0, none⟩ = some (.slice q.az q.zs.length q.cz) := fun y => Since.cell (by simp [go_sem]) (by first | (simp; done) | (simp; omega)) y
  have hb0_1 : ∀ y : Since (x.w.alloc (.cells #[.slice q.az q.zs.length q.cz, .int .i64 q.n, .int .i64 q.e, .slice q.a q.R.length q.c, .int .i64 q.f, .int .i64 q.t] 36)), y.w.cell? ⟨x.w.heap.size, 1, none⟩ = some (.int .i64 q.n) := fun y => Since.cell (by simp [go_sem]) (by first | (simp; done) | (simp; omega)) y
  have hb0_2 : ∀ y : Since (x.w.alloc (.cells #[.slice q.az q.zs.length q.cz, .int .i64 q.n, .int .i64 q.e, .slice q.a q.R.length q.c, .int .i64 q.f, .int .i64 q.t] 36)), y.w.cell? ⟨x.w.heap.size, 2, none⟩ = some (.int .i64 q.e) := fun y => Since.cell (by simp [go_sem]) (by first | (simp; done) | (simp; omega)) y
  have hb0_3 : ∀ y : Since (x.w.alloc (.cells #[.slice q.az q.zs.length q.cz, .int .i64 q.n, .int .i64 q.e, .slice q.a q.R.length q.c, .int .i64 q.f, .int .i64 q.t] 36)), y.w.cell? ⟨x.w.heap.size, 3, none⟩ = some (.slice q.a q.R.length q.c) := fun y => Since.cell (by simp [go_sem]) (by first | (simp; done) | (simp; omega)) y
  have hb0_4 : ∀ y : Since (x.w.alloc (.cells #[.slice q.az q.zs.length q.cz, .int .i64 q.n, .int .i64 q.e, .slice q.a q.R.length q.c, .int .i64 q.f, .int .i64 q.t] 36)), y.w.cell? ⟨x.w.heap.size, 4, none⟩ = some (.int .i64 q.f) := fun y => Since.cell (by simp [go_sem]) (by first | (simp; done) | (simp; omega)) y
  have hb0_5 : ∀ y : Since (x.w.alloc (.cells #[.slice q.az q.zs.length q.cz, .int .i64 q.n, .int .i64 q.e, .slice q.a q.R.length q.c, .int .i64 q.f, .int .i64 q.t] 36)), y.w.cell? ⟨x.w.heap.size, 5, none⟩ = some (.int .i64 q.t) := fun y => Since.cell (by simp [go_sem]) (by first | (simp; done) | (simp; omega)) y
  have hf0 : ∀ (y : Since (x.w.alloc (.cells #[.slice q.az q.zs.length q.cz, .int .i64 q.n, .int .i64 q.e, .slice q.a q.R.length q.c, .int .i64 q.f, .int .i64 q.t] 36))) (o : Nat), y.w.frozen? ⟨x.w.heap.size, o, none⟩ = false := fun y o => Since.free (by simp [go_sem]) (by first | (simp; done) | (simp; omega)) y
  have hWup : ∃ z : Since w, (x.w.alloc (.cells #[.slice q.az q.zs.length q.cz, .int .i64 q.n, .int .i64 q.e, .slice q.a q.R.length q.c, .int .i64 q.f, .int .i64 q.t] 36)) = z.w := x.alloc _
  obtain ⟨y0, hy0⟩ := Since.refl (x.w.alloc (.cells #[.slice q.az q.zs.length q.cz, .int .i64 q.n, .int .i64 q.e, .slice q.a q.R.length q.c, .int .i64 q.f, .int .i64 q.t] 36))
  have Hbx := Lib.hid (And.intro x.b.size (show x.w.heap.size + 1 = (x.w.alloc (.cells #[.slice q.az q.zs.length q.cz, .int .i64 q.n, .int .i64 q.e, .slice q.a q.R.length q.c, .int .i64 q.f, .int .i64 q.t] 36)).heap.size from by simp))
  generalize hW : (x.w.alloc (.cells #[.slice q.az q.zs.length q.cz, .int .i64 q.n, .int .i64 q.e, .slice q.a q.R.length q.c, .int .i64 q.f, .int .i64 q.t] 36)) = W at *
  clear hW
  generalize x.w.heap.size = bx at *
  have Hup := Lib.hid (Since.up hWup)
  rw [hy0]
  clear hy0
  replace H := Lib.hid (H.out.to hWup)
  have HU := Lib.hid (show IsSince w W from hWup)
  clear hWup hf0 Hbx
  have Hf := Lib.hid (few51_calls W y0 q H.out)
  cases hfw : fewC q with
  | false =>
    rw [hfw] at Hf
    go_wp2_with (first | (go_at_call 18; ((with_reducible refine Hf.out.mono ?_); rintro _ _ ⟨rfl, y1, rfl⟩)) | (go_at_call 12; ((with_reducible refine (awake_calls W y1).mono ?_); rintro _ _ ⟨rfl, y2, rfl⟩)))
    go_ret
    exact ⟨rfl, Hup.out y2⟩
  | true =>
    rw [hfw] at Hf
    obtain ⟨hR30, hlp⟩ := fewC_rides hfw
    have Hlp := Lib.hid hlp
    clear hfw hlp
    by_cases he : tabE q.zs q.n q.R q.f q.t q.e = 0
    case neg =>
      have HT := Lib.hid (fun (W : World) (w' : World) (hw : IsSince W w') (h : q.At w') => table51_s (W := W) w' hw q h q.a q.R q.c q.f q.t h.r h.rl h.i)
      have hne : (tabE q.zs q.n q.R q.f q.t q.e != 0) = true := by simpa using he
      rw [tabV_no he] at HT
      clear he
      generalize tabE q.zs q.n q.R q.f q.t q.e = e at *
      go_upto_region 4 with (first | (go_at_call 18; ((with_reducible refine Hf.out.mono ?_); rintro _ _ ⟨rfl, y1, rfl⟩; replace H := Lib.hid (H.out.to (IsSince.of y1)))) | (go_at_call 19; ((with_reducible refine (HT.out W _ (IsSince.of y1) H.out).mono ?_); rintro _ _ ⟨ata, cta, y2, rfl, rfl, hz, hrow⟩; replace H := Lib.hid (H.out.to hz); have Rta := Lib.hid hrow; clear hrow; clear hz)))
      have ta0 : (y2.w.alloc (.cells #[.int .i64 tab0.r, .int .i64 tab0.c, .slice ata tab0.l.length cta] 39)).cell? ⟨y2.w.heap.size, 0, none⟩ = some (.int .i64 tab0.r) := by simp [go_sem]
      have ta1 : (y2.w.alloc (.cells #[.int .i64 tab0.r, .int .i64 tab0.c, .slice ata tab0.l.length cta] 39)).cell? ⟨y2.w.heap.size, 1, none⟩ = some (.int .i64 tab0.c) := by simp [go_sem]
      have ta2 : (y2.w.alloc (.cells #[.int .i64 tab0.r, .int .i64 tab0.c, .slice ata tab0.l.length cta] 39)).cell? ⟨y2.w.heap.size, 2, none⟩ = some (.slice ata tab0.l.length cta) := by simp [go_sem]
      have taf : ∀ o, (y2.w.alloc (.cells #[.int .i64 tab0.r, .int .i64 tab0.c, .slice ata tab0.l.length cta] 39)).frozen? ⟨y2.w.heap.size, o, none⟩ = false := fun o => by simp [go_sem]
      have hlt0 : y2.w.heap.size < (y2.w.alloc (.cells #[.int .i64 tab0.r, .int .i64 tab0.c, .slice ata tab0.l.length cta] 39)).heap.size := by simp
      have hst0 : ∃ zz : Since y2.w, (y2.w.alloc (.cells #[.int .i64 tab0.r, .int .i64 tab0.c, .slice ata tab0.l.length cta] 39)) = zz.w := IsSince.alloc (IsSince.self _) _
      have hsz0 := y2.b.size
      obtain ⟨y3, e2⟩ := IsSince.alloc (IsSince.of y2) (.cells #[.int .i64 tab0.r, .int .i64 tab0.c, .slice ata tab0.l.length cta] 39)
      rw [e2] at ta0 ta1 ta2 taf hlt0 hst0 ⊢
      (replace H := Lib.hid (H.out.to hst0); replace Rta := Lib.hid (Rta.out.to hst0))
      clear e2 hst0
      generalize y2.w.heap.size = gta at *
      have Hta0 : ∀ q : Since y3.w, q.w.cell? ⟨gta, 0, none⟩ = some (.int .i64 tab0.r) := fun q => Since.cell ta0 (by omega) q
      have Hta1 : ∀ q : Since y3.w, q.w.cell? ⟨gta, 1, none⟩ = some (.int .i64 tab0.c) := fun q => Since.cell ta1 (by omega) q
      have Hta2 : ∀ q : Since y3.w, q.w.cell? ⟨gta, 2, none⟩ = some (.slice ata tab0.l.length cta) := fun q => Since.cell ta2 (by omega) q
      have Htaf : ∀ (q : Since y3.w) (o : Nat), q.w.frozen? ⟨gta, o, none⟩ = false := fun q o => Since.free (taf o) (by omega) q
      have Htag := Lib.hid (And.intro hsz0 hlt0)
      clear hlt0 hsz0
      clear ta0 ta1 ta2 taf Htaf Htag
      replace HU := Lib.hid (HU.out.trans (IsSince.of y3))
      replace hb0_0 := Since.cellTo ⟨y3, rfl⟩ hb0_0
      replace hb0_1 := Since.cellTo ⟨y3, rfl⟩ hb0_1
      replace hb0_2 := Since.cellTo ⟨y3, rfl⟩ hb0_2
      replace hb0_3 := Since.cellTo ⟨y3, rfl⟩ hb0_3
      replace hb0_4 := Since.cellTo ⟨y3, rfl⟩ hb0_4
      replace hb0_5 := Since.cellTo ⟨y3, rfl⟩ hb0_5
      obtain ⟨q3, hq0⟩ := Since.refl y3.w
      rw [hq0]
      clear hq0
      replace H := Lib.hid (H.out.to ⟨q3, rfl⟩)
      replace Rta := Lib.hid (Rta.out.to ⟨q3, rfl⟩)
      go_wp2_with (go_at_call 12; ((with_reducible refine (awake_calls _ q3).mono ?_); rintro _ _ ⟨rfl, yz, rfl⟩))
      go_ret
      exact ⟨rfl, HU.out.trans (IsSince.of yz)⟩
    case pos =>
      have HF := Lib.hid (bound_facts (rider := rider) (dd := dd) he)
      have hrz := (eachE_zero ((tabE_zero ..).1 he).2.1).2.2
      have Hs0 := Lib.hid (rides_s0 hrz)
      clear hrz
      have HT := Lib.hid (fun (W : World) (w' : World) (hw : IsSince W w') (h : q.At w') => table51_s (W := W) w' hw q h q.a q.R q.c q.f q.t h.r h.rl h.i)
      rw [he] at HT
      have HU2 := Lib.hid (fun (W : World) (w' : World) (hw : IsSince W w') (h : q.At w') (a : Option Addr) (c : Nat) (hr : RideRow w' a (q.R.filter fun r => !ofD rider dd r)) => table51_s (W := W) w' hw q h a (q.R.filter fun r => !ofD rider dd r) c q.f q.t hr (Nat.le_trans (List.length_filter_le _ _) h.rl) (fun r hr => h.i r (List.mem_filter.1 hr).1))
      have HV2 := Lib.hid (fun (W : World) (w' : World) (hw : IsSince W w') (h : q.At w') (a : Option Addr) (c : Nat) (hr : RideRow w' a (q.R.filter (ofD rider dd))) => table51_s (W := W) w' hw q h a (q.R.filter (ofD rider dd)) c q.f q.t hr (Nat.le_trans (List.length_filter_le _ _) h.rl) (fun r hr => h.i r (List.mem_filter.1 hr).1))
      rw [HF.out.1] at HU2
      rw [HF.out.2.1] at HV2
      replace HF := Lib.hid HF.out.2.2
      clear he
      generalize tabV q.zs q.n q.R q.f q.t q.e = T at *
      generalize tabV q.zs q.n (q.R.filter fun r => !ofD rider dd r) q.f q.t q.e = U at *
      generalize tabV q.zs q.n (q.R.filter (ofD rider dd)) q.f q.t q.e = V at *
      go_upto_region 4 with (first | (go_at_call 18; ((with_reducible refine Hf.out.mono ?_); rintro _ _ ⟨rfl, y1, rfl⟩; replace H := Lib.hid (H.out.to (IsSince.of y1)))) | (go_at_call 19; ((with_reducible refine (HT.out W _ (IsSince.of y1) H.out).mono ?_); rintro _ _ ⟨ata, cta, y2, rfl, rfl, hz, hrow⟩; replace H := Lib.hid (H.out.to hz); have Rta := Lib.hid hrow; clear hrow; clear hz)))
      have ta0 : (y2.w.alloc (.cells #[.int .i64 T.r, .int .i64 T.c, .slice ata T.l.length cta] 39)).cell? ⟨y2.w.heap.size, 0, none⟩ = some (.int .i64 T.r) := by simp [go_sem]
      have ta1 : (y2.w.alloc (.cells #[.int .i64 T.r, .int .i64 T.c, .slice ata T.l.length cta] 39)).cell? ⟨y2.w.heap.size, 1, none⟩ = some (.int .i64 T.c) := by simp [go_sem]
      have ta2 : (y2.w.alloc (.cells #[.int .i64 T.r, .int .i64 T.c, .slice ata T.l.length cta] 39)).cell? ⟨y2.w.heap.size, 2, none⟩ = some (.slice ata T.l.length cta) := by simp [go_sem]
      have taf : ∀ o, (y2.w.alloc (.cells #[.int .i64 T.r, .int .i64 T.c, .slice ata T.l.length cta] 39)).frozen? ⟨y2.w.heap.size, o, none⟩ = false := fun o => by simp [go_sem]
      have hlt0 : y2.w.heap.size < (y2.w.alloc (.cells #[.int .i64 T.r, .int .i64 T.c, .slice ata T.l.length cta] 39)).heap.size := by simp
      have hst0 : ∃ zz : Since y2.w, (y2.w.alloc (.cells #[.int .i64 T.r, .int .i64 T.c, .slice ata T.l.length cta] 39)) = zz.w := IsSince.alloc (IsSince.self _) _
      have hsz0 := y2.b.size
      obtain ⟨y3, e2⟩ := IsSince.alloc (IsSince.of y2) (.cells #[.int .i64 T.r, .int .i64 T.c, .slice ata T.l.length cta] 39)
      rw [e2] at ta0 ta1 ta2 taf hlt0 hst0 ⊢
      (replace H := Lib.hid (H.out.to hst0); replace Rta := Lib.hid (Rta.out.to hst0))
      clear e2 hst0
      generalize y2.w.heap.size = gta at *
      have Hta0 : ∀ q : Since y3.w, q.w.cell? ⟨gta, 0, none⟩ = some (.int .i64 T.r) := fun q => Since.cell ta0 (by omega) q
      have Hta1 : ∀ q : Since y3.w, q.w.cell? ⟨gta, 1, none⟩ = some (.int .i64 T.c) := fun q => Since.cell ta1 (by omega) q
      have Hta2 : ∀ q : Since y3.w, q.w.cell? ⟨gta, 2, none⟩ = some (.slice ata T.l.length cta) := fun q => Since.cell ta2 (by omega) q
      have Htaf : ∀ (q : Since y3.w) (o : Nat), q.w.frozen? ⟨gta, o, none⟩ = false := fun q o => Since.free (taf o) (by omega) q
      have Htag := Lib.hid (And.intro hsz0 hlt0)
      clear hlt0 hsz0
      clear ta0 ta1 ta2 taf Htaf Htag
      replace HU := Lib.hid (HU.out.trans (IsSince.of y3))
      replace hb0_0 := Since.cellTo ⟨y3, rfl⟩ hb0_0
      replace hb0_1 := Since.cellTo ⟨y3, rfl⟩ hb0_1
      replace hb0_2 := Since.cellTo ⟨y3, rfl⟩ hb0_2
      replace hb0_3 := Since.cellTo ⟨y3, rfl⟩ hb0_3
      replace hb0_4 := Since.cellTo ⟨y3, rfl⟩ hb0_4
      replace hb0_5 := Since.cellTo ⟨y3, rfl⟩ hb0_5
      obtain ⟨q3, hq0⟩ := Since.refl y3.w
      rw [hq0]
      clear hq0
      replace H := Lib.hid (H.out.to ⟨q3, rfl⟩)
      replace Rta := Lib.hid (Rta.out.to ⟨q3, rfl⟩)
      clear HT Hf
      obtain ⟨n, hn⟩ : ∃ n, n = q.R.length := ⟨_, rfl⟩
      rw [← hn] at hb0_3 hR30
      have Hn := Lib.hid hn
      clear hn
      replace HU := Lib.hid (HU.out.trans (IsSince.of q3))
      replace hb0_0 := Since.cellTo ⟨q3, rfl⟩ hb0_0
      replace hb0_1 := Since.cellTo ⟨q3, rfl⟩ hb0_1
      replace hb0_2 := Since.cellTo ⟨q3, rfl⟩ hb0_2
      replace hb0_3 := Since.cellTo ⟨q3, rfl⟩ hb0_3
      replace hb0_4 := Since.cellTo ⟨q3, rfl⟩ hb0_4
      replace hb0_5 := Since.cellTo ⟨q3, rfl⟩ hb0_5
      replace Hta0 := Since.cellTo ⟨q3, rfl⟩ Hta0
      replace Hta1 := Since.cellTo ⟨q3, rfl⟩ Hta1
      replace Hta2 := Since.cellTo ⟨q3, rfl⟩ Hta2
      obtain ⟨s3, hq0⟩ := Since.refl q3.w
      rw [hq0]
      clear hq0
      go_wp2_with fail
      go_loopw [9, 10, 11] (fun sr so si wr => ∃ (k m1 m2 : Nat) (y : Since q3.w), k ≤ n ∧ si = .int .i64 (k : Int) ∧ wr = y.w ∧ y.w.ownsRow q3.w.heap.size 52 13 sr m1 (flat Ride.cs ((q.R.take k).filter fun r => !ofD rider dd r)) ∧ y.w.ownsRow q3.w.heap.size 52 13 so m2 (flat Ride.cs ((q.R.take k).filter (ofD rider dd))) ∧ (∀ b, sr.ownBlock = some b → so.ownBlock ≠ some b) ∧ m1 ≤ k ∧ m2 ≤ k) (fun _ _ si _ => n - (intOf si).toNat)
      case atStart => exact ⟨0, 0, 0, s3, by omega, rfl, rfl, ⟨rfl, .inl ⟨rfl, rfl⟩⟩, ⟨rfl, .inl ⟨rfl, rfl⟩⟩, (fun b hb => by cases hb), by omega, by omega⟩
      case round =>
        obtain ⟨k, m1, m2, y, hk, rfl, rfl, ho1, ho2, hdis, hm1, hm2⟩ := hrel
        have Ho1 := Lib.hid ho1
        have Ho2 := Lib.hid ho2
        have Hdis := Lib.hid hdis
        clear ho1 ho2 hdis
        by_cases hlt : k < n
        · have hk0 : (0 : Int) ≤ (k : Int) := by omega
          have hkl : (k : Int) < (n : Int) := by omega
          obtain ⟨e, he⟩ : ∃ e, q.R[k]? = some e := ⟨_, List.getElem?_eq_getElem (by have := Hn.out; omega)⟩
          obtain ⟨s0, s1⟩ := Hs0.out e (List.mem_of_getElem? he)
          have Htk := Lib.hid (pick_take q.R (ofD rider dd) k e he)
          have Htn := Lib.hid (pick_take q.R (fun r => !ofD rider dd r) k e he)
          have e3 : e.s0.tdiv 86400 = e.s0 / 86400 := Int.tdiv_eq_ediv_of_nonneg s0
          have e4 : IntKind.i64.wrap (e.s0 / 86400) = e.s0 / 86400 := IntWalk.i64_in _ (by omega)
          have Hd := Lib.hid (show ofD rider dd e = decide (e.rd = rider ∧ e.s0 / 86400 = dd) from rfl)
          obtain ⟨b1, off1, hal, h1'⟩ := Els.ride H.out.r.c he
          have ra0 := h1'.c0
          have ra1 := h1'.c1
          have ra2 := h1'.c2
          have ra3 := h1'.c3
          have ra4 := h1'.c4
          have ra5 := h1'.c5
          have ra6 := h1'.c6
          have ra7 := h1'.c7
          have ra8 := h1'.c8
          have ra9 := h1'.c9
          have ra10 := h1'.c10
          have ra11 := h1'.c11
          have ra12 := h1'.c12
          rw [hal] at hb0_3
          clear h1' he hal
          by_cases hp : e.rd = rider ∧ e.s0 / 86400 = dd
          case pos =>
            obtain ⟨p1, p2⟩ := hp
            rw [decide_eq_true ⟨p1, p2⟩] at Hd
            have hd1 : (e.rd == rider) = true := by simpa using p1
            have hd2 : (e.s0 / 86400 == dd) = true := by simpa using p2
            have Hf := Lib.hid (show flat Ride.cs ((q.R.take (k + 1)).filter (ofD rider dd)) = flat Ride.cs ((q.R.take k).filter (ofD rider dd)) ++ e.cs by rw [Htk.out, Hd.out, flat_append, if_pos rfl, flat_one])
            have Hg := Lib.hid (show (q.R.take (k + 1)).filter (fun r => !ofD rider dd r) = (q.R.take k).filter (fun r => !ofD rider dd r) by rw [Htn.out, Hd.out]; simp)
            clear Htk Htn Hd p1 p2
            go_wp2_with (at_builtin; (refine wpList_appendL (k := 13) (w0 := q3.w) ?hw rfl _ _ 22 rfl q3.w.heap.size (Nat.le_refl _) ?hb 52 zeroRide 136 sRide u10 m2 (flat Ride.cs ((q.R.take k).filter (ofD rider dd))) rfl ?hown ⟨y.w.heap.size, 0, none⟩ 1 1 e.cs rfl rfl ?hc (ride_one _) Nat.one_pos ?h63 ?hbytes ?_; rotate_right 1; intro v2 q2 hown4 hg4 hl4; refine Hid.out ?_))
            case hw => exact IsSince.alloc (IsSince.of y) _
            case hb => have := y.b.size; simp; omega
            case hown => exact own_to Ho2.out (IsSince.alloc (IsSince.self _) _)
            case hc => exact cell_new_at y.w e.cs _
            case h63 => unfold maxLen; omega
            case hbytes => omega
            have Hn2 := Lib.hid (show q2.w.ownsRow q3.w.heap.size 52 13 v2 (m2 + 1) (flat Ride.cs ((q.R.take (k + 1)).filter (ofD rider dd))) by rw [Hf.out]; exact hown4)
            have Hn1 := Lib.hid (show q2.w.ownsRow q3.w.heap.size 52 13 u9 m1 (flat Ride.cs ((q.R.take (k + 1)).filter fun r => !ofD rider dd r)) by rw [Hg.out]; exact own_keep (own_to Ho1.out (IsSince.alloc (IsSince.self _) _)) hg4 (fun b hb h => Hdis.out b hb h.symm))
            have Hn3 := Lib.hid (show ∀ b, u9.ownBlock = some b → v2.ownBlock ≠ some b from fun b hb h => by
              rcases hl4 b h with h1 | h1
              · exact Hdis.out b hb h1
              · have := own_lt Ho1.out b hb; simp at h1; omega)
            clear hown4 hg4 hl4
            refine Lib.hid ?_
            go_wp2_with fail
            go_roundw
            case rel => exact ⟨k + 1, m1, m2 + 1, q2, by omega, by go_num, rfl, Hn1.out, Hn2.out, Hn3.out, by omega, by omega⟩
            case measure => simp [intOf] <;> omega
          case neg =>
            rw [decide_eq_false hp] at Hd
            have hc : (e.rd == rider) = false ∨ ((e.rd == rider) = true ∧ (e.s0 / 86400 == dd) = false) := by
              by_cases p1 : e.rd = rider
              · right; exact ⟨by simpa using p1, by simpa using fun h => hp ⟨p1, h⟩⟩
              · left; simpa using p1
            have Hf := Lib.hid (show flat Ride.cs ((q.R.take (k + 1)).filter fun r => !ofD rider dd r) = flat Ride.cs ((q.R.take k).filter fun r => !ofD rider dd r) ++ e.cs by rw [Htn.out, Hd.out, flat_append]; simp [flat_one])
            have Hg := Lib.hid (show (q.R.take (k + 1)).filter (ofD rider dd) = (q.R.take k).filter (ofD rider dd) by rw [Htk.out, Hd.out]; simp)
            clear Htk Htn Hd hp
            rcases hc with hd1 | ⟨hd1, hd2⟩
            all_goals
              go_wp2_with (at_builtin; (refine wpList_appendL (k := 13) (w0 := q3.w) ?hw rfl _ _ 22 rfl q3.w.heap.size (Nat.le_refl _) ?hb 52 zeroRide 136 sRide u9 m1 (flat Ride.cs ((q.R.take k).filter fun r => !ofD rider dd r)) rfl ?hown ⟨y.w.heap.size, 0, none⟩ 1 1 e.cs rfl rfl ?hc (ride_one _) Nat.one_pos ?h63 ?hbytes ?_; rotate_right 1; intro v2 q2 hown4 hg4 hl4; refine Hid.out ?_))
              case hw => exact IsSince.alloc (IsSince.of y) _
              case hb => have := y.b.size; simp; omega
              case hown => exact own_to Ho1.out (IsSince.alloc (IsSince.self _) _)
              case hc => exact cell_new_at y.w e.cs _
              case h63 => unfold maxLen; omega
              case hbytes => omega
              have Hn2 := Lib.hid (show q2.w.ownsRow q3.w.heap.size 52 13 v2 (m1 + 1) (flat Ride.cs ((q.R.take (k + 1)).filter fun r => !ofD rider dd r)) by rw [Hf.out]; exact hown4)
              have Hn1 := Lib.hid (show q2.w.ownsRow q3.w.heap.size 52 13 u10 m2 (flat Ride.cs ((q.R.take (k + 1)).filter (ofD rider dd))) by rw [Hg.out]; exact own_keep (own_to Ho2.out (IsSince.alloc (IsSince.self _) _)) hg4 (fun b hb h => Hdis.out b h.symm hb))
              have Hn3 := Lib.hid (show ∀ b, v2.ownBlock = some b → u10.ownBlock ≠ some b from fun b h hb => by
                rcases hl4 b h with h1 | h1
                · exact Hdis.out b h1 hb
                · have := own_lt Ho2.out b hb; simp at h1; omega)
              clear hown4 hg4 hl4
              refine Lib.hid ?_
              go_wp2_with fail
              go_roundw
              case rel => exact ⟨k + 1, m1 + 1, m2, q2, by omega, by go_num, rfl, Hn2.out, Hn1.out, Hn3.out, by omega, by omega⟩
              case measure => simp [intOf] <;> omega
        · obtain rfl : k = n := by omega
          obtain ⟨hx1, ar, cr, rfl, hx2, her, hx3, hx4⟩ := own_els Ride.len (by decide) Ho1.out
          obtain ⟨hz1, ao, co, rfl, hz2, heo, hz3, hz4⟩ := own_els Ride.len (by decide) Ho2.out
          clear hx1 hx2 hx3 hx4 hz1 hz2 hz3 hz4
          rw [Hn.out] at hb0_3
          have hdone : ¬ (k : Int) < (q.R.length : Int) := by have := Hn.out; omega
          rw [List.take_of_length_le (by have := Hn.out; omega)] at her heo ⊢
          have RR := Lib.hid (show RideRow y.w ar (q.R.filter fun r => !ofD rider dd r) from ⟨her, fun r hr => (H.out.r.r r (List.mem_filter.1 hr).1).since y⟩)
          have RO := Lib.hid (show RideRow y.w ao (q.R.filter (ofD rider dd)) from ⟨heo, fun r hr => (H.out.r.r r (List.mem_filter.1 hr).1).since y⟩)
          replace H := Lib.hid (H.out.to ⟨y, rfl⟩)
          replace Rta := Lib.hid (Rta.out.to ⟨y, rfl⟩)
          clear her heo Ho1 Ho2 Hdis
          replace HU := Lib.hid (HU.out.trans (IsSince.of y))
          replace hb0_0 := Since.cellTo ⟨y, rfl⟩ hb0_0
          replace hb0_1 := Since.cellTo ⟨y, rfl⟩ hb0_1
          replace hb0_2 := Since.cellTo ⟨y, rfl⟩ hb0_2
          replace hb0_3 := Since.cellTo ⟨y, rfl⟩ hb0_3
          replace hb0_4 := Since.cellTo ⟨y, rfl⟩ hb0_4
          replace hb0_5 := Since.cellTo ⟨y, rfl⟩ hb0_5
          replace Hta0 := Since.cellTo ⟨y, rfl⟩ Hta0
          replace Hta1 := Since.cellTo ⟨y, rfl⟩ Hta1
          replace Hta2 := Since.cellTo ⟨y, rfl⟩ Hta2
          obtain ⟨q0, hq0⟩ := Since.refl y.w
          rw [hq0]
          clear hq0
          replace H := Lib.hid (H.out.to ⟨q0, rfl⟩)
          replace Rta := Lib.hid (Rta.out.to ⟨q0, rfl⟩)
          replace RR := Lib.hid (RR.out.to ⟨q0, rfl⟩)
          replace RO := Lib.hid (RO.out.to ⟨q0, rfl⟩)
          go_upto_region 14 with (go_at_call 19; ((with_reducible refine (HU2.out y.w _ (IsSince.of q0) H.out ar cr RR.out).mono ?_); rintro _ _ ⟨atb, ctb, y4, rfl, rfl, hz, hrow⟩; replace H := Lib.hid (H.out.to hz); replace Rta := Lib.hid (Rta.out.to hz); replace RR := Lib.hid (RR.out.to hz); replace RO := Lib.hid (RO.out.to hz); have Rtb := Lib.hid hrow; clear hrow; clear hz))
          have tb0 : (y4.w.alloc (.cells #[.int .i64 U.r, .int .i64 U.c, .slice atb U.l.length ctb] 39)).cell? ⟨y4.w.heap.size, 0, none⟩ = some (.int .i64 U.r) := by simp [go_sem]
          have tb1 : (y4.w.alloc (.cells #[.int .i64 U.r, .int .i64 U.c, .slice atb U.l.length ctb] 39)).cell? ⟨y4.w.heap.size, 1, none⟩ = some (.int .i64 U.c) := by simp [go_sem]
          have tb2 : (y4.w.alloc (.cells #[.int .i64 U.r, .int .i64 U.c, .slice atb U.l.length ctb] 39)).cell? ⟨y4.w.heap.size, 2, none⟩ = some (.slice atb U.l.length ctb) := by simp [go_sem]
          have tbf : ∀ o, (y4.w.alloc (.cells #[.int .i64 U.r, .int .i64 U.c, .slice atb U.l.length ctb] 39)).frozen? ⟨y4.w.heap.size, o, none⟩ = false := fun o => by simp [go_sem]
          have hlt0 : y4.w.heap.size < (y4.w.alloc (.cells #[.int .i64 U.r, .int .i64 U.c, .slice atb U.l.length ctb] 39)).heap.size := by simp
          have hst0 : ∃ zz : Since y4.w, (y4.w.alloc (.cells #[.int .i64 U.r, .int .i64 U.c, .slice atb U.l.length ctb] 39)) = zz.w := IsSince.alloc (IsSince.self _) _
          have hsz0 := y4.b.size
          obtain ⟨y5, e2⟩ := IsSince.alloc (IsSince.of y4) (.cells #[.int .i64 U.r, .int .i64 U.c, .slice atb U.l.length ctb] 39)
          rw [e2] at tb0 tb1 tb2 tbf hlt0 hst0 ⊢
          (replace H := Lib.hid (H.out.to hst0); replace Rta := Lib.hid (Rta.out.to hst0); replace RR := Lib.hid (RR.out.to hst0); replace RO := Lib.hid (RO.out.to hst0); replace Rtb := Lib.hid (Rtb.out.to hst0))
          clear e2 hst0
          generalize y4.w.heap.size = gtb at *
          have Htb0 : ∀ q : Since y5.w, q.w.cell? ⟨gtb, 0, none⟩ = some (.int .i64 U.r) := fun q => Since.cell tb0 (by omega) q
          have Htb1 : ∀ q : Since y5.w, q.w.cell? ⟨gtb, 1, none⟩ = some (.int .i64 U.c) := fun q => Since.cell tb1 (by omega) q
          have Htb2 : ∀ q : Since y5.w, q.w.cell? ⟨gtb, 2, none⟩ = some (.slice atb U.l.length ctb) := fun q => Since.cell tb2 (by omega) q
          have Htbf : ∀ (q : Since y5.w) (o : Nat), q.w.frozen? ⟨gtb, o, none⟩ = false := fun q o => Since.free (tbf o) (by omega) q
          have Htbg := Lib.hid (And.intro hsz0 hlt0)
          clear hlt0 hsz0
          clear tb0 tb1 tb2 tbf Htbf Htbg
          replace HU := Lib.hid (HU.out.trans (IsSince.of y5))
          replace hb0_0 := Since.cellTo ⟨y5, rfl⟩ hb0_0
          replace hb0_1 := Since.cellTo ⟨y5, rfl⟩ hb0_1
          replace hb0_2 := Since.cellTo ⟨y5, rfl⟩ hb0_2
          replace hb0_3 := Since.cellTo ⟨y5, rfl⟩ hb0_3
          replace hb0_4 := Since.cellTo ⟨y5, rfl⟩ hb0_4
          replace hb0_5 := Since.cellTo ⟨y5, rfl⟩ hb0_5
          replace Hta0 := Since.cellTo ⟨y5, rfl⟩ Hta0
          replace Hta1 := Since.cellTo ⟨y5, rfl⟩ Hta1
          replace Hta2 := Since.cellTo ⟨y5, rfl⟩ Hta2
          obtain ⟨q5, hq0⟩ := Since.refl y5.w
          rw [hq0]
          clear hq0
          replace H := Lib.hid (H.out.to ⟨q5, rfl⟩)
          replace Rta := Lib.hid (Rta.out.to ⟨q5, rfl⟩)
          replace RR := Lib.hid (RR.out.to ⟨q5, rfl⟩)
          replace RO := Lib.hid (RO.out.to ⟨q5, rfl⟩)
          replace Rtb := Lib.hid (Rtb.out.to ⟨q5, rfl⟩)
          go_upto_region 15 with (go_at_call 19; ((with_reducible refine (HV2.out y5.w _ (IsSince.of q5) H.out ao co RO.out).mono ?_); rintro _ _ ⟨atc, ctc, y6, rfl, rfl, hz, hrow⟩; replace H := Lib.hid (H.out.to hz); replace Rta := Lib.hid (Rta.out.to hz); replace RR := Lib.hid (RR.out.to hz); replace RO := Lib.hid (RO.out.to hz); replace Rtb := Lib.hid (Rtb.out.to hz); have Rtc := Lib.hid hrow; clear hrow; clear hz))
          have tc0 : (y6.w.alloc (.cells #[.int .i64 V.r, .int .i64 V.c, .slice atc V.l.length ctc] 39)).cell? ⟨y6.w.heap.size, 0, none⟩ = some (.int .i64 V.r) := by simp [go_sem]
          have tc1 : (y6.w.alloc (.cells #[.int .i64 V.r, .int .i64 V.c, .slice atc V.l.length ctc] 39)).cell? ⟨y6.w.heap.size, 1, none⟩ = some (.int .i64 V.c) := by simp [go_sem]
          have tc2 : (y6.w.alloc (.cells #[.int .i64 V.r, .int .i64 V.c, .slice atc V.l.length ctc] 39)).cell? ⟨y6.w.heap.size, 2, none⟩ = some (.slice atc V.l.length ctc) := by simp [go_sem]
          have tcf : ∀ o, (y6.w.alloc (.cells #[.int .i64 V.r, .int .i64 V.c, .slice atc V.l.length ctc] 39)).frozen? ⟨y6.w.heap.size, o, none⟩ = false := fun o => by simp [go_sem]
          have hlt0 : y6.w.heap.size < (y6.w.alloc (.cells #[.int .i64 V.r, .int .i64 V.c, .slice atc V.l.length ctc] 39)).heap.size := by simp
          have hst0 : ∃ zz : Since y6.w, (y6.w.alloc (.cells #[.int .i64 V.r, .int .i64 V.c, .slice atc V.l.length ctc] 39)) = zz.w := IsSince.alloc (IsSince.self _) _
          have hsz0 := y6.b.size
          obtain ⟨y7, e2⟩ := IsSince.alloc (IsSince.of y6) (.cells #[.int .i64 V.r, .int .i64 V.c, .slice atc V.l.length ctc] 39)
          rw [e2] at tc0 tc1 tc2 tcf hlt0 hst0 ⊢
          (replace H := Lib.hid (H.out.to hst0); replace Rta := Lib.hid (Rta.out.to hst0); replace RR := Lib.hid (RR.out.to hst0); replace RO := Lib.hid (RO.out.to hst0); replace Rtb := Lib.hid (Rtb.out.to hst0); replace Rtc := Lib.hid (Rtc.out.to hst0))
          clear e2 hst0
          generalize y6.w.heap.size = gtc at *
          have Htc0 : ∀ q : Since y7.w, q.w.cell? ⟨gtc, 0, none⟩ = some (.int .i64 V.r) := fun q => Since.cell tc0 (by omega) q
          have Htc1 : ∀ q : Since y7.w, q.w.cell? ⟨gtc, 1, none⟩ = some (.int .i64 V.c) := fun q => Since.cell tc1 (by omega) q
          have Htc2 : ∀ q : Since y7.w, q.w.cell? ⟨gtc, 2, none⟩ = some (.slice atc V.l.length ctc) := fun q => Since.cell tc2 (by omega) q
          have Htcf : ∀ (q : Since y7.w) (o : Nat), q.w.frozen? ⟨gtc, o, none⟩ = false := fun q o => Since.free (tcf o) (by omega) q
          have Htcg := Lib.hid (And.intro hsz0 hlt0)
          clear hlt0 hsz0
          clear tc0 tc1 tc2 tcf Htcf Htcg
          replace HU := Lib.hid (HU.out.trans (IsSince.of y7))
          replace hb0_0 := Since.cellTo ⟨y7, rfl⟩ hb0_0
          replace hb0_1 := Since.cellTo ⟨y7, rfl⟩ hb0_1
          replace hb0_2 := Since.cellTo ⟨y7, rfl⟩ hb0_2
          replace hb0_3 := Since.cellTo ⟨y7, rfl⟩ hb0_3
          replace hb0_4 := Since.cellTo ⟨y7, rfl⟩ hb0_4
          replace hb0_5 := Since.cellTo ⟨y7, rfl⟩ hb0_5
          replace Hta0 := Since.cellTo ⟨y7, rfl⟩ Hta0
          replace Hta1 := Since.cellTo ⟨y7, rfl⟩ Hta1
          replace Hta2 := Since.cellTo ⟨y7, rfl⟩ Hta2
          replace Htb0 := Since.cellTo ⟨y7, rfl⟩ Htb0
          replace Htb1 := Since.cellTo ⟨y7, rfl⟩ Htb1
          replace Htb2 := Since.cellTo ⟨y7, rfl⟩ Htb2
          obtain ⟨q7, hq0⟩ := Since.refl y7.w
          rw [hq0]
          clear hq0
          replace H := Lib.hid (H.out.to ⟨q7, rfl⟩)
          replace Rta := Lib.hid (Rta.out.to ⟨q7, rfl⟩)
          replace RR := Lib.hid (RR.out.to ⟨q7, rfl⟩)
          replace RO := Lib.hid (RO.out.to ⟨q7, rfl⟩)
          replace Rtb := Lib.hid (Rtb.out.to ⟨q7, rfl⟩)
          replace Rtc := Lib.hid (Rtc.out.to ⟨q7, rfl⟩)
          clear HU2 HV2 Hs0
          obtain ⟨m, hm⟩ : ∃ m, m = T.l.length := ⟨_, rfl⟩
          have hUl := HF.out.1
          have hVl := HF.out.2.1
          have hT64 := HF.out.2.2.1
          have Hm := Lib.hid hm
          have hT100 : T.l.length ≤ 100 := by omega
          have hU100 : U.l.length ≤ 100 := by omega
          rw [hUl] at Htb2
          rw [hVl] at Htc2
          rw [← hm] at Hta2 Htb2 Htc2 hT64
          clear hm
          go_upto_region 17 with fail
          have hq2 := Hta2
          rw [Hm.out] at hq2
          have hq3 := Htb2
          rw [Hm.out, ← hUl] at hq3
          have HTT := Lib.hid (And.intro Hta2 Htb2)
          clear Hta2 Htb2 hUl hVl
          go_upto_region 18 with (go_at_call 22; ((with_reducible refine (apart_l (W := y7.w) _ (IsSince.of q7) T U ata cta atb ctb Rta.out Rtb.out hT100 hU100).mono ?_); rintro _ _ ⟨rfl, y8, rfl, hz⟩; replace H := Lib.hid (H.out.to hz); replace Rta := Lib.hid (Rta.out.to hz); replace RR := Lib.hid (RR.out.to hz); replace RO := Lib.hid (RO.out.to hz); replace Rtb := Lib.hid (Rtb.out.to hz); replace Rtc := Lib.hid (Rtc.out.to hz); clear hz))
          have Hta2 := HTT.out.1
          have Htb2 := HTT.out.2
          clear hq2 hq3 HTT hT100 hU100
          replace HU := Lib.hid (HU.out.trans (IsSince.of y8))
          replace hb0_0 := Since.cellTo ⟨y8, rfl⟩ hb0_0
          replace hb0_1 := Since.cellTo ⟨y8, rfl⟩ hb0_1
          replace hb0_2 := Since.cellTo ⟨y8, rfl⟩ hb0_2
          replace hb0_3 := Since.cellTo ⟨y8, rfl⟩ hb0_3
          replace hb0_4 := Since.cellTo ⟨y8, rfl⟩ hb0_4
          replace hb0_5 := Since.cellTo ⟨y8, rfl⟩ hb0_5
          replace Hta0 := Since.cellTo ⟨y8, rfl⟩ Hta0
          replace Hta1 := Since.cellTo ⟨y8, rfl⟩ Hta1
          replace Hta2 := Since.cellTo ⟨y8, rfl⟩ Hta2
          replace Htb0 := Since.cellTo ⟨y8, rfl⟩ Htb0
          replace Htb1 := Since.cellTo ⟨y8, rfl⟩ Htb1
          replace Htb2 := Since.cellTo ⟨y8, rfl⟩ Htb2
          replace Htc0 := Since.cellTo ⟨y8, rfl⟩ Htc0
          replace Htc1 := Since.cellTo ⟨y8, rfl⟩ Htc1
          replace Htc2 := Since.cellTo ⟨y8, rfl⟩ Htc2
          obtain ⟨s8, hq0⟩ := Since.refl y8.w
          rw [hq0]
          clear hq0
          have hS := HF.out.2.2.2.2
          rw [hS.1, hS.2.1, ← Hm.out]
          have HS3 := Lib.hid (show ∀ j, j ≤ m → 0 ≤ sumN (at0 V.l) j ∧ sumN (at0 V.l) j ≤ q.e ∧ q.e ≤ 256 from fun j hj => hS.2.2 j (by have := Hm.out; omega))
          clear hS
          go_wp2_with fail
          go_loopw [18, 19] (fun ss si wr => ∃ (j : Nat) (z : Since y8.w), j ≤ m ∧ si = .int .i64 (j : Int) ∧ ss = .int .i64 (sumN (at0 V.l) j) ∧ wr = z.w) (fun _ si _ => m - (intOf si).toNat)
          case atStart => exact ⟨0, s8, by omega, rfl, rfl, rfl⟩
          case round =>
            obtain ⟨j, z, hj, rfl, rfl, rfl⟩ := hrel
            by_cases hjt : j < m
            · have hj0 : (0 : Int) ≤ (j : Int) := by omega
              have hjl : (j : Int) < (m : Int) := by omega
              obtain ⟨b1, off1, hx1, hb1, hc1⟩ := Rta.out j (by have := Hm.out; omega)
              obtain ⟨b2, off2, hx2, hb2, hc2⟩ := Rtb.out j (by have := Hm.out; have := HF.out.1; omega)
              obtain ⟨b3, off3, hx3, hb3, hc3⟩ := Rtc.out j (by have := Hm.out; have := HF.out.2.1; omega)
              have kc1 : ∀ q : Since y8.w, q.w.cell? ⟨b1, off1 + j, none⟩ = some (.int .i64 (at0 T.l j)) := fun q => Since.cell hc1 hb1 q
              have kc2 : ∀ q : Since y8.w, q.w.cell? ⟨b2, off2 + j, none⟩ = some (.int .i64 (at0 U.l j)) := fun q => Since.cell hc2 hb2 q
              have kc3 : ∀ q : Since y8.w, q.w.cell? ⟨b3, off3 + j, none⟩ = some (.int .i64 (at0 V.l j)) := fun q => Since.cell hc3 hb3 q
              subst hx1 hx2 hx3
              obtain ⟨s1, s2, s3, s4, s5⟩ := HF.out.2.2.2.1 j (by have := Hm.out; omega)
              obtain ⟨t1, t2, t3⟩ := HS3.out j (by omega)
              have Hnx := Lib.hid (show sumN (at0 V.l) (j + 1) = sumN (at0 V.l) j + at0 V.l j from rfl)
              generalize at0 T.l j = v1 at *
              generalize at0 U.l j = v2 at *
              generalize at0 V.l j = v3 at *
              generalize sumN (at0 V.l) j = S at *
              have w1 : IntKind.i64.wrap (v2 + v3) = v2 + v3 := IntWalk.i64_in _ (by omega)
              have w2 : (v1 != v2 + v3) = false := by simp; exact s1
              have w3 : IntKind.i64.wrap (S + v3) = S + v3 := IntWalk.i64_in _ (by omega)
              have w4 : ¬ v3 < 0 := by omega
              have w5 : decide (v3 < 0) = false := decide_eq_false w4
              clear hc1 hb1 hc2 hb2 hc3 hb3 s1
              go_wp2_with fail
              refine wp_region_since (by kernel_rfl) (by kernel_rfl) ?_
              repeat (go_big_quiet_step (fail))
              refine wpQuiet_nil ?_
              rintro _ ⟨z2, rfl⟩
              go_wp2_with fail
              go_roundw
              case rel => exact ⟨j + 1, z2, by omega, by go_num, by rw [Hnx.out], rfl⟩
              case measure => simp [intOf] <;> omega
            · obtain rfl : j = m := by omega
              obtain ⟨t1, t2, t3⟩ := HS3.out j (by omega)
              generalize sumN (at0 V.l) j = S at *
              have hSS : (S == S) = true := by simp
              go_wp2_with (go_at_call 12; ((with_reducible refine (awake_calls _ z).mono ?_); rintro _ _ ⟨rfl, yz, rfl⟩))
              go_ret
              exact ⟨rfl, HU.out.trans (IsSince.of yz)⟩
end Go.Proofs.Ytdmmjapccgeffaa
