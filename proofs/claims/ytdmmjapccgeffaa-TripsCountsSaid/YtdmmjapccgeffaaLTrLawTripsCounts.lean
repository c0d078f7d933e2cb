/- The law TripsCounts, walked. -/
import Derived.Test.YtdmmjapccgeffaaTrMh
import Derived.IntWalk
set_option linter.all false
namespace Go.Proofs.Ytdmmjapccgeffaa
open Go.RowKit

theorem cnt_sums {q : Cas} (h : tabE q.zs q.n q.R q.f q.t q.e = 0) : (∀ k, k ≤ (tabV q.zs q.n q.R q.f q.t q.e).l.length → 0 ≤ sumN (at0 (tabV q.zs q.n q.R q.f q.t q.e).l) k ∧ sumN (at0 (tabV q.zs q.n q.R q.f q.t q.e).l) k ≤ ((cntL q.R q.e q.f q.t).length : Nat)) ∧ sumN (at0 (tabV q.zs q.n q.R q.f q.t q.e).l) (tabV q.zs q.n q.R q.f q.t q.e).l.length = ((cntL q.R q.e q.f q.t).length : Nat) := by
  obtain ⟨h1, _, h3⟩ := (tabE_zero ..).1 h
  rw [tabV_ok h]
  show (∀ k, k ≤ (cells q.zs q.n (cntL q.R q.e q.f q.t)).length → _) ∧ sumN (at0 (cells q.zs q.n (cntL q.R q.e q.f q.t))) (cells q.zs q.n (cntL q.R q.e q.f q.t)).length = _
  rw [cells_len]
  have hs := sum_cells (zs := q.zs) (size := q.n) ⟨h1.1, h1.2.1⟩ (cntL q.R q.e q.f q.t) h3
  have hc : ∀ k, k ≤ (q.n * q.n).toNat → sumN (at0 (cells q.zs q.n (cntL q.R q.e q.f q.t))) k = sumN (celN q.zs q.n (cntL q.R q.e q.f q.t)) k := fun k hk => sumN_congr k fun i hi => cells_at (by omega)
  have hn : ∀ i, 0 ≤ celN q.zs q.n (cntL q.R q.e q.f q.t) i := fun i => (celN_range ..).1
  refine ⟨fun k hk => ?_, by rw [hc _ (Nat.le_refl _), hs]⟩
  show 0 ≤ sumN (at0 (cells q.zs q.n (cntL q.R q.e q.f q.t))) k ∧ sumN (at0 (cells q.zs q.n (cntL q.R q.e q.f q.t))) k ≤ _
  rw [hc k hk]
  exact ⟨sumN_nonneg hn k, hs ▸ sumN_mono hn hk⟩
theorem each_open {L R : List Ride} {each : Int} (h : L.map Ride.bare = (eachL R each).map Ride.bare) : ∀ r ∈ L, r.op = false := by
  intro r hr
  have hm : r.bare ∈ (eachL R each).map Ride.bare := by rw [← h]; exact List.mem_map_of_mem hr
  obtain ⟨s, hs, he⟩ := List.mem_map.1 hm
  have h2 := (List.mem_filter.1 hs).2
  unfold ctd at h2
  rw [Bool.and_eq_true, Bool.not_eq_true'] at h2
  have : s.bare.op = r.bare.op := by rw [he]
  exact this.symm.trans h2.1
theorem each_len {L R : List Ride} {each : Int} (h : L.map Ride.bare = (eachL R each).map Ride.bare) : L.length ≤ R.length := by
  have := congrArg List.length h
  rw [List.length_map, List.length_map] at this
  rw [this]
  exact List.length_filter_le _ _
theorem each_count {L R : List Ride} {each f t : Int} (h : L.map Ride.bare = (eachL R each).map Ride.bare) : (L.filter (inT f t)).length = (cntL R each f t).length := by
  have h1 := filter_bare L (inT f t) (inT f t) (fun _ => rfl)
  have h2 := filter_bare (eachL R each) (inT f t) (inT f t) (fun _ => rfl)
  rw [h, h2] at h1
  have := congrArg List.length h1
  rw [List.length_map, List.length_map] at this
  exact this.symm
theorem inT_cases (f t : Int) (e : Ride) : (¬ f ≤ e.s0) ∨ (f ≤ e.s0 ∧ ¬ e.s0 < t) ∨ (f ≤ e.s0 ∧ e.s0 < t ∧ (e.wh == 1) = false ∧ (e.wh == 2) = false) ∨ (f ≤ e.s0 ∧ e.s0 < t ∧ (e.wh == 1) = true) ∨ (f ≤ e.s0 ∧ e.s0 < t ∧ (e.wh == 1) = false ∧ (e.wh == 2) = true) := by
  by_cases h1 : f ≤ e.s0
  · by_cases h2 : e.s0 < t
    · cases h3 : (e.wh == 1)
      · cases h4 : (e.wh == 2)
        · exact Or.inr (Or.inr (Or.inl ⟨h1, h2, rfl, rfl⟩))
        · exact Or.inr (Or.inr (Or.inr (Or.inr ⟨h1, h2, rfl, rfl⟩)))
      · exact Or.inr (Or.inr (Or.inr (Or.inl ⟨h1, h2, rfl⟩)))
    · exact Or.inr (Or.inl ⟨h1, h2⟩)
  · exact Or.inl h1
set_option maxRecDepth 100000 in
set_option maxHeartbeats 16000000 in
theorem tripsCounts_calls (w : World) (x : Since w) (q : Cas) (h : q.At w) :
    Calls Try.prog 8 #[.agg #[.slice q.az q.zs.length q.cz, .int .i64 q.n, .int .i64 q.e, .slice q.a q.R.length q.c, .int .i64 q.f, .int .i64 q.t]] x.w (Yes w) := by
  have H := Lib.hid h
  clear h
  go_enter Try.func8, Try.ntmps8
  go_upto_region 1 with fail
  have hb0_0 : ∀ y : Since (x.w.alloc (.cells #[.slice q.az q.zs.length q.cz, .int .i64 q.n, .int .i64 q.e, .slice q.a q.R.length q.c, .int .i64 q.f, .int .i64 q.t] 36)), y.w.cell? ⟨x.w.heap.size, 0, none⟩ = some (.slice q.az q.zs.length q.cz) := fun y => Since.cell (by simp [go_sem]) (by first | (simp; done) | (simp; omega)) y
  have hb0_1 : ∀ y : Since (x.w.alloc (.cells #[.slice q.az q.zs.length q.cz, .int .i64 q.n, .int .i64 q.e, .slice q.a q.R.length q.c, .int .i64 q.f, .int .i64 q.t] 36)), y.w.cell? ⟨x.w.heap.size, 1, none⟩ = some (.int .i64 q.n) := fun y => Since.cell (by simp [go_sem]) (by first | (simp; done) | (simp; omega)) y
  have hb0_2 : ∀ y : Since (x.w.alloc (.cells #[.slice q.az q.zs.length q.cz, .int .i64 q.n, .int .i64 q.e, .slice q.a q.R.length q.c, .int .i64 q.f, .int .i64 q.t] 36)), y.w.cell? ⟨x.w.heap.size, 2, none⟩ = some (.int .i64 q.e) := fun y => Since.cell (by simp [go_sem]) (by first | (simp; done) | (simp; omega)) y
  have hb0_3 : ∀ y : Since (x.w.alloc (.cells #[.slice q.az q.zs.length q.cz, .int .i64 q.n, .int .i64 q.e, .slice q.a q.R.length q.c, .int .i64 q.f, .int .i64 q.t] 36)), y.w.cell? ⟨x.w.heap.size, 3, none⟩ = some (.slice q.a q.R.length q.c) := fun y => Since.cell (by simp [go_sem]) (by first | (simp; done) | (simp; omega)) y
  have hb0_4 : ∀ y : Since (x.w.alloc (.cells #[.slice q.az q.zs.length q.cz, .int .i64 q.n, .int .i64 q.e, .slice q.a q.R.length q.c, .int .i64 q.f, .int .i64 q.t] 36)), y.w.cell? ⟨x.w.heap.size, 4, none⟩ = some (.int .i64 q.f) := fun y => Since.cell (by simp [go_sem]) (by first | (simp; done) | (simp; omega)) y
  have hb0_5 : ∀ y : Since (x.w.alloc (.cells #[.slice q.az q.zs.length q.cz, .int .i64 q.n, .int .i64 q.e, .slice q.a q.R.length q.c, .int .i64 q.f, .int .i64 q.t] 36)), y.w.cell? ⟨x.w.heap.size, 5, none⟩ = some (.int .i64 q.t) := fun y => Since.cell (by simp [go_sem]) (by first | (simp; done) | (simp; omega)) y
  have hf0 : ∀ (y : Since (x.w.alloc (.cells #[.slice q.az q.zs.length q.cz, .int .i64 q.n, .int .i64 q.e, .slice q.a q.R.length q.c, .int .i64 q.f, .int .i64 q.t] 36))) (o : Nat), y.w.frozen? ⟨x.w.heap.size, o, none⟩ = false := fun y o => Since.free (by simp [go_sem]) (by first | (simp; done) | (simp; omega)) y
  have hWup : ∃ z : Since w, (x.w.alloc (.cells #[.slice q.az q.zs.length q.cz, .int .i64 q.n, .int .i64 q.e, .slice q.a q.R.length q.c, .int .i64 q.f, .int .i64 q.t] 36)) = z.w := x.alloc _
  obtain ⟨y0, hy0⟩ := Since.refl (x.w.alloc (.cells #[.slice q.az q.zs.length q.cz, .int .i64 q.n, .int .i64 q.e, .slice q.a q.R.length q.c, .int .i64 q.f, .int .i64 q.t] 36))
  have Hbx := Lib.hid (And.intro x.b.size (show x.w.heap.size + 1 = (x.w.alloc (.cells #[.slice q.az q.zs.length q.cz, .int .i64 q.n, .int .i64 q.e, .slice q.a q.R.length q.c, .int .i64 q.f, .int .i64 q.t] 36)).heap.size from by simp))
  generalize hW : (x.w.alloc (.cells #[.slice q.az q.zs.length q.cz, .int .i64 q.n, .int .i64 q.e, .slice q.a q.R.length q.c, .int .i64 q.f, .int .i64 q.t] 36)) = W at *
  clear hW
  generalize x.w.heap.size = bx at *
  have Hup := Lib.hid (Since.up hWup)
  rw [hy0]
  clear hy0
  replace H := Lib.hid (H.out.to hWup)
  have HU := Lib.hid (show IsSince w W from hWup)
  clear hWup hf0 Hbx
  have Hf := Lib.hid (few51_calls W y0 q H.out)
  cases hfw : fewC q with
  | false =>
    rw [hfw] at Hf
    go_wp2_with (first | (go_at_call 18; ((with_reducible refine Hf.out.mono ?_); rintro _ _ ⟨rfl, y1, rfl⟩)) | (go_at_call 12; ((with_reducible refine (awake_calls W y1).mono ?_); rintro _ _ ⟨rfl, y2, rfl⟩)))
    go_ret
    exact ⟨rfl, Hup.out y2⟩
  | true =>
    rw [hfw] at Hf
    obtain ⟨hR30, hlp⟩ := fewC_rides hfw
    have Hlp := Lib.hid hlp
    clear hfw hlp
    by_cases he : tabE q.zs q.n q.R q.f q.t q.e = 0
    case neg =>
      have HT := Lib.hid (fun (W : World) (w' : World) (hw : IsSince W w') (h : q.At w') => table51_s (W := W) w' hw q h q.a q.R q.c q.f q.t h.r h.rl h.i)
      have hne : (tabE q.zs q.n q.R q.f q.t q.e != 0) = true := by simpa using he
      clear he
      generalize tabV q.zs q.n q.R q.f q.t q.e = T at *
      generalize tabE q.zs q.n q.R q.f q.t q.e = e at *
      go_upto_region 4 with (first | (go_at_call 18; ((with_reducible refine Hf.out.mono ?_); rintro _ _ ⟨rfl, y1, rfl⟩; replace H := Lib.hid (H.out.to (IsSince.of y1)))) | (go_at_call 19; ((with_reducible refine (HT.out W _ (IsSince.of y1) H.out).mono ?_); rintro _ _ ⟨ata, cta, y2, rfl, rfl, hz, hrow⟩; replace H := Lib.hid (H.out.to hz); have Rta := Lib.hid hrow; clear hrow; clear hz)))
      have ta0 : (y2.w.alloc (.cells #[.int .i64 T.r, .int .i64 T.c, .slice ata T.l.length cta] 39)).cell? ⟨y2.w.heap.size, 0, none⟩ = some (.int .i64 T.r) := by simp [go_sem]
      have ta1 : (y2.w.alloc (.cells #[.int .i64 T.r, .int .i64 T.c, .slice ata T.l.length cta] 39)).cell? ⟨y2.w.heap.size, 1, none⟩ = some (.int .i64 T.c) := by simp [go_sem]
      have ta2 : (y2.w.alloc (.cells #[.int .i64 T.r, .int .i64 T.c, .slice ata T.l.length cta] 39)).cell? ⟨y2.w.heap.size, 2, none⟩ = some (.slice ata T.l.length cta) := by simp [go_sem]
      have taf : ∀ o, (y2.w.alloc (.cells #[.int .i64 T.r, .int .i64 T.c, .slice ata T.l.length cta] 39)).frozen? ⟨y2.w.heap.size, o, none⟩ = false := fun o => by simp [go_sem]
      have hlt0 : y2.w.heap.size < (y2.w.alloc (.cells #[.int .i64 T.r, .int .i64 T.c, .slice ata T.l.length cta] 39)).heap.size := by simp
      have hst0 : ∃ zz : Since y2.w, (y2.w.alloc (.cells #[.int .i64 T.r, .int .i64 T.c, .slice ata T.l.length cta] 39)) = zz.w := IsSince.alloc (IsSince.self _) _
      have hsz0 := y2.b.size
      obtain ⟨y3, e2⟩ := IsSince.alloc (IsSince.of y2) (.cells #[.int .i64 T.r, .int .i64 T.c, .slice ata T.l.length cta] 39)
      rw [e2] at ta0 ta1 ta2 taf hlt0 hst0 ⊢
      (replace H := Lib.hid (H.out.to hst0); replace Rta := Lib.hid (Rta.out.to hst0))
      clear e2 hst0
      generalize y2.w.heap.size = gta at *
      have Hta0 : ∀ q : Since y3.w, q.w.cell? ⟨gta, 0, none⟩ = some (.int .i64 T.r) := fun q => Since.cell ta0 (by omega) q
      have Hta1 : ∀ q : Since y3.w, q.w.cell? ⟨gta, 1, none⟩ = some (.int .i64 T.c) := fun q => Since.cell ta1 (by omega) q
      have Hta2 : ∀ q : Since y3.w, q.w.cell? ⟨gta, 2, none⟩ = some (.slice ata T.l.length cta) := fun q => Since.cell ta2 (by omega) q
      have Htaf : ∀ (q : Since y3.w) (o : Nat), q.w.frozen? ⟨gta, o, none⟩ = false := fun q o => Since.free (taf o) (by omega) q
      have Htag := Lib.hid (And.intro hsz0 hlt0)
      clear hlt0 hsz0
      clear ta0 ta1 ta2 taf Htaf Htag
      replace HU := Lib.hid (HU.out.trans (IsSince.of y3))
      replace hb0_0 := Since.cellTo ⟨y3, rfl⟩ hb0_0
      replace hb0_1 := Since.cellTo ⟨y3, rfl⟩ hb0_1
      replace hb0_2 := Since.cellTo ⟨y3, rfl⟩ hb0_2
      replace hb0_3 := Since.cellTo ⟨y3, rfl⟩ hb0_3
      replace hb0_4 := Since.cellTo ⟨y3, rfl⟩ hb0_4
      replace hb0_5 := Since.cellTo ⟨y3, rfl⟩ hb0_5
      obtain ⟨q3, hq0⟩ := Since.refl y3.w
      rw [hq0]
      clear hq0
      replace H := Lib.hid (H.out.to ⟨q3, rfl⟩)
      replace Rta := Lib.hid (Rta.out.to ⟨q3, rfl⟩)
      go_wp2_with (first | (go_at_call 13; ((with_reducible refine (each_l (W := y3.w) _ (IsSince.of q3) q.a q.R q.c q.e H.out.r H.out.rl Hlp.out).mono ?_); rintro _ _ ⟨al, cl, L, y4, rfl, rfl, hz, _, _⟩; replace H := Lib.hid (H.out.to hz); replace Rta := Lib.hid (Rta.out.to hz); clear hz)) | (go_at_call 12; ((with_reducible refine (awake_calls _ y4).mono ?_); rintro _ _ ⟨rfl, yz, rfl⟩)))
      go_ret
      exact ⟨rfl, HU.out.trans (IsSince.of yz)⟩
    case pos =>
      have hV := tabV_ok he
      have hck := chk_table he
      have hTl := tabV_len q.zs q.n q.R q.f q.t q.e
      have hok := (tabE_zero ..).1 he
      have hee := hok.2.1
      have HSum := Lib.hid (cnt_sums he)
      have HT := Lib.hid (fun (W : World) (w' : World) (hw : IsSince W w') (h : q.At w') => table51_s (W := W) w' hw q h q.a q.R q.c q.f q.t h.r h.rl h.i)
      rw [he] at HT
      generalize tabV q.zs q.n q.R q.f q.t q.e = T at *
      clear hV he hok
      have hev : eachV q.R q.e = eachL q.R q.e := if_pos hee
      have HEa := Lib.hid (fun (W : World) (w' : World) (hw : IsSince W w') (h : q.At w') => each_l (W := W) w' hw q.a q.R q.c q.e h.r h.rl Hlp.out)
      rw [hee, hev] at HEa
      clear hee hev
      have Hlen := Lib.hid (show (cntL q.R q.e q.f q.t).length ≤ 30 from Nat.le_trans (cntL_len ..) hR30)
      go_upto_region 4 with (first | (go_at_call 18; ((with_reducible refine Hf.out.mono ?_); rintro _ _ ⟨rfl, y1, rfl⟩; replace H := Lib.hid (H.out.to (IsSince.of y1)))) | (go_at_call 19; ((with_reducible refine (HT.out W _ (IsSince.of y1) H.out).mono ?_); rintro _ _ ⟨ata, cta, y2, rfl, rfl, hz, hrow⟩; replace H := Lib.hid (H.out.to hz); have Rta := Lib.hid hrow; clear hrow; clear hz)))
      have ta0 : (y2.w.alloc (.cells #[.int .i64 T.r, .int .i64 T.c, .slice ata T.l.length cta] 39)).cell? ⟨y2.w.heap.size, 0, none⟩ = some (.int .i64 T.r) := by simp [go_sem]
      have ta1 : (y2.w.alloc (.cells #[.int .i64 T.r, .int .i64 T.c, .slice ata T.l.length cta] 39)).cell? ⟨y2.w.heap.size, 1, none⟩ = some (.int .i64 T.c) := by simp [go_sem]
      have ta2 : (y2.w.alloc (.cells #[.int .i64 T.r, .int .i64 T.c, .slice ata T.l.length cta] 39)).cell? ⟨y2.w.heap.size, 2, none⟩ = some (.slice ata T.l.length cta) := by simp [go_sem]
      have taf : ∀ o, (y2.w.alloc (.cells #[.int .i64 T.r, .int .i64 T.c, .slice ata T.l.length cta] 39)).frozen? ⟨y2.w.heap.size, o, none⟩ = false := fun o => by simp [go_sem]
      have hlt0 : y2.w.heap.size < (y2.w.alloc (.cells #[.int .i64 T.r, .int .i64 T.c, .slice ata T.l.length cta] 39)).heap.size := by simp
      have hst0 : ∃ zz : Since y2.w, (y2.w.alloc (.cells #[.int .i64 T.r, .int .i64 T.c, .slice ata T.l.length cta] 39)) = zz.w := IsSince.alloc (IsSince.self _) _
      have hsz0 := y2.b.size
      obtain ⟨y3, e2⟩ := IsSince.alloc (IsSince.of y2) (.cells #[.int .i64 T.r, .int .i64 T.c, .slice ata T.l.length cta] 39)
      rw [e2] at ta0 ta1 ta2 taf hlt0 hst0 ⊢
      (replace H := Lib.hid (H.out.to hst0); replace Rta := Lib.hid (Rta.out.to hst0))
      clear e2 hst0
      generalize y2.w.heap.size = gta at *
      have Hta0 : ∀ q : Since y3.w, q.w.cell? ⟨gta, 0, none⟩ = some (.int .i64 T.r) := fun q => Since.cell ta0 (by omega) q
      have Hta1 : ∀ q : Since y3.w, q.w.cell? ⟨gta, 1, none⟩ = some (.int .i64 T.c) := fun q => Since.cell ta1 (by omega) q
      have Hta2 : ∀ q : Since y3.w, q.w.cell? ⟨gta, 2, none⟩ = some (.slice ata T.l.length cta) := fun q => Since.cell ta2 (by omega) q
      have Htaf : ∀ (q : Since y3.w) (o : Nat), q.w.frozen? ⟨gta, o, none⟩ = false := fun q o => Since.free (taf o) (by omega) q
      have Htag := Lib.hid (And.intro hsz0 hlt0)
      clear hlt0 hsz0
      clear ta0 ta1 ta2 taf Htaf Htag
      replace HU := Lib.hid (HU.out.trans (IsSince.of y3))
      replace hb0_0 := Since.cellTo ⟨y3, rfl⟩ hb0_0
      replace hb0_1 := Since.cellTo ⟨y3, rfl⟩ hb0_1
      replace hb0_2 := Since.cellTo ⟨y3, rfl⟩ hb0_2
      replace hb0_3 := Since.cellTo ⟨y3, rfl⟩ hb0_3
      replace hb0_4 := Since.cellTo ⟨y3, rfl⟩ hb0_4
      replace hb0_5 := Since.cellTo ⟨y3, rfl⟩ hb0_5
      obtain ⟨q3, hq0⟩ := Since.refl y3.w
      rw [hq0]
      clear hq0
      replace H := Lib.hid (H.out.to ⟨q3, rfl⟩)
      replace Rta := Lib.hid (Rta.out.to ⟨q3, rfl⟩)
      clear HT Hf
      go_upto_region 5 with (go_at_call 13; ((with_reducible refine (HEa.out y3.w _ (IsSince.of q3) H.out).mono ?_); rintro _ _ ⟨al, cl, L, y4, rfl, rfl, hz, hrow, hL⟩; replace H := Lib.hid (H.out.to hz); replace Rta := Lib.hid (Rta.out.to hz); have RL := Lib.hid hrow; have HL := Lib.hid hL; clear hrow hL; clear hz))
      replace HU := Lib.hid (HU.out.trans (IsSince.of y4))
      replace hb0_0 := Since.cellTo ⟨y4, rfl⟩ hb0_0
      replace hb0_1 := Since.cellTo ⟨y4, rfl⟩ hb0_1
      replace hb0_2 := Since.cellTo ⟨y4, rfl⟩ hb0_2
      replace hb0_3 := Since.cellTo ⟨y4, rfl⟩ hb0_3
      replace hb0_4 := Since.cellTo ⟨y4, rfl⟩ hb0_4
      replace hb0_5 := Since.cellTo ⟨y4, rfl⟩ hb0_5
      replace Hta0 := Since.cellTo ⟨y4, rfl⟩ Hta0
      replace Hta1 := Since.cellTo ⟨y4, rfl⟩ Hta1
      replace Hta2 := Since.cellTo ⟨y4, rfl⟩ Hta2
      obtain ⟨s4, hq0⟩ := Since.refl y4.w
      rw [hq0]
      clear hq0
      have Hop := Lib.hid (each_open HL.out)
      have Hcn := Lib.hid (each_count (f := q.f) (t := q.t) HL.out)
      have Hll := Lib.hid (each_len HL.out)
      clear HL
      have hll : L.length ≤ 30 := Nat.le_trans Hll.out hR30
      obtain ⟨n, hn⟩ : ∃ n, n = L.length := ⟨_, rfl⟩
      rw [← hn] at hll ⊢
      have Hn := Lib.hid hn
      clear hn
      go_wp2_with fail
      go_loopw [7, 8] (fun sn si wr => ∃ (k : Nat) (y : Since y4.w), k ≤ n ∧ si = .int .i64 (k : Int) ∧ sn = .int .i64 (((L.take k).filter (inT q.f q.t)).length : Nat) ∧ wr = y.w) (fun _ si _ => n - (intOf si).toNat)
      case atStart => exact ⟨0, s4, by omega, rfl, rfl, rfl⟩
      case round =>
        obtain ⟨k, y, hk, rfl, rfl, rfl⟩ := hrel
        by_cases hlt : k < n
        · have hk0 : (0 : Int) ≤ (k : Int) := by omega
          have hkl : (k : Int) < (n : Int) := by omega
          obtain ⟨e, he⟩ : ∃ e, L[k]? = some e := ⟨_, List.getElem?_eq_getElem (by have := Hn.out; omega)⟩
          have Htk := Lib.hid (pick_take L (inT q.f q.t) k e he)
          have hop := Hop.out e (List.mem_of_getElem? he)
          have hm : ((L.take k).filter (inT q.f q.t)).length ≤ 30 := by have := List.length_filter_le (inT q.f q.t) (L.take k); rw [List.length_take] at this; omega
          have Hno := Lib.hid (fun (h : inT q.f q.t e = false) => show ((L.take (k + 1)).filter (inT q.f q.t)).length = ((L.take k).filter (inT q.f q.t)).length by rw [Htk.out, h]; simp)
          have Hye := Lib.hid (fun (h : inT q.f q.t e = true) => show ((L.take (k + 1)).filter (inT q.f q.t)).length = ((L.take k).filter (inT q.f q.t)).length + 1 by rw [Htk.out, h]; simp)
          generalize ((L.take k).filter (inT q.f q.t)).length = m at *
          obtain ⟨b1, off1, hal, h1'⟩ := Els.ride RL.out.c he
          have ra0 := h1'.c0
          have ra1 := h1'.c1
          have ra2 := h1'.c2
          have ra3 := h1'.c3
          have ra4 := h1'.c4
          have ra5 := h1'.c5
          have ra6 := h1'.c6
          have ra7 := h1'.c7
          have ra8 := h1'.c8
          have ra9 := h1'.c9
          have ra10 := h1'.c10
          have ra11 := h1'.c11
          have ra12 := h1'.c12
          clear h1' he Htk
          rw [hop] at ra6
          subst hal
          have HI := Lib.hid (show inT q.f q.t e = (decide (q.f ≤ e.s0) && decide (e.s0 < q.t) && (decide (e.wh = 1) || decide (e.wh = 2))) from rfl)
          have hc := inT_cases q.f q.t e
          rcases hc with h1 | ⟨h1, h2⟩ | ⟨h1, h2, h3, h4⟩ | ⟨h1, h2, h3⟩ | ⟨h1, h2, h3, h4⟩
          case inl =>
            have Hs2 := Lib.hid (Hno.out (by rw [HI.out, decide_eq_false h1]; rfl))
            clear Hno Hye
            have d1 := decide_eq_false h1
            go_wp2_with fail
            refine wp_region_since (by kernel_rfl) (by kernel_rfl) ?_
            repeat (go_big_quiet_step (fail))
            refine wpQuiet_nil ?_
            rintro _ ⟨z, rfl⟩
            go_wp2_with fail
            go_roundw
            case rel => exact ⟨k + 1, z, by omega, by go_num, by rw [Hs2.out], rfl⟩
            case measure => simp [intOf] <;> omega
          case inr.inl =>
            have Hs2 := Lib.hid (Hno.out (by rw [HI.out, decide_eq_false h2]; simp))
            clear Hno Hye
            have d1 := decide_eq_true h1
            have d2 := decide_eq_false h2
            go_wp2_with fail
            refine wp_region_since (by kernel_rfl) (by kernel_rfl) ?_
            repeat (go_big_quiet_step (fail))
            refine wpQuiet_nil ?_
            rintro _ ⟨z, rfl⟩
            go_wp2_with fail
            go_roundw
            case rel => exact ⟨k + 1, z, by omega, by go_num, by rw [Hs2.out], rfl⟩
            case measure => simp [intOf] <;> omega
          case inr.inr.inl =>
            have Hs2 := Lib.hid (Hno.out (by rw [HI.out]; simp at h3 h4; simp [h3, h4]))
            clear Hno Hye
            have d1 := decide_eq_true h1
            have d2 := decide_eq_true h2
            go_wp2_with fail
            refine wp_region_since (by kernel_rfl) (by kernel_rfl) ?_
            repeat (go_big_quiet_step (fail))
            refine wpQuiet_nil ?_
            rintro _ ⟨z, rfl⟩
            go_wp2_with fail
            go_roundw
            case rel => exact ⟨k + 1, z, by omega, by go_num, by rw [Hs2.out], rfl⟩
            case measure => simp [intOf] <;> omega
          all_goals
            have hor : e.wh = 1 ∨ e.wh = 2 := by
              simp at h3
              first
                | exact Or.inl h3
                | (simp at h4; exact Or.inr h4)
            have Hs2 := Lib.hid (Hye.out (by rw [HI.out, decide_eq_true h1, decide_eq_true h2]; simpa using hor))
            clear hor Hno Hye
            have d1 := decide_eq_true h1
            have d2 := decide_eq_true h2
            go_wp2_with fail
            refine wp_region_since (by kernel_rfl) (by kernel_rfl) ?_
            repeat (go_big_quiet_step (fail))
            refine wpQuiet_nil ?_
            rintro _ ⟨z, rfl⟩
            go_wp2_with fail
            go_roundw
            case rel => exact ⟨k + 1, z, by omega, by go_num, by rw [Hs2.out]; go_num, rfl⟩
            case measure => simp [intOf] <;> omega
        · obtain rfl : k = n := by omega
          have Htot := Lib.hid (show ((L.take k).filter (inT q.f q.t)).length = (cntL q.R q.e q.f q.t).length by rw [List.take_of_length_le (by have := Hn.out; omega)]; exact Hcn.out)
          rw [Htot.out]
          have hlen := Hlen.out
          generalize (cntL q.R q.e q.f q.t).length = N at *
          obtain ⟨m, hm⟩ : ∃ m, m = T.l.length := ⟨_, rfl⟩
          have Hm := Lib.hid hm
          rw [← hm] at Hta2 hTl
          clear hm
          have HS := Lib.hid (HSum.out)
          go_wp2_with fail
          go_loopw [7, 9] (fun sn si wr => ∃ (j : Nat) (z : Since y4.w), j ≤ m ∧ si = .int .i64 (j : Int) ∧ sn = .int .i64 ((N : Int) - sumN (at0 T.l) j) ∧ wr = z.w) (fun _ si _ => m - (intOf si).toNat)
          case atStart => exact ⟨0, y, by omega, rfl, by simp [sumN], rfl⟩
          case round =>
            obtain ⟨j, z, hj, rfl, rfl, rfl⟩ := hrel
            by_cases hjt : j < m
            · have hj0 : (0 : Int) ≤ (j : Int) := by omega
              have hjl : (j : Int) < (m : Int) := by omega
              obtain ⟨b1, off1, rfl, hb1, hc1⟩ := Rta.out j (by have := Hm.out; omega)
              have kc1 : ∀ q : Since y4.w, q.w.cell? ⟨b1, off1 + j, none⟩ = some (.int .i64 (at0 T.l j)) := fun q => Since.cell hc1 hb1 q
              obtain ⟨s1, s2⟩ := HS.out.1 j (by have := Hm.out; omega)
              obtain ⟨s3, s4⟩ := HS.out.1 (j + 1) (by have := Hm.out; omega)
              have Hnx := Lib.hid (show sumN (at0 T.l) (j + 1) = sumN (at0 T.l) j + at0 T.l j from rfl)
              rw [Hnx.out] at s3 s4
              generalize at0 T.l j = v at *
              generalize sumN (at0 T.l) j = S at *
              have w1 : IntKind.i64.wrap ((N : Int) - S - v) = (N : Int) - S - v := IntWalk.i64_in _ (by omega)
              clear hc1 hb1
              go_wp2_with fail
              go_roundw
              case rel => exact ⟨j + 1, z, by omega, by go_num, by rw [Hnx.out, Int.sub_sub], rfl⟩
              case measure => simp [intOf] <;> omega
            · obtain rfl : j = m := by omega
              have Hzero := Lib.hid (show (N : Int) - sumN (at0 T.l) j = 0 by have := HS.out.2; rw [← Hm.out] at this; omega)
              rw [Hzero.out]
              have Hc1 := Lib.hid (check_l (W := y4.w) _ (IsSince.of z) T ata cta (Rta.out.to (IsSince.of z)) (by have := Hm.out; omega))
              rw [← Hm.out, hck] at Hc1
              clear HS Hzero
              go_wp2_with (first | (go_at_call 24; ((with_reducible refine Hc1.out.mono ?_); rintro _ _ ⟨rfl, z1, rfl, _⟩)) | (go_at_call 12; ((with_reducible refine (awake_calls _ z1).mono ?_); rintro _ _ ⟨rfl, yz, rfl⟩)))
              go_ret
              exact ⟨rfl, HU.out.trans (IsSince.of yz)⟩
end Go.Proofs.Ytdmmjapccgeffaa
