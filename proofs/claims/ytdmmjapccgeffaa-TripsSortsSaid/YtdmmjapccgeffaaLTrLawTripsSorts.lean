/- The law TripsSorts, walked. -/
import Derived.Test.YtdmmjapccgeffaaTrMh
import Derived.IntWalk
set_option linter.all false
namespace Go.Proofs.Ytdmmjapccgeffaa
open Go.RowKit

theorem rev_at {L M E : List Ride} (h1 : L.map Ride.bare = E.map Ride.bare) (h2 : M.map Ride.bare = E.reverse.map Ride.bare) : M.length = L.length ∧ L.length = E.length ∧ ∀ (k j : Nat) (e g : Ride), j + k + 1 = L.length → L[k]? = some e → M[j]? = some g → g = e.with g.la g.lc g.pa g.pc := by
  have h3 : M.reverse.map Ride.bare = L.map Ride.bare := by rw [List.map_reverse, h2, List.map_reverse, List.reverse_reverse, h1]
  obtain ⟨h4, h5⟩ := rows_at h3
  rw [List.length_reverse] at h4
  refine ⟨h4, by have := congrArg List.length h1; rwa [List.length_map, List.length_map] at this, fun k j e g hk he hg => h5 k e g he ?_⟩
  rw [List.getElem?_reverse (by omega), show M.length - 1 - k = j by omega]
  exact hg
set_option maxRecDepth 100000 in
set_option maxHeartbeats 16000000 in
theorem tripsSorts_calls (w : World) (x : Since w) (q : Cas) (h : q.At w) :
    Calls Try.prog 9 #[.agg #[.slice q.az q.zs.length q.cz, .int .i64 q.n, .int .i64 q.e, .slice q.a q.R.length q.c, .int .i64 q.f, .int .i64 q.t]] x.w (Yes w) := by
  have H := Lib.hid h
  clear h
  go_enter Try.func9, Try.ntmps9
  go_upto_region 1 with fail
  have hb0_0 : ∀ y : Since (x.w.alloc (.cells #[.slice q.az q.zs.length q.cz, .int .i64 q.n, .int .i64 q.e, .slice q.a q.R.length q.c, .int .i64 q.f, .int .i64 q.t] 36)), y.w.cell? ⟨x.w.heap.size, 0, none⟩ = some (.slice q.az q.zs.length q.cz) := fun y => Since.cell (by simp [go_sem]) (by first | (simp; done) | (simp; omega)) y
  have hb0_1 : ∀ y : Since (x.w.alloc (.cells #[.slice q.az q.zs.length q.cz, .int .i64 q.n, .int .i64 q.e, .slice q.a q.R.length q.c, .int .i64 q.f, .int .i64 q.t] 36)), y.w.cell? ⟨x.w.heap.size, 1, none⟩ = some (.int .i64 q.n) := fun y => Since.cell (by simp [go_sem]) (by first | (simp; done) | (simp; omega)) y
  have hb0_2 : ∀ y : Since (x.w.alloc (.cells #[.slice q.az q.zs.length q.cz, .int .i64 q.n, .int .i64 q.e, .slice q.a q.R.length q.c, .int .i64 q.f, .int .i64 q.t] 36)), y.w.cell? ⟨x.w.heap.size, 2, none⟩ = some (.int .i64 q.e) := fun y => Since.cell (by simp [go_sem]) (by first | (simp; done) | (simp; omega)) y
  have hb0_3 : ∀ y : Since (x.w.alloc (.cells #[.slice q.az q.zs.length q.cz, .int .i64 q.n, .int .i64 q.e, .slice q.a q.R.length q.c, .int .i64 q.f, .int .i64 q.t] 36)), y.w.cell? ⟨x.w.heap.size, 3, none⟩ = some (.slice q.a q.R.length q.c) := fun y => Since.cell (by simp [go_sem]) (by first | (simp; done) | (simp; omega)) y
  have hb0_4 : ∀ y : Since (x.w.alloc (.cells #[.slice q.az q.zs.length q.cz, .int .i64 q.n, .int .i64 q.e, .slice q.a q.R.length q.c, .int .i64 q.f, .int .i64 q.t] 36)), y.w.cell? ⟨x.w.heap.size, 4, none⟩ = some (.int .i64 q.f) := fun y => Since.cell (by simp [go_sem]) (by first | (simp; done) | (simp; omega)) y
  have hb0_5 : ∀ y : Since (x.w.alloc (.cells #[.slice q.az q.zs.length q.cz, .int .i64 q.n, .int .i64 q.e, .slice q.a q.R.length q.c, .int .i64 q.f, .int .i64 q.t] 36)), y.w.cell? ⟨x.w.heap.size, 5, none⟩ = some (.int .i64 q.t) := fun y => Since.cell (by simp [go_sem]) (by first | (simp; done) | (simp; omega)) y
  have hf0 : ∀ (y : Since (x.w.alloc (.cells #[.slice q.az q.zs.length q.cz, .int .i64 q.n, .int .i64 q.e, .slice q.a q.R.length q.c, .int .i64 q.f, .int .i64 q.t] 36))) (o : Nat), y.w.frozen? ⟨x.w.heap.size, o, none⟩ = false := fun y o => Since.free (by simp [go_sem]) (by first | (simp; done) | (simp; omega)) y
  have hWup : ∃ z : Since w, (x.w.alloc (.cells #[.slice q.az q.zs.length q.cz, .int .i64 q.n, .int .i64 q.e, .slice q.a q.R.length q.c, .int .i64 q.f, .int .i64 q.t] 36)) = z.w := x.alloc _
  obtain ⟨y0, hy0⟩ := Since.refl (x.w.alloc (.cells #[.slice q.az q.zs.length q.cz, .int .i64 q.n, .int .i64 q.e, .slice q.a q.R.length q.c, .int .i64 q.f, .int .i64 q.t] 36))
  have Hbx := Lib.hid (And.intro x.b.size (show x.w.heap.size + 1 = (x.w.alloc (.cells #[.slice q.az q.zs.length q.cz, .int .i64 q.n, .int .i64 q.e, .slice q.a q.R.length q.c, .int .i64 q.f, .int .i64 q.t] 36)).heap.size from by simp))
  generalize hW : (x.w.alloc (.cells #[.slice q.az q.zs.length q.cz, .int .i64 q.n, .int .i64 q.e, .slice q.a q.R.length q.c, .int .i64 q.f, .int .i64 q.t] 36)) = W at *
  clear hW
  generalize x.w.heap.size = bx at *
  have Hup := Lib.hid (Since.up hWup)
  rw [hy0]
  clear hy0
  replace H := Lib.hid (H.out.to hWup)
  have HU := Lib.hid (show IsSince w W from hWup)
  clear hWup hf0 Hbx
  have Hf := Lib.hid (few51_calls W y0 q H.out)
  cases hfw : fewC q with
  | false =>
    rw [hfw] at Hf
    go_wp2_with (first | (go_at_call 18; ((with_reducible refine Hf.out.mono ?_); rintro _ _ ⟨rfl, y1, rfl⟩)) | (go_at_call 12; ((with_reducible refine (awake_calls W y1).mono ?_); rintro _ _ ⟨rfl, y2, rfl⟩)))
    go_ret
    exact ⟨rfl, Hup.out y2⟩
  | true =>
    rw [hfw] at Hf
    obtain ⟨hR30, hlp⟩ := fewC_rides hfw
    have Hlp := Lib.hid hlp
    clear hfw hlp
    have hTl := tabV_len q.zs q.n q.R q.f q.t q.e
    have HT := Lib.hid (fun (W : World) (w' : World) (hw : IsSince W w') (h : q.At w') => table51_s (W := W) w' hw q h q.a q.R q.c q.f q.t h.r h.rl h.i)
    have HS2 := Lib.hid (fun (W : World) (w' : World) (hw : IsSince W w') (h : q.At w') (a : Option Addr) (c : Nat) (hr : RideRow w' a q.R.reverse) => table51_s (W := W) w' hw q h a q.R.reverse c q.f q.t hr (by rw [List.length_reverse]; exact h.rl) (fun r hr => h.i r (List.mem_reverse.1 hr)))
    rw [tabV_rev, List.length_reverse] at HS2
    have HE1 := Lib.hid (fun (W : World) (w' : World) (hw : IsSince W w') (h : q.At w') => each_l (W := W) w' hw q.a q.R q.c q.e h.r h.rl Hlp.out)
    have HE2 := Lib.hid (fun (W : World) (w' : World) (hw : IsSince W w') (h : q.At w') (a : Option Addr) (c : Nat) (hr : RideRow w' a q.R.reverse) => each_l (W := W) w' hw a q.R.reverse c q.e hr (by rw [List.length_reverse]; exact h.rl) (fun r hr => Hlp.out r (List.mem_reverse.1 hr)))
    rw [eachV_rev, List.length_reverse] at HE2
    have hiff := tabE_rev q.zs q.n q.R q.f q.t q.e
    obtain ⟨b, hb1, hb2⟩ : ∃ b, (tabE q.zs q.n q.R q.f q.t q.e == 0) = b ∧ (tabE q.zs q.n q.R.reverse q.f q.t q.e == 0) = b := ⟨_, rfl, by rw [Bool.eq_iff_iff]; simpa using hiff⟩
    clear hiff
    have hEl := eachV_len (R := q.R) (each := q.e)
    generalize tabV q.zs q.n q.R q.f q.t q.e = T at *
    generalize tabE q.zs q.n q.R q.f q.t q.e = e1 at *
    generalize tabE q.zs q.n q.R.reverse q.f q.t q.e = e2 at *
    generalize eachV q.R q.e = E at *
    generalize eachE q.R q.e = e3 at *
    generalize eachE q.R.reverse q.e = e4 at *
    have Hb := Lib.hid (And.intro hb1 hb2)
    clear hb1 hb2
    obtain ⟨n, hn⟩ : ∃ n, n = q.R.length := ⟨_, rfl⟩
    rw [← hn] at hb0_3 hR30
    have Hn := Lib.hid hn
    clear hn
    have w0 : IntKind.i64.wrap ((n : Int) - 1) = (n : Int) - 1 := IntWalk.i64_in _ (by omega)
    rw [Hn.out] at hb0_3
    go_upto_region 3 with (go_at_call 18; ((with_reducible refine Hf.out.mono ?_); rintro _ _ ⟨rfl, y1, rfl⟩; replace H := Lib.hid (H.out.to (IsSince.of y1))))
    rw [← Hn.out] at hb0_3
    replace HU := Lib.hid (HU.out.trans (IsSince.of y1))
    replace hb0_0 := Since.cellTo ⟨y1, rfl⟩ hb0_0
    replace hb0_1 := Since.cellTo ⟨y1, rfl⟩ hb0_1
    replace hb0_2 := Since.cellTo ⟨y1, rfl⟩ hb0_2
    replace hb0_3 := Since.cellTo ⟨y1, rfl⟩ hb0_3
    replace hb0_4 := Since.cellTo ⟨y1, rfl⟩ hb0_4
    replace hb0_5 := Since.cellTo ⟨y1, rfl⟩ hb0_5
    obtain ⟨s1, hq0⟩ := Since.refl y1.w
    rw [hq0]
    clear hq0
    go_wp2_with fail
    clear w0
    go_loopw [3, 4] (fun so si wr => ∃ (k : Nat) (y : Since y1.w), k ≤ n ∧ si = .int .i64 ((n : Int) - 1 - k) ∧ wr = y.w ∧ y.w.ownsRow y1.w.heap.size 52 13 so k (flat Ride.cs (q.R.reverse.take k))) (fun _ si _ => (intOf si + 1).toNat)
    case atStart => exact ⟨0, s1, by omega, by simp, rfl, ⟨rfl, .inl ⟨rfl, rfl⟩⟩⟩
    case round =>
      obtain ⟨k, y, hk, rfl, rfl, ho1⟩ := hrel
      have Ho1 := Lib.hid ho1
      clear ho1
      by_cases hlt : k < n
      · obtain ⟨j, hj⟩ : ∃ j : Nat, (n : Int) - 1 - k = (j : Int) := ⟨n - 1 - k, by omega⟩
        rw [hj]
        have hk0 : (0 : Int) ≤ (j : Int) := by omega
        have hkl : (j : Int) < (n : Int) := by omega
        have hjn : j < n := by omega
        obtain ⟨e, he⟩ : ∃ e, q.R[j]? = some e := ⟨_, List.getElem?_eq_getElem (by have := Hn.out; omega)⟩
        have Hf := Lib.hid (show flat Ride.cs (q.R.reverse.take (k + 1)) = flat Ride.cs (q.R.reverse.take k) ++ e.cs by rw [List.take_add_one, List.getElem?_reverse (by have := Hn.out; omega), show q.R.length - 1 - k = j by have := Hn.out; omega, he, flat_append]; simp [flat_one])
        have w1 : IntKind.i64.wrap ((j : Int) - 1) = (j : Int) - 1 := IntWalk.i64_in _ (by omega)
        have Hjk := Lib.hid (show (j : Int) - 1 = (n : Int) - 1 - ((k + 1 : Nat) : Int) by omega)
        obtain ⟨b1, off1, hal, h1'⟩ := Els.ride H.out.r.c he
        have ra0 := h1'.c0
        have ra1 := h1'.c1
        have ra2 := h1'.c2
        have ra3 := h1'.c3
        have ra4 := h1'.c4
        have ra5 := h1'.c5
        have ra6 := h1'.c6
        have ra7 := h1'.c7
        have ra8 := h1'.c8
        have ra9 := h1'.c9
        have ra10 := h1'.c10
        have ra11 := h1'.c11
        have ra12 := h1'.c12
        rw [hal] at hb0_3
        clear h1' he hal hj
        go_wp2_with (at_builtin; (refine wpList_appendL (k := 13) (w0 := y1.w) ?hw rfl _ _ 22 rfl y1.w.heap.size (Nat.le_refl _) ?hb 52 zeroRide 136 sRide u3 k (flat Ride.cs (q.R.reverse.take k)) rfl ?hown ⟨y.w.heap.size, 0, none⟩ 1 1 e.cs rfl rfl ?hc (ride_one _) Nat.one_pos ?h63 ?hbytes ?_; rotate_right 1; intro v2 q2 hown4 hg4 hl4; refine Hid.out ?_))
        case hw => exact IsSince.alloc (IsSince.of y) _
        case hb => have := y.b.size; simp; omega
        case hown => exact own_to Ho1.out (IsSince.alloc (IsSince.self _) _)
        case hc => exact cell_new_at y.w e.cs _
        case h63 => unfold maxLen; omega
        case hbytes => omega
        have Hn1 := Lib.hid (show q2.w.ownsRow y1.w.heap.size 52 13 v2 (k + 1) (flat Ride.cs (q.R.reverse.take (k + 1))) by rw [Hf.out]; exact hown4)
        clear hown4 hg4 hl4
        refine Lib.hid ?_
        go_wp2_with fail
        go_roundw
        case rel => exact ⟨k + 1, q2, by omega, by rw [Hjk.out], rfl, Hn1.out⟩
        case measure => simp [intOf] <;> omega
      · obtain rfl : k = n := by omega
        obtain ⟨hx1, ar, cr, rfl, hx2, her, hx3, hx4⟩ := own_els Ride.len (by decide) Ho1.out
        clear hx1 hx2 hx3 hx4
        rw [Hn.out] at hb0_3
        rw [List.take_of_length_le (by rw [List.length_reverse]; have := Hn.out; omega)] at her ⊢
        have RR := Lib.hid (show RideRow y.w ar q.R.reverse from ⟨her, fun r hr => (H.out.r.r r (List.mem_reverse.1 hr)).since y⟩)
        have hdone : ¬ (0 : Int) ≤ (k : Int) - 1 - (k : Int) := by omega
        replace H := Lib.hid (H.out.to ⟨y, rfl⟩)
        clear her Ho1
        replace HU := Lib.hid (HU.out.trans (IsSince.of y))
        replace hb0_0 := Since.cellTo ⟨y, rfl⟩ hb0_0
        replace hb0_1 := Since.cellTo ⟨y, rfl⟩ hb0_1
        replace hb0_2 := Since.cellTo ⟨y, rfl⟩ hb0_2
        replace hb0_3 := Since.cellTo ⟨y, rfl⟩ hb0_3
        replace hb0_4 := Since.cellTo ⟨y, rfl⟩ hb0_4
        replace hb0_5 := Since.cellTo ⟨y, rfl⟩ hb0_5
        obtain ⟨q0, hq0⟩ := Since.refl y.w
        rw [hq0]
        clear hq0
        replace H := Lib.hid (H.out.to ⟨q0, rfl⟩)
        replace RR := Lib.hid (RR.out.to ⟨q0, rfl⟩)
        go_upto_region 9 with (go_at_call 19; ((with_reducible refine (HT.out y.w _ (IsSince.of q0) H.out).mono ?_); rintro _ _ ⟨ata, cta, y2, rfl, rfl, hz, hrow⟩; replace H := Lib.hid (H.out.to hz); replace RR := Lib.hid (RR.out.to hz); have Rta := Lib.hid hrow; clear hrow; clear hz))
        have ta0 : (y2.w.alloc (.cells #[.int .i64 T.r, .int .i64 T.c, .slice ata T.l.length cta] 39)).cell? ⟨y2.w.heap.size, 0, none⟩ = some (.int .i64 T.r) := by simp [go_sem]
        have ta1 : (y2.w.alloc (.cells #[.int .i64 T.r, .int .i64 T.c, .slice ata T.l.length cta] 39)).cell? ⟨y2.w.heap.size, 1, none⟩ = some (.int .i64 T.c) := by simp [go_sem]
        have ta2 : (y2.w.alloc (.cells #[.int .i64 T.r, .int .i64 T.c, .slice ata T.l.length cta] 39)).cell? ⟨y2.w.heap.size, 2, none⟩ = some (.slice ata T.l.length cta) := by simp [go_sem]
        have taf : ∀ o, (y2.w.alloc (.cells #[.int .i64 T.r, .int .i64 T.c, .slice ata T.l.length cta] 39)).frozen? ⟨y2.w.heap.size, o, none⟩ = false := fun o => by simp [go_sem]
        have hlt0 : y2.w.heap.size < (y2.w.alloc (.cells #[.int .i64 T.r, .int .i64 T.c, .slice ata T.l.length cta] 39)).heap.size := by simp
        have hst0 : ∃ zz : Since y2.w, (y2.w.alloc (.cells #[.int .i64 T.r, .int .i64 T.c, .slice ata T.l.length cta] 39)) = zz.w := IsSince.alloc (IsSince.self _) _
        have hsz0 := y2.b.size
        obtain ⟨y3, e2⟩ := IsSince.alloc (IsSince.of y2) (.cells #[.int .i64 T.r, .int .i64 T.c, .slice ata T.l.length cta] 39)
        rw [e2] at ta0 ta1 ta2 taf hlt0 hst0 ⊢
        (replace H := Lib.hid (H.out.to hst0); replace RR := Lib.hid (RR.out.to hst0); replace Rta := Lib.hid (Rta.out.to hst0))
        clear e2 hst0
        generalize y2.w.heap.size = gta at *
        have Hta0 : ∀ q : Since y3.w, q.w.cell? ⟨gta, 0, none⟩ = some (.int .i64 T.r) := fun q => Since.cell ta0 (by omega) q
        have Hta1 : ∀ q : Since y3.w, q.w.cell? ⟨gta, 1, none⟩ = some (.int .i64 T.c) := fun q => Since.cell ta1 (by omega) q
        have Hta2 : ∀ q : Since y3.w, q.w.cell? ⟨gta, 2, none⟩ = some (.slice ata T.l.length cta) := fun q => Since.cell ta2 (by omega) q
        have Htaf : ∀ (q : Since y3.w) (o : Nat), q.w.frozen? ⟨gta, o, none⟩ = false := fun q o => Since.free (taf o) (by omega) q
        have Htag := Lib.hid (And.intro hsz0 hlt0)
        clear hlt0 hsz0
        clear ta0 ta1 ta2 taf Htaf Htag
        replace HU := Lib.hid (HU.out.trans (IsSince.of y3))
        replace hb0_0 := Since.cellTo ⟨y3, rfl⟩ hb0_0
        replace hb0_1 := Since.cellTo ⟨y3, rfl⟩ hb0_1
        replace hb0_2 := Since.cellTo ⟨y3, rfl⟩ hb0_2
        replace hb0_3 := Since.cellTo ⟨y3, rfl⟩ hb0_3
        replace hb0_4 := Since.cellTo ⟨y3, rfl⟩ hb0_4
        replace hb0_5 := Since.cellTo ⟨y3, rfl⟩ hb0_5
        obtain ⟨q3, hq0⟩ := Since.refl y3.w
        rw [hq0]
        clear hq0
        replace H := Lib.hid (H.out.to ⟨q3, rfl⟩)
        replace RR := Lib.hid (RR.out.to ⟨q3, rfl⟩)
        replace Rta := Lib.hid (Rta.out.to ⟨q3, rfl⟩)
        clear hdone
        go_upto_region 10 with (go_at_call 19; ((with_reducible refine (HS2.out y3.w _ (IsSince.of q3) H.out ar cr RR.out).mono ?_); rintro _ _ ⟨atb, ctb, y4, rfl, rfl, hz, hrow⟩; replace H := Lib.hid (H.out.to hz); replace RR := Lib.hid (RR.out.to hz); replace Rta := Lib.hid (Rta.out.to hz); have Rtb := Lib.hid hrow; clear hrow; clear hz))
        have tb0 : (y4.w.alloc (.cells #[.int .i64 T.r, .int .i64 T.c, .slice atb T.l.length ctb] 39)).cell? ⟨y4.w.heap.size, 0, none⟩ = some (.int .i64 T.r) := by simp [go_sem]
        have tb1 : (y4.w.alloc (.cells #[.int .i64 T.r, .int .i64 T.c, .slice atb T.l.length ctb] 39)).cell? ⟨y4.w.heap.size, 1, none⟩ = some (.int .i64 T.c) := by simp [go_sem]
        have tb2 : (y4.w.alloc (.cells #[.int .i64 T.r, .int .i64 T.c, .slice atb T.l.length ctb] 39)).cell? ⟨y4.w.heap.size, 2, none⟩ = some (.slice atb T.l.length ctb) := by simp [go_sem]
        have tbf : ∀ o, (y4.w.alloc (.cells #[.int .i64 T.r, .int .i64 T.c, .slice atb T.l.length ctb] 39)).frozen? ⟨y4.w.heap.size, o, none⟩ = false := fun o => by simp [go_sem]
        have hlt0 : y4.w.heap.size < (y4.w.alloc (.cells #[.int .i64 T.r, .int .i64 T.c, .slice atb T.l.length ctb] 39)).heap.size := by simp
        have hst0 : ∃ zz : Since y4.w, (y4.w.alloc (.cells #[.int .i64 T.r, .int .i64 T.c, .slice atb T.l.length ctb] 39)) = zz.w := IsSince.alloc (IsSince.self _) _
        have hsz0 := y4.b.size
        obtain ⟨y5, e2⟩ := IsSince.alloc (IsSince.of y4) (.cells #[.int .i64 T.r, .int .i64 T.c, .slice atb T.l.length ctb] 39)
        rw [e2] at tb0 tb1 tb2 tbf hlt0 hst0 ⊢
        (replace H := Lib.hid (H.out.to hst0); replace RR := Lib.hid (RR.out.to hst0); replace Rta := Lib.hid (Rta.out.to hst0); replace Rtb := Lib.hid (Rtb.out.to hst0))
        clear e2 hst0
        generalize y4.w.heap.size = gtb at *
        have Htb0 : ∀ q : Since y5.w, q.w.cell? ⟨gtb, 0, none⟩ = some (.int .i64 T.r) := fun q => Since.cell tb0 (by omega) q
        have Htb1 : ∀ q : Since y5.w, q.w.cell? ⟨gtb, 1, none⟩ = some (.int .i64 T.c) := fun q => Since.cell tb1 (by omega) q
        have Htb2 : ∀ q : Since y5.w, q.w.cell? ⟨gtb, 2, none⟩ = some (.slice atb T.l.length ctb) := fun q => Since.cell tb2 (by omega) q
        have Htbf : ∀ (q : Since y5.w) (o : Nat), q.w.frozen? ⟨gtb, o, none⟩ = false := fun q o => Since.free (tbf o) (by omega) q
        have Htbg := Lib.hid (And.intro hsz0 hlt0)
        clear hlt0 hsz0
        clear tb0 tb1 tb2 tbf Htbf Htbg
        replace HU := Lib.hid (HU.out.trans (IsSince.of y5))
        replace hb0_0 := Since.cellTo ⟨y5, rfl⟩ hb0_0
        replace hb0_1 := Since.cellTo ⟨y5, rfl⟩ hb0_1
        replace hb0_2 := Since.cellTo ⟨y5, rfl⟩ hb0_2
        replace hb0_3 := Since.cellTo ⟨y5, rfl⟩ hb0_3
        replace hb0_4 := Since.cellTo ⟨y5, rfl⟩ hb0_4
        replace hb0_5 := Since.cellTo ⟨y5, rfl⟩ hb0_5
        replace Hta0 := Since.cellTo ⟨y5, rfl⟩ Hta0
        replace Hta1 := Since.cellTo ⟨y5, rfl⟩ Hta1
        replace Hta2 := Since.cellTo ⟨y5, rfl⟩ Hta2
        obtain ⟨q5, hq0⟩ := Since.refl y5.w
        rw [hq0]
        clear hq0
        replace H := Lib.hid (H.out.to ⟨q5, rfl⟩)
        replace RR := Lib.hid (RR.out.to ⟨q5, rfl⟩)
        replace Rta := Lib.hid (Rta.out.to ⟨q5, rfl⟩)
        replace Rtb := Lib.hid (Rtb.out.to ⟨q5, rfl⟩)
        go_upto_region 11 with (go_at_call 13; ((with_reducible refine (HE1.out y5.w _ (IsSince.of q5) H.out).mono ?_); rintro _ _ ⟨al, cl, L1, y6, rfl, rfl, hz, hrow, hL⟩; replace H := Lib.hid (H.out.to hz); replace RR := Lib.hid (RR.out.to hz); replace Rta := Lib.hid (Rta.out.to hz); replace Rtb := Lib.hid (Rtb.out.to hz); have RL := Lib.hid hrow; have HL := Lib.hid hL; clear hrow hL; clear hz))
        go_upto_region 12 with (go_at_call 13; ((with_reducible refine (HE2.out y5.w _ (IsSince.of y6) H.out ar cr RR.out).mono ?_); rintro _ _ ⟨am, cm, L2, y7, rfl, rfl, hz, hrow, hL⟩; replace H := Lib.hid (H.out.to hz); replace RR := Lib.hid (RR.out.to hz); replace Rta := Lib.hid (Rta.out.to hz); replace Rtb := Lib.hid (Rtb.out.to hz); replace RL := Lib.hid (RL.out.to hz); have RM := Lib.hid hrow; have HM := Lib.hid hL; clear hrow hL; clear hz))
        clear HT HS2 HE1 HE2
        replace HU := Lib.hid (HU.out.trans (IsSince.of y7))
        replace hb0_0 := Since.cellTo ⟨y7, rfl⟩ hb0_0
        replace hb0_1 := Since.cellTo ⟨y7, rfl⟩ hb0_1
        replace hb0_2 := Since.cellTo ⟨y7, rfl⟩ hb0_2
        replace hb0_3 := Since.cellTo ⟨y7, rfl⟩ hb0_3
        replace hb0_4 := Since.cellTo ⟨y7, rfl⟩ hb0_4
        replace hb0_5 := Since.cellTo ⟨y7, rfl⟩ hb0_5
        replace Hta0 := Since.cellTo ⟨y7, rfl⟩ Hta0
        replace Hta1 := Since.cellTo ⟨y7, rfl⟩ Hta1
        replace Hta2 := Since.cellTo ⟨y7, rfl⟩ Hta2
        replace Htb0 := Since.cellTo ⟨y7, rfl⟩ Htb0
        replace Htb1 := Since.cellTo ⟨y7, rfl⟩ Htb1
        replace Htb2 := Since.cellTo ⟨y7, rfl⟩ Htb2
        obtain ⟨s7, hq0⟩ := Since.refl y7.w
        rw [hq0]
        clear hq0
        have Hat := Lib.hid (rev_at HL.out HM.out)
        have hll : L1.length ≤ 256 := by have := Hat.out.2.1; omega
        rw [Hat.out.1]
        clear HL HM
        obtain ⟨n, hn⟩ : ∃ n, n = L1.length := ⟨_, rfl⟩
        rw [← hn] at hll ⊢
        have Hm := Lib.hid hn
        clear hn
        have w0 : IntKind.i64.wrap ((n : Int) - 1) = (n : Int) - 1 := IntWalk.i64_in _ (by omega)
        have hnn : ((n : Int) != (n : Int)) = false := by simp
        go_wp2_with fail
        go_loopw [13] (fun si wr => ∃ (i : Nat) (z : Since y7.w), i ≤ n ∧ si = .int .i64 (i : Int) ∧ wr = z.w) (fun si _ => n - (intOf si).toNat)
        case atStart => exact ⟨0, s7, by omega, rfl, rfl⟩
        case round =>
          obtain ⟨i, z, hi, rfl, rfl⟩ := hrel
          by_cases hlt2 : i < n
          · obtain ⟨j, hj⟩ : ∃ j : Nat, (n : Int) - 1 - i = (j : Int) := ⟨n - 1 - i, by omega⟩
            have hi0 : (0 : Int) ≤ (i : Int) := by omega
            have hil : (i : Int) < (n : Int) := by omega
            have hj0 : (0 : Int) ≤ (j : Int) := by omega
            have hjl : (j : Int) < (n : Int) := by omega
            have w1 : IntKind.i64.wrap ((n : Int) - 1 - i) = (j : Int) := by rw [hj]; exact IntWalk.i64_in _ (by omega)
            obtain ⟨e, he⟩ : ∃ e, L1[i]? = some e := ⟨_, List.getElem?_eq_getElem (by have := Hm.out; omega)⟩
            obtain ⟨g, hg⟩ : ∃ g, L2[j]? = some g := ⟨_, List.getElem?_eq_getElem (by have := Hm.out; have := Hat.out.1; omega)⟩
            have hge := Hat.out.2.2 i j e g (by have := Hm.out; omega) he hg
            obtain ⟨b1, off1, hx1, h1'⟩ := Els.ride RL.out.c he
            obtain ⟨b2, off2, hx2, h2'⟩ := Els.ride RM.out.c hg
            have hea := RL.out.r e (List.mem_of_getElem? he)
            have hga := RM.out.r g (List.mem_of_getElem? hg)
            generalize g.la = la at *
            generalize g.lc = lc at *
            generalize g.pa = pa at *
            generalize g.pc = pc at *
            subst hge
            have Hcall := Lib.hid (fun y : Since y7.w => sameRide_calls y7.w y e la lc pa pc hea hga.l hga.p)
            have ra0 := h1'.c0
            have ra1 := h1'.c1
            have ra2 := h1'.c2
            have ra3 := h1'.c3
            have ra4 := h1'.c4
            have ra5 := h1'.c5
            have ra6 := h1'.c6
            have ra7 := h1'.c7
            have ra8 := h1'.c8
            have ra9 := h1'.c9
            have ra10 := h1'.c10
            have ra11 := h1'.c11
            have ra12 := h1'.c12
            have rb0 := h2'.c0
            have rb1 := h2'.c1
            have rb2 := h2'.c2
            have rb3 := h2'.c3
            have rb4 := h2'.c4
            have rb5 := h2'.c5
            have rb6 := h2'.c6
            have rb7 := h2'.c7
            have rb8 := h2'.c8
            have rb9 := h2'.c9
            have rb10 := h2'.c10
            have rb11 := h2'.c11
            have rb12 := h2'.c12
            simp only [Ride.with] at rb0 rb1 rb2 rb3 rb4 rb5 rb6 rb7 rb8 rb9 rb10 rb11 rb12
            subst hx1 hx2
            clear h1' h2' he hg hea hga hj
            go_wp2_with fail
            refine wp_region_since (by kernel_rfl) (by kernel_rfl) ?_
            repeat (go_big_quiet_step ((go_at_call 26; exact Hcall.out _)))
            refine wpQuiet_nil ?_
            rintro _ ⟨z2, rfl⟩
            go_wp2_with fail
            go_roundw
            case rel => exact ⟨i + 1, z2, by omega, by go_num, rfl⟩
            case measure => simp [intOf] <;> omega
          · obtain rfl : i = n := by omega
            have hbb1 := Hb.out.1
            have hbb2 := Hb.out.2
            have Hs := Lib.hid (same_s (W := y7.w) _ (IsSince.of z) T ata cta atb ctb hTl (Rta.out.to (IsSince.of z)) (Rtb.out.to (IsSince.of z)))
            go_wp2_with (first | (go_at_call 21; ((with_reducible refine Hs.out.mono ?_); rintro _ _ ⟨rfl, z1, rfl, _⟩)) | (go_at_call 12; ((with_reducible refine (awake_calls _ z1).mono ?_); rintro _ _ ⟨rfl, yz, rfl⟩)))
            go_ret
            exact ⟨rfl, HU.out.trans (IsSince.of yz)⟩
end Go.Proofs.Ytdmmjapccgeffaa
