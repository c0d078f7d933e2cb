/- The law TripsTables, walked. -/
import Derived.Test.YtdmmjapccgeffaaTrMh
import Derived.IntWalk
set_option linter.all false
namespace Go.Proofs.Ytdmmjapccgeffaa
open Go.RowKit

set_option maxRecDepth 100000 in
set_option maxHeartbeats 16000000 in
theorem tripsTables_calls (w : World) (x : Since w) (q : Cas) (h : q.At w) :
    Calls Try.prog 5 #[.agg #[.slice q.az q.zs.length q.cz, .int .i64 q.n, .int .i64 q.e, .slice q.a q.R.length q.c, .int .i64 q.f, .int .i64 q.t]] x.w (Yes w) := by
  have H := Lib.hid h
  clear h
  go_enter Try.func5, Try.ntmps5
  go_upto_region 1 with fail
  have hb0_0 : ∀ y : Since (x.w.alloc (.cells #[.slice q.az q.zs.length q.cz, .int .i64 q.n, .int .i64 q.e, .slice q.a q.R.length q.c, .int .i64 q.f, .int .i64 q.t] 36)), y.w.cell? ⟨x.w.heap.size, 0, none⟩ = some (.slice q.az q.zs.length q.cz) := fun y => Since.cell (by simp [go_sem]) (by first | (simp; done) | (simp; omega)) y
  have hb0_1 : ∀ y : Since (x.w.alloc (.cells #[.slice q.az q.zs.length q.cz, .int .i64 q.n, .int .i64 q.e, .slice q.a q.R.length q.c, .int .i64 q.f, .int .i64 q.t] 36)), y.w.cell? ⟨x.w.heap.size, 1, none⟩ = some (.int .i64 q.n) := fun y => Since.cell (by simp [go_sem]) (by first | (simp; done) | (simp; omega)) y
  have hb0_2 : ∀ y : Since (x.w.alloc (.cells #[.slice q.az q.zs.length q.cz, .int .i64 q.n, .int .i64 q.e, .slice q.a q.R.length q.c, .int .i64 q.f, .int .i64 q.t] 36)), y.w.cell? ⟨x.w.heap.size, 2, none⟩ = some (.int .i64 q.e) := fun y => Since.cell (by simp [go_sem]) (by first | (simp; done) | (simp; omega)) y
  have hb0_3 : ∀ y : Since (x.w.alloc (.cells #[.slice q.az q.zs.length q.cz, .int .i64 q.n, .int .i64 q.e, .slice q.a q.R.length q.c, .int .i64 q.f, .int .i64 q.t] 36)), y.w.cell? ⟨x.w.heap.size, 3, none⟩ = some (.slice q.a q.R.length q.c) := fun y => Since.cell (by simp [go_sem]) (by first | (simp; done) | (simp; omega)) y
  have hb0_4 : ∀ y : Since (x.w.alloc (.cells #[.slice q.az q.zs.length q.cz, .int .i64 q.n, .int .i64 q.e, .slice q.a q.R.length q.c, .int .i64 q.f, .int .i64 q.t] 36)), y.w.cell? ⟨x.w.heap.size, 4, none⟩ = some (.int .i64 q.f) := fun y => Since.cell (by simp [go_sem]) (by first | (simp; done) | (simp; omega)) y
  have hb0_5 : ∀ y : Since (x.w.alloc (.cells #[.slice q.az q.zs.length q.cz, .int .i64 q.n, .int .i64 q.e, .slice q.a q.R.length q.c, .int .i64 q.f, .int .i64 q.t] 36)), y.w.cell? ⟨x.w.heap.size, 5, none⟩ = some (.int .i64 q.t) := fun y => Since.cell (by simp [go_sem]) (by first | (simp; done) | (simp; omega)) y
  have hf0 : ∀ (y : Since (x.w.alloc (.cells #[.slice q.az q.zs.length q.cz, .int .i64 q.n, .int .i64 q.e, .slice q.a q.R.length q.c, .int .i64 q.f, .int .i64 q.t] 36))) (o : Nat), y.w.frozen? ⟨x.w.heap.size, o, none⟩ = false := fun y o => Since.free (by simp [go_sem]) (by first | (simp; done) | (simp; omega)) y
  have hWup : ∃ z : Since w, (x.w.alloc (.cells #[.slice q.az q.zs.length q.cz, .int .i64 q.n, .int .i64 q.e, .slice q.a q.R.length q.c, .int .i64 q.f, .int .i64 q.t] 36)) = z.w := x.alloc _
  obtain ⟨y0, hy0⟩ := Since.refl (x.w.alloc (.cells #[.slice q.az q.zs.length q.cz, .int .i64 q.n, .int .i64 q.e, .slice q.a q.R.length q.c, .int .i64 q.f, .int .i64 q.t] 36))
  have Hbx := Lib.hid (And.intro x.b.size (show x.w.heap.size + 1 = (x.w.alloc (.cells #[.slice q.az q.zs.length q.cz, .int .i64 q.n, .int .i64 q.e, .slice q.a q.R.length q.c, .int .i64 q.f, .int .i64 q.t] 36)).heap.size from by simp))
  generalize hW : (x.w.alloc (.cells #[.slice q.az q.zs.length q.cz, .int .i64 q.n, .int .i64 q.e, .slice q.a q.R.length q.c, .int .i64 q.f, .int .i64 q.t] 36)) = W at *
  clear hW
  generalize x.w.heap.size = bx at *
  have Hup := Lib.hid (Since.up hWup)
  rw [hy0]
  clear hy0
  replace H := Lib.hid (H.out.to hWup)
  have HU := Lib.hid (show IsSince w W from hWup)
  clear hWup hf0 Hbx
  have Hf := Lib.hid (few51_calls W y0 q H.out)
  cases hfw : fewC q with
  | false =>
    rw [hfw] at Hf
    go_wp2_with (first | (go_at_call 18; ((with_reducible refine Hf.out.mono ?_); rintro _ _ ⟨rfl, y1, rfl⟩)) | (go_at_call 12; ((with_reducible refine (awake_calls W y1).mono ?_); rintro _ _ ⟨rfl, y2, rfl⟩)))
    go_ret
    exact ⟨rfl, Hup.out y2⟩
  | true =>
    rw [hfw] at Hf
    obtain ⟨hR30, hlp⟩ := fewC_rides hfw
    have Hlp := Lib.hid hlp
    clear hfw hlp
    have hTl := tabV_len q.zs q.n q.R q.f q.t q.e
    have HT := Lib.hid (fun (W : World) (w' : World) (hw : IsSince W w') (h : q.At w') => table51_s (W := W) w' hw q h q.a q.R q.c q.f q.t h.r h.rl h.i)
    have HR := Lib.hid (fun (W : World) (w' : World) (hw : IsSince W w') (h : q.At w') => rtable_s (W := W) w' hw q h)
    generalize tabV q.zs q.n q.R q.f q.t q.e = T at *
    generalize tabE q.zs q.n q.R q.f q.t q.e = e at *
    have he : (e == e) = true := by simp
    go_upto_region 4 with (first | (go_at_call 18; ((with_reducible refine Hf.out.mono ?_); rintro _ _ ⟨rfl, y1, rfl⟩; replace H := Lib.hid (H.out.to (IsSince.of y1)))) | (go_at_call 19; ((with_reducible refine (HT.out W _ (IsSince.of y1) H.out).mono ?_); rintro _ _ ⟨ata, cta, y2, rfl, rfl, hz, hrow⟩; replace H := Lib.hid (H.out.to hz); have Rta := Lib.hid hrow; clear hrow; clear hz)))
    have ta0 : (y2.w.alloc (.cells #[.int .i64 T.r, .int .i64 T.c, .slice ata T.l.length cta] 39)).cell? ⟨y2.w.heap.size, 0, none⟩ = some (.int .i64 T.r) := by simp [go_sem]
    have ta1 : (y2.w.alloc (.cells #[.int .i64 T.r, .int .i64 T.c, .slice ata T.l.length cta] 39)).cell? ⟨y2.w.heap.size, 1, none⟩ = some (.int .i64 T.c) := by simp [go_sem]
    have ta2 : (y2.w.alloc (.cells #[.int .i64 T.r, .int .i64 T.c, .slice ata T.l.length cta] 39)).cell? ⟨y2.w.heap.size, 2, none⟩ = some (.slice ata T.l.length cta) := by simp [go_sem]
    have taf : ∀ o, (y2.w.alloc (.cells #[.int .i64 T.r, .int .i64 T.c, .slice ata T.l.length cta] 39)).frozen? ⟨y2.w.heap.size, o, none⟩ = false := fun o => by simp [go_sem]
    have hlt0 : y2.w.heap.size < (y2.w.alloc (.cells #[.int .i64 T.r, .int .i64 T.c, .slice ata T.l.length cta] 39)).heap.size := by simp
    have hst0 : ∃ zz : Since y2.w, (y2.w.alloc (.cells #[.int .i64 T.r, .int .i64 T.c, .slice ata T.l.length cta] 39)) = zz.w := IsSince.alloc (IsSince.self _) _
    have hsz0 := y2.b.size
    obtain ⟨y3, e2⟩ := IsSince.alloc (IsSince.of y2) (.cells #[.int .i64 T.r, .int .i64 T.c, .slice ata T.l.length cta] 39)
    rw [e2] at ta0 ta1 ta2 taf hlt0 hst0 ⊢
    (replace H := Lib.hid (H.out.to hst0); replace Rta := Lib.hid (Rta.out.to hst0))
    clear e2 hst0
    generalize y2.w.heap.size = gta at *
    have Hta0 : ∀ q : Since y3.w, q.w.cell? ⟨gta, 0, none⟩ = some (.int .i64 T.r) := fun q => Since.cell ta0 (by omega) q
    have Hta1 : ∀ q : Since y3.w, q.w.cell? ⟨gta, 1, none⟩ = some (.int .i64 T.c) := fun q => Since.cell ta1 (by omega) q
    have Hta2 : ∀ q : Since y3.w, q.w.cell? ⟨gta, 2, none⟩ = some (.slice ata T.l.length cta) := fun q => Since.cell ta2 (by omega) q
    have Htaf : ∀ (q : Since y3.w) (o : Nat), q.w.frozen? ⟨gta, o, none⟩ = false := fun q o => Since.free (taf o) (by omega) q
    have Htag := Lib.hid (And.intro hsz0 hlt0)
    clear hlt0 hsz0
    clear ta0 ta1 ta2 taf Htaf Htag
    replace HU := Lib.hid (HU.out.trans (IsSince.of y3))
    replace hb0_0 := Since.cellTo ⟨y3, rfl⟩ hb0_0
    replace hb0_1 := Since.cellTo ⟨y3, rfl⟩ hb0_1
    replace hb0_2 := Since.cellTo ⟨y3, rfl⟩ hb0_2
    replace hb0_3 := Since.cellTo ⟨y3, rfl⟩ hb0_3
    replace hb0_4 := Since.cellTo ⟨y3, rfl⟩ hb0_4
    replace hb0_5 := Since.cellTo ⟨y3, rfl⟩ hb0_5
    obtain ⟨q3, hq0⟩ := Since.refl y3.w
    rw [hq0]
    clear hq0
    replace H := Lib.hid (H.out.to ⟨q3, rfl⟩)
    replace Rta := Lib.hid (Rta.out.to ⟨q3, rfl⟩)
    clear HT Hf
    go_upto_region 5 with (go_at_call 20; ((with_reducible refine (HR.out y3.w _ (IsSince.of q3) H.out).mono ?_); rintro _ _ ⟨atb, ctb, y4, rfl, rfl, hz, hrow⟩; replace H := Lib.hid (H.out.to hz); replace Rta := Lib.hid (Rta.out.to hz); have Rtb := Lib.hid hrow; clear hrow; clear hz))
    have tb0 : (y4.w.alloc (.cells #[.int .i64 T.r, .int .i64 T.c, .slice atb T.l.length ctb] 39)).cell? ⟨y4.w.heap.size, 0, none⟩ = some (.int .i64 T.r) := by simp [go_sem]
    have tb1 : (y4.w.alloc (.cells #[.int .i64 T.r, .int .i64 T.c, .slice atb T.l.length ctb] 39)).cell? ⟨y4.w.heap.size, 1, none⟩ = some (.int .i64 T.c) := by simp [go_sem]
    have tb2 : (y4.w.alloc (.cells #[.int .i64 T.r, .int .i64 T.c, .slice atb T.l.length ctb] 39)).cell? ⟨y4.w.heap.size, 2, none⟩ = some (.slice atb T.l.length ctb) := by simp [go_sem]
    have tbf : ∀ o, (y4.w.alloc (.cells #[.int .i64 T.r, .int .i64 T.c, .slice atb T.l.length ctb] 39)).frozen? ⟨y4.w.heap.size, o, none⟩ = false := fun o => by simp [go_sem]
    have hlt0 : y4.w.heap.size < (y4.w.alloc (.cells #[.int .i64 T.r, .int .i64 T.c, .slice atb T.l.length ctb] 39)).heap.size := by simp
    have hst0 : ∃ zz : Since y4.w, (y4.w.alloc (.cells #[.int .i64 T.r, .int .i64 T.c, .slice atb T.l.length ctb] 39)) = zz.w := IsSince.alloc (IsSince.self _) _
    have hsz0 := y4.b.size
    obtain ⟨y5, e2⟩ := IsSince.alloc (IsSince.of y4) (.cells #[.int .i64 T.r, .int .i64 T.c, .slice atb T.l.length ctb] 39)
    rw [e2] at tb0 tb1 tb2 tbf hlt0 hst0 ⊢
    (replace H := Lib.hid (H.out.to hst0); replace Rta := Lib.hid (Rta.out.to hst0); replace Rtb := Lib.hid (Rtb.out.to hst0))
    clear e2 hst0
    generalize y4.w.heap.size = gtb at *
    have Htb0 : ∀ q : Since y5.w, q.w.cell? ⟨gtb, 0, none⟩ = some (.int .i64 T.r) := fun q => Since.cell tb0 (by omega) q
    have Htb1 : ∀ q : Since y5.w, q.w.cell? ⟨gtb, 1, none⟩ = some (.int .i64 T.c) := fun q => Since.cell tb1 (by omega) q
    have Htb2 : ∀ q : Since y5.w, q.w.cell? ⟨gtb, 2, none⟩ = some (.slice atb T.l.length ctb) := fun q => Since.cell tb2 (by omega) q
    have Htbf : ∀ (q : Since y5.w) (o : Nat), q.w.frozen? ⟨gtb, o, none⟩ = false := fun q o => Since.free (tbf o) (by omega) q
    have Htbg := Lib.hid (And.intro hsz0 hlt0)
    clear hlt0 hsz0
    clear tb0 tb1 tb2 tbf Htbf Htbg
    replace HU := Lib.hid (HU.out.trans (IsSince.of y5))
    replace hb0_0 := Since.cellTo ⟨y5, rfl⟩ hb0_0
    replace hb0_1 := Since.cellTo ⟨y5, rfl⟩ hb0_1
    replace hb0_2 := Since.cellTo ⟨y5, rfl⟩ hb0_2
    replace hb0_3 := Since.cellTo ⟨y5, rfl⟩ hb0_3
    replace hb0_4 := Since.cellTo ⟨y5, rfl⟩ hb0_4
    replace hb0_5 := Since.cellTo ⟨y5, rfl⟩ hb0_5
    replace Hta0 := Since.cellTo ⟨y5, rfl⟩ Hta0
    replace Hta1 := Since.cellTo ⟨y5, rfl⟩ Hta1
    replace Hta2 := Since.cellTo ⟨y5, rfl⟩ Hta2
    obtain ⟨q5, hq0⟩ := Since.refl y5.w
    rw [hq0]
    clear hq0
    replace H := Lib.hid (H.out.to ⟨q5, rfl⟩)
    replace Rta := Lib.hid (Rta.out.to ⟨q5, rfl⟩)
    replace Rtb := Lib.hid (Rtb.out.to ⟨q5, rfl⟩)
    go_wp2_with (first | (go_at_call 21; ((with_reducible refine (same_s (W := y5.w) _ (IsSince.of q5) T ata cta atb ctb hTl Rta.out Rtb.out).mono ?_); rintro _ _ ⟨rfl, y6, rfl, hz⟩; replace H := Lib.hid (H.out.to hz); replace Rta := Lib.hid (Rta.out.to hz); replace Rtb := Lib.hid (Rtb.out.to hz); clear hz)) | (go_at_call 12; ((with_reducible refine (awake_calls _ y6).mono ?_); rintro _ _ ⟨rfl, yz, rfl⟩)))
    go_ret
    exact ⟨rfl, HU.out.trans (IsSince.of yz)⟩
end Go.Proofs.Ytdmmjapccgeffaa
