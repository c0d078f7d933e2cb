/- The values of the chapter's examples of releases: plain mathematics. -/
import Derived.Test.YtdkcclngionihaaDoorRlMk
set_option linter.all false
namespace Go.Proofs.YtdkcclngionihaaDoor
open Go.RowKit

theorem rlE_bare (zs : List Int) (size : Int) (R : List Ride) (f t each : Int) : rlE zs size (R.map Ride.bare) f t each = rlE zs size R f t each := by
  unfold rlE; rw [tabE_bare]
theorem rlT_bare (zs : List Int) (size : Int) (R : List Ride) (f t each : Int) : rlT zs size (R.map Ride.bare) f t each = rlT zs size R f t each := by
  unfold rlT; rw [rlE_bare, tabV_bare]
theorem exE_bare (zs : List Int) (size : Int) (R : List Ride) (f t each least width : Int) : exE zs size (R.map Ride.bare) f t each least width = exE zs size R f t each least width := by
  unfold exE; rw [rlE_bare, rlT_bare]
theorem exR_bare (zs : List Int) (size : Int) (R : List Ride) (f t each least width : Int) : exR zs size (R.map Ride.bare) f t each least width = exR zs size R f t each least width := by
  unfold exR; rw [exE_bare, rlT_bare]
theorem ex_tab4 : tabE zonesR 2 fourL 0 86400 2 = 0 ∧ tabV zonesR 2 fourL 0 86400 2 = ⟨2, 2, exT4⟩ := ⟨by kernel_rfl, by kernel_rfl⟩
theorem ex_rl : rlE zonesR 2 fourL 0 86400 2 = 0 ∧ rlT zonesR 2 fourL 0 86400 2 = ⟨2, 2, exT4⟩ := by
  have h : rlE zonesR 2 fourL 0 86400 2 = 0 := by unfold rlE; rw [ex_tab4.1]; rfl
  exact ⟨h, by unfold rlT; rw [if_pos h, ex_tab4.2]⟩
theorem hideE_in {R C : Nat} {l : List Int} {least width : Int} (h : ¬ badH least width) : hideE R C l least width = if hideV R C l least width = none then 10 else 0 := by
  unfold hideE; rw [if_neg h]
def exA : Rel := ⟨0, 86400, 2, 2, 2, [0, 4, 0, 0], [false, false, false, false], [4, 0], [0, 4], []⟩
def exB : Rel := ⟨0, 86400, 2, 2, 2, [0, 0, 0, 0], [false, true, false, false], [4, 0], [0, 4], []⟩
theorem ex_val {least : Int} {h : List Bool} (hv : hideV 2 2 exT4 least 0 = some h) (hb : ¬ badH least 0) : exE zonesR 2 fourL 0 86400 2 least 0 = 0 ∧ exR zonesR 2 fourL 0 86400 2 least 0 = ⟨0, 86400, 2, 2, 2, hidL exT4 h, h, rowL 2 2 exT4 4, colL 2 exT4 4, []⟩ := by
  have e : exE zonesR 2 fourL 0 86400 2 least 0 = 0 := by
    unfold exE
    rw [ex_rl.1, ex_rl.2, if_neg (by simp)]
    show hideE 2 2 exT4 least 0 = 0
    rw [hideE_in hb, if_neg (by rw [hv]; intro h; cases h)]
  refine ⟨e, ?_⟩
  unfold exR
  rw [if_pos e, ex_rl.2]
  show (match hideV 2 2 exT4 least 0 with | some h => (⟨0, 86400, 2, 2, 2, hidL exT4 h, h, rowL 2 2 exT4 4, colL 2 exT4 4, []⟩ : Rel) | none => rel0) = _
  rw [hv]
theorem ex_a : exE zonesR 2 fourL 0 86400 2 3 0 = 0 ∧ exR zonesR 2 fourL 0 86400 2 3 0 = exA := by
  obtain ⟨h1, h2⟩ := ex_val (least := 3) (hideV_zero ex_good 3 (Int.le_refl 0)) (by unfold badH; omega)
  exact ⟨h1, h2.trans (by kernel_rfl)⟩
theorem ex_b : exE zonesR 2 fourL 0 86400 2 5 0 = 0 ∧ exR zonesR 2 fourL 0 86400 2 5 0 = exB := by
  obtain ⟨h1, h2⟩ := ex_val (least := 5) (hideV_zero ex_good 5 (Int.le_refl 0)) (by unfold badH; omega)
  exact ⟨h1, h2.trans (by kernel_rfl)⟩
theorem ex_g : exE zonesR 2 fourL 0 86400 2 5 1 = 10 ∧ exR zonesR 2 fourL 0 86400 2 5 1 = rel0 := by
  have e : exE zonesR 2 fourL 0 86400 2 5 1 = 10 := by
    unfold exE
    rw [ex_rl.1, ex_rl.2, if_neg (by simp)]
    show hideE 2 2 exT4 5 1 = 10
    rw [hideE_in (by unfold badH; omega), if_pos ex_hide]
  exact ⟨e, by unfold exR; rw [if_neg (by rw [e]; decide)]⟩
/-- the noise of the examples -/
abbrev exN : List Int := [4, 2, 1]
abbrev eXx : Tab := ⟨2, 2, [1, 4, 0, 0]⟩
abbrev eTt : Tab := ⟨2, 2, [0, 4, 0, 0]⟩
abbrev eUu : Tab := ⟨2, 2, [0, 5, 0, 0]⟩
theorem exN_good : Good exN := by
  refine ⟨by decide, by decide, fun i hi => ?_⟩
  have : i = 0 ∨ i = 1 ∨ i = 2 := by simp at hi; omega
  rcases this with rfl | rfl | rfl <;> (unfold okAt; decide)
theorem exW (v : Int) : weight exN v = wt exN v := weight_good exN_good v
theorem ex_chE : chE eXx eTt exN = 0 ∧ chE eXx eUu exN = 0 := by
  have h1 : chkE eXx = 0 := by decide
  have h2 : chkE eTt = 0 := by decide
  have h3 : chkE eUu = 0 := by decide
  unfold chE
  rw [h1, h2, h3, check_good exN_good]
  exact ⟨rfl, rfl⟩
theorem ex_chV : chV eXx eTt exN = [2, 4, 4, 4] := by
  unfold chV
  rw [if_pos ex_chE.1]
  unfold chL
  simp only [exW]
  decide
theorem ex_al2 : alB eXx eTt eUu exN 2 1 = true := by
  refine alB_yes ⟨ex_chE.1, ex_chE.2, by decide, by decide, by decide⟩ fun i hi => ?_
  unfold alC
  rw [exW, exW]
  have : i = 0 ∨ i = 1 ∨ i = 2 ∨ i = 3 := by simp at hi; omega
  rcases this with rfl | rfl | rfl | rfl <;> decide
theorem ex_al3 : alB eXx eTt eUu exN 3 2 = false := by
  refine alB_cell (i := 1) (by decide) ?_
  unfold alC
  rw [exW, exW]
  decide
end Go.Proofs.YtdkcclngionihaaDoor
/- The laws of releases: contracts over a world that may be older, for awake. -/
namespace Go.Proofs.YtdkcclngionihaaDoor
open Go.RowKit

/-- a release in a box -/
def RelBox (w : World) (g : Nat) (E : Rel) (a1 a2 a3 a4 a5 : Option Addr) (c1 c2 c3 c4 c5 : Nat) : Prop :=
  BoxIs w g [.int .i64 E.f, .int .i64 E.t, .int .i64 E.each, .int .i64 E.r, .int .i64 E.c, .slice a1 E.cells.length c1, .slice a2 E.hid.length c2, .slice a3 E.rows.length c3, .slice a4 E.cols.length c4, .slice a5 E.ws.length c5]
structure RelRows (w : World) (E : Rel) (a1 a2 a3 a4 a5 : Option Addr) : Prop where
  a : IntRow w a1 E.cells
  b : BlRow w a2 E.hid
  c : IntRow w a3 E.rows
  d : IntRow w a4 E.cols
  e : IntRow w a5 E.ws
theorem RelRows.to {w W : World} {E : Rel} {a1 a2 a3 a4 a5 : Option Addr} (h : RelRows w E a1 a2 a3 a4 a5) (hW : ∃ z : Since w, W = z.w) : RelRows W E a1 a2 a3 a4 a5 :=
  ⟨h.a.to hW, h.b.to hW, h.c.to hW, h.d.to hW, h.e.to hW⟩
theorem RelRows.sets {E : Rel} {a1 a2 a3 a4 a5 : Option Addr} {g : Nat} (hg : ∀ b, a1 = some b ∨ a2 = some b ∨ a3 = some b ∨ a4 = some b ∨ a5 = some b → b.block ≠ g) : ∀ (vs : List Value) (o : Nat) (w : World), RelRows w E a1 a2 a3 a4 a5 → RelRows (w.setCells g o vs) E a1 a2 a3 a4 a5
  | [], _, _, h => h
  | v :: vs, o, w, h => RelRows.sets hg vs (o + 1) (w.setCell ⟨g, o, none⟩ v)
      ⟨h.a.set _ _ fun b hb => hg b (Or.inl hb), h.b.set _ _ fun b hb => hg b (Or.inr (Or.inl hb)), h.c.set _ _ fun b hb => hg b (Or.inr (Or.inr (Or.inl hb))), h.d.set _ _ fun b hb => hg b (Or.inr (Or.inr (Or.inr (Or.inl hb)))), h.e.set _ _ fun b hb => hg b (Or.inr (Or.inr (Or.inr (Or.inr hb))))⟩
theorem zones_s (W u : World) (hu : IsSince W u) : Calls Tryd.prog 28 #[] u fun o w' => ∃ (a : Option Addr) (c : Nat) (y : Since W), o = .returned (.slice a 64 c) ∧ w' = y.w ∧ (∃ z : Since u, y.w = z.w) ∧ IntRow y.w a zonesR := by
  obtain ⟨y0, rfl⟩ := hu
  refine (rzones_calls y0.w (Since.self y0.w)).mono ?_
  rintro _ w' ⟨a, c, z, rfl, rfl, h⟩
  obtain ⟨y', e⟩ := y0.trans z
  exact ⟨a, c, y', rfl, e, ⟨z, e.symm⟩, e ▸ h⟩
theorem four_s (W u : World) (hu : IsSince W u) : Calls Tryd.prog 29 #[] u fun o w' => ∃ (a : Option Addr) (c : Nat) (R : List Ride) (y : Since W), o = .returned (.slice a 4 c) ∧ w' = y.w ∧ (∃ z : Since u, y.w = z.w) ∧ RideRow y.w a R ∧ R.map Ride.bare = fourL := by
  obtain ⟨y0, rfl⟩ := hu
  refine (four_calls y0.w (Since.self y0.w)).mono ?_
  rintro _ w' ⟨a, c, R, z, rfl, rfl, h, hR, _⟩
  obtain ⟨y', e⟩ := y0.trans z
  have hl : R.length = 4 := by have := congrArg List.length hR; rwa [List.length_map] at this
  exact ⟨a, c, R, y', by rw [hl], e, ⟨z, e.symm⟩, e ▸ h, hR⟩
theorem fourL_mem {R : List Ride} (hR : R.map Ride.bare = fourL) : R.length = 4 ∧ ∀ r ∈ R, (r.fp ≤ 9223372036854775807 ∧ r.pl ≤ 9223372036854775807) := by
  refine ⟨by have := congrArg List.length hR; rwa [List.length_map] at this, fun r hr => ?_⟩
  have h : r.bare ∈ fourL := by rw [← hR]; exact List.mem_map_of_mem hr
  have e1 : r.bare.fp = r.fp := rfl
  have e2 : r.bare.pl = r.pl := rfl
  rw [← e1, ← e2]
  simp only [fourL, List.mem_cons, List.not_mem_nil, or_false] at h
  rcases h with h | h | h | h <;> rw [h] <;> exact ⟨by simp [rideQ], by simp [rideQ]⟩
theorem exact_s (W u : World) (hu : IsSince W u) (az : Option Addr) (cz : Nat) (a : Option Addr) (R : List Ride) (c : Nat) (least width e : Int) (E : Rel) (hz : IntRow u az zonesR) (h : RideRow u a R) (hR : R.map Ride.bare = fourL) (he : exE zonesR 2 fourL 0 86400 2 least width = e) (hE : exR zonesR 2 fourL 0 86400 2 least width = E) (n1 n2 n3 n4 n5 : Nat) (l1 : E.cells.length = n1) (l2 : E.hid.length = n2) (l3 : E.rows.length = n3) (l4 : E.cols.length = n4) (l5 : E.ws.length = n5) :
    Calls Tryd.prog 12 #[.slice az 64 cz, .int .i64 2, .slice a 4 c, .agg #[.int .i64 0, .int .i64 86400], .int .i64 2, .int .i64 least, .int .i64 width] u fun o w' => ∃ (a1 a2 a3 a4 a5 : Option Addr) (c1 c2 c3 c4 c5 : Nat) (y : Since W), o = .returned (.tuple #[.agg #[.int .i64 E.f, .int .i64 E.t, .int .i64 E.each, .int .i64 E.r, .int .i64 E.c, .slice a1 n1 c1, .slice a2 n2 c2, .slice a3 n3 c3, .slice a4 n4 c4, .slice a5 n5 c5], .int .i64 e]) ∧ w' = y.w ∧ (∃ z : Since u, y.w = z.w) ∧ RelRows y.w E a1 a2 a3 a4 a5 ∧ ∀ b, a1 = some b ∨ a2 = some b ∨ a3 = some b ∨ a4 = some b ∨ a5 = some b → u.heap.size ≤ b.block := by
  obtain ⟨hl, hm⟩ := fourL_mem hR
  obtain ⟨y0, rfl⟩ := hu
  have hc := exact_calls y0.w (Since.self y0.w) az zonesR cz 2 a R c 0 86400 2 least width hz (by unfold zonesR; simp) h (by omega) hm
  rw [← exE_bare, ← exR_bare, hR, he, hE, hl] at hc
  refine Calls.mono (show Calls Tryd.prog 12 #[.slice az 64 cz, .int .i64 2, .slice a 4 c, .agg #[.int .i64 0, .int .i64 86400], .int .i64 2, .int .i64 least, .int .i64 width] y0.w (RelRes y0.w E e) from hc) ?_
  rintro _ w' ⟨a1, a2, a3, a4, a5, c1, c2, c3, c4, c5, z, rfl, rfl, r1, r2, r3, r4, r5, hf⟩
  obtain ⟨y', e⟩ := y0.trans z
  subst l1 l2 l3 l4 l5
  exact ⟨a1, a2, a3, a4, a5, c1, c2, c3, c4, c5, y', rfl, e, ⟨z, e.symm⟩, e ▸ ⟨r1, r2, r3, r4, r5⟩, hf⟩
/-- a release's box, made behind the release -/
theorem rel_late {W : World} (y : Since W) {E : Rel} {a1 a2 a3 a4 a5 : Option Addr} {c1 c2 c3 c4 c5 : Nat} (h : RelRows y.w E a1 a2 a3 a4 a5) (T : TypeId) :
    ∃ y5 : Since W, y.w.alloc (.cells #[.int .i64 E.f, .int .i64 E.t, .int .i64 E.each, .int .i64 E.r, .int .i64 E.c, .slice a1 E.cells.length c1, .slice a2 E.hid.length c2, .slice a3 E.rows.length c3, .slice a4 E.cols.length c4, .slice a5 E.ws.length c5] T) = y5.w ∧ RelBox y5.w y.w.heap.size E a1 a2 a3 a4 a5 c1 c2 c3 c4 c5 ∧ RelRows y5.w E a1 a2 a3 a4 a5 := by
  obtain ⟨y5, h5⟩ := y.alloc (.cells #[.int .i64 E.f, .int .i64 E.t, .int .i64 E.each, .int .i64 E.r, .int .i64 E.c, .slice a1 E.cells.length c1, .slice a2 E.hid.length c2, .slice a3 E.rows.length c3, .slice a4 E.cols.length c4, .slice a5 E.ws.length c5] T)
  have hb := BoxIs.new y.w [.int .i64 E.f, .int .i64 E.t, .int .i64 E.each, .int .i64 E.r, .int .i64 E.c, .slice a1 E.cells.length c1, .slice a2 E.hid.length c2, .slice a3 E.rows.length c3, .slice a4 E.cols.length c4, .slice a5 E.ws.length c5] T
  have hr := h.to (IsSince.alloc (IsSince.self _) (.cells #[.int .i64 E.f, .int .i64 E.t, .int .i64 E.each, .int .i64 E.r, .int .i64 E.c, .slice a1 E.cells.length c1, .slice a2 E.hid.length c2, .slice a3 E.rows.length c3, .slice a4 E.cols.length c4, .slice a5 E.ws.length c5] T))
  rw [h5] at hb hr
  exact ⟨y5, h5, hb, hr⟩
/-- or ahead of it -/
theorem rel_early {W : World} (y : Since W) {g : Nat} {us : List Value} (hb : BoxIs y.w g us) (hg : W.heap.size ≤ g) (hl : us.length = 10) {E : Rel} {a1 a2 a3 a4 a5 : Option Addr} {c1 c2 c3 c4 c5 : Nat} (h : RelRows y.w E a1 a2 a3 a4 a5) (hf : ∀ b, a1 = some b ∨ a2 = some b ∨ a3 = some b ∨ a4 = some b ∨ a5 = some b → b.block ≠ g) :
    ∃ y5 : Since W, y.w.setCells g 0 [.int .i64 E.f, .int .i64 E.t, .int .i64 E.each, .int .i64 E.r, .int .i64 E.c, .slice a1 E.cells.length c1, .slice a2 E.hid.length c2, .slice a3 E.rows.length c3, .slice a4 E.cols.length c4, .slice a5 E.ws.length c5] = y5.w ∧ RelBox y5.w g E a1 a2 a3 a4 a5 c1 c2 c3 c4 c5 ∧ RelRows y5.w E a1 a2 a3 a4 a5 := by
  obtain ⟨z, hz, hb2, _⟩ := hb.stored (B := W) ⟨y, rfl⟩ hg [.int .i64 E.f, .int .i64 E.t, .int .i64 E.each, .int .i64 E.r, .int .i64 E.c, .slice a1 E.cells.length c1, .slice a2 E.hid.length c2, .slice a3 E.rows.length c3, .slice a4 E.cols.length c4, .slice a5 E.ws.length c5] (by rw [hl]; rfl)
  have hr := RelRows.sets hf [.int .i64 E.f, .int .i64 E.t, .int .i64 E.each, .int .i64 E.r, .int .i64 E.c, .slice a1 E.cells.length c1, .slice a2 E.hid.length c2, .slice a3 E.rows.length c3, .slice a4 E.cols.length c4, .slice a5 E.ws.length c5] 0 y.w h
  rw [hz] at hr
  exact ⟨z, hz, hb2, hr⟩
end Go.Proofs.YtdkcclngionihaaDoor
