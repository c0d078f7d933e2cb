/- Trips between zones: cells, zones, errors: plain mathematics for the walks of tables. -/
import Derived.Test.YtdkcclngionihaaDoorRlMg
import Derived.IntWalk
namespace Go.Proofs.YtdkcclngionihaaDoor
open Go.RowKit

theorem celN_snoc (zs : List Int) (size : Int) (L : List Ride) (e : Ride) (i : Nat) : celN zs size (L ++ [e]) i = celN zs size L i + if (!bigR zs size e && decide (celR zs size e = (i : Int))) = true then 1 else 0 := by
  unfold celN
  rw [List.filter_append, List.length_append]
  cases h : (!bigR zs size e && decide (celR zs size e = (i : Int)))
  · simp [h]
  · simp [h]
theorem celN_range (zs : List Int) (size : Int) (L : List Ride) (i : Nat) : 0 ≤ celN zs size L i ∧ celN zs size L i ≤ L.length := by
  unfold celN
  have := List.length_filter_le (fun r => !bigR zs size r && decide (celR zs size r = (i : Int))) L
  omega
theorem zone_range {zs : List Int} {wh pl : Int} (h : zoneE zs wh pl = 0) : 0 ≤ zoneV zs wh pl ∧ zoneV zs wh pl < 8 := by
  have hg : zlenB zs = true ∧ badZ zs = false := by
    unfold zoneE at h
    by_cases hb : zlenB zs = false ∨ badZ zs = true
    · rw [if_pos hb] at h; cases h
    · constructor
      · cases hz : zlenB zs
        · exact (hb (Or.inl hz)).elim
        · rfl
      · cases hz : badZ zs
        · rfl
        · exact (hb (Or.inr hz)).elim
  have hel : ∀ k, k < zs.length → 0 ≤ at0 zs k ∧ at0 zs k < 8 := fun k hk => by
    have hx : zs[k]? = some (at0 zs k) := by unfold at0; rw [List.getD_eq_getElem?_getD, List.getElem?_eq_getElem hk]; rfl
    cases hb : badz1 (at0 zs k)
    · unfold badz1 at hb
      simp at hb; omega
    · rw [badZ_of hx hb] at hg; cases hg.2
  have hl : 64 ≤ zs.length ∧ zs.length ≤ 96 := by
    have := hg.1
    unfold zlenB at this
    simpa using this
  by_cases h2 : wh = 2
  · subst h2
    by_cases hp : 0 ≤ pl ∧ pl < 64
    · rw [(zone_st hg.1 hg.2 hp).2]; exact hel _ (by omega)
    · rw [(zone_st_no hg.1 hg.2 hp).1] at h; cases h
  · by_cases h1 : wh = 1
    · subst h1
      by_cases hp : 0 ≤ pl ∧ pl / 32 < (zs.length : Int) - 64
      · rw [(zone_dk hg.1 hg.2 hp).2]; exact hel _ (by omega)
      · rw [(zone_dk_no hg.1 hg.2 hp).1] at h; cases h
    · rw [(zone_kind hg.1 hg.2 h1 h2).1] at h; cases h
theorem ends_zero {zs : List Int} {r : Ride} (h : endE zs r = 0) : endA zs r = fromZ zs r ∧ endB zs r = toZ zs r ∧ (0 ≤ fromZ zs r ∧ fromZ zs r < 8) ∧ (0 ≤ toZ zs r ∧ toZ zs r < 8) := by
  unfold endE at h
  by_cases h1 : zoneE zs r.fw r.fp = 0
  · rw [if_neg (by simpa using h1)] at h
    exact ⟨if_pos h1, if_pos h1, zone_range h1, zone_range h⟩
  · rw [if_pos h1] at h; exact (h1 h).elim
/-- which rides a table counts -/
def cP (R : List Ride) (each f t : Int) (r : Ride) : Bool := ctd R each r && inT f t r
theorem cntL_eq (R : List Ride) (each f t : Int) : cntL R each f t = R.filter (cP R each f t) := by
  unfold cntL eachL
  rw [List.filter_filter]
  exact List.filter_congr fun r _ => by unfold cP; exact Bool.and_comm _ _
theorem take_split {R : List Ride} {k : Nat} {e : Ride} (h : R[k]? = some e) : R = R.take k ++ e :: R.drop (k + 1) := by
  obtain ⟨hk, he⟩ := List.getElem?_eq_some_iff.1 h
  rw [← he, ← List.drop_eq_getElem_cons hk, List.take_append_drop]
theorem endsE_at {zs : List Int} {R : List Ride} {p : Ride → Bool} {k : Nat} {e : Ride} (h : R[k]? = some e) (hp : p e = true) (he : endE zs e ≠ 0) (hn : ∀ r ∈ (R.take k).filter p, endE zs r = 0) : endsE zs (R.filter p) = endE zs e := by
  unfold endsE
  have : (R.filter p).find? (fun r => endE zs r != 0) = some e := by
    rw [take_split h, List.filter_append, List.find?_append, List.find?_eq_none.2 (fun r hr => by rw [hn r (by simpa using hr)]; simp), List.filter_cons_of_pos hp]
    simp [he]
  rw [this]
theorem endsE_no {zs : List Int} {L : List Ride} (hn : ∀ r ∈ L, endE zs r = 0) : endsE zs L = 0 := by
  unfold endsE
  rw [List.find?_eq_none.2 (fun r hr => by rw [hn r hr]; simp)]
theorem tab_idx {a b s : Int} (h1 : 0 ≤ a) (h2 : a < s) (h3 : 0 ≤ b) (h4 : b < s) (h5 : s ≤ 8) : 0 ≤ a * s + b ∧ a * s + b < s * s ∧ a * s ≤ 64 ∧ 0 ≤ a * s := by
  have k1 : 0 ≤ a * s := Int.mul_nonneg h1 (by omega)
  have k2 : a * s ≤ (s - 1) * s := Int.mul_le_mul_of_nonneg_right (by omega) (by omega)
  have k3 : (s - 1) * s = s * s - s := by rw [Int.sub_mul, Int.one_mul]
  have k4 : a * s ≤ 8 * 8 := Int.mul_le_mul (by omega) h5 (by omega) (by omega)
  omega
theorem rideE_rng {r : Ride} (h : rideE r = 0) : rangedB r = true := by
  unfold rideE at h
  cases hr : rangedB r
  · rw [hr] at h; simp at h
  · rfl
theorem rangedB_head {r : Ride} (h : rangedB r = true) : 1 ≤ r.id ∧ r.id ≤ 1000000 ∧ 0 ≤ r.rd ∧ r.rd ≤ 127 ∧ 0 ≤ r.s0 ∧ r.s0 ≤ r.s1 ∧ r.s1 ≤ 4294943999 ∧ 0 ≤ r.e0 ∧ r.e0 ≤ r.e1 ∧ r.e1 ≤ 4294943999 := by
  unfold rangedB headV at h
  simp only [Bool.and_eq_true, decide_eq_true_eq, vldS_iff] at h
  omega
theorem firstErr_zero {l : List Ride} (h : firstErr l = 0) : ∀ r ∈ l, rideE r = 0 := by
  intro r hr
  unfold firstErr at h
  cases hf : l.find? (fun r => rideE r != 0) with
  | none =>
    rw [List.find?_eq_none] at hf
    simpa using hf r hr
  | some x =>
    rw [hf] at h
    have := List.find?_some hf
    simp at this
    exact (this h).elim
theorem ridesE_zero {R : List Ride} (h : ridesE R = 0) : R.length ≤ 256 ∧ (R.map fun r : Ride => r.id).Nodup ∧ ∀ r ∈ R, rideE r = 0 := by
  unfold ridesE at h
  by_cases h1 : 256 < R.length
  · rw [if_pos h1] at h; cases h
  · rw [if_neg h1] at h
    by_cases h2 : firstErr R = 0
    · rw [if_neg (by simpa using h2)] at h
      rcases dupB_cases (R.map fun r : Ride => r.id) with ⟨hd, _⟩ | ⟨_, hn⟩
      · rw [hd] at h; simp at h
      · exact ⟨by omega, hn, firstErr_zero h2⟩
    · rw [if_pos h2] at h; exact (h2 h).elim
theorem rides_s0 {R : List Ride} (h : ridesE R = 0) : ∀ r ∈ R, 0 ≤ r.s0 ∧ r.s0 ≤ 4294943999 := fun r hr => by
  have := rangedB_head (rideE_rng ((ridesE_zero h).2.2 r hr)); omega
def eachV (R : List Ride) (each : Int) : List Ride := if eachE R each = 0 then eachL R each else []
theorem eachE_zero {R : List Ride} {each : Int} (h : eachE R each = 0) : 0 ≤ each ∧ each ≤ 256 ∧ ridesE R = 0 := by
  unfold eachE at h
  by_cases h1 : each < 0 ∨ 256 < each
  · rw [if_pos h1] at h; cases h
  · rw [if_neg h1] at h; exact ⟨by omega, by omega, h⟩
theorem pick_take (R : List Ride) (p : Ride → Bool) (k : Nat) (e : Ride) (h : R[k]? = some e) : ((R.take (k + 1)).filter p) = (R.take k).filter p ++ if p e = true then [e] else [] := by
  rw [List.take_add_one, h, List.filter_append]
  cases hp : p e <;> simp [hp]
def OneB (w : World) (b : Bool) (o : Ending) (w' : World) : Prop := o = .returned (.bool b) ∧ ∃ y : Since w, w' = y.w
end Go.Proofs.YtdkcclngionihaaDoor
/- Trips between zones: what is counted depends on the bare rides alone: plain mathematics. -/
namespace Go.Proofs.YtdkcclngionihaaDoor
open Go.RowKit

theorem bare_e (r : Ride) : rideE r.bare = rideE r := rfl
theorem firstErr_bare (R : List Ride) : firstErr (R.map Ride.bare) = firstErr R := by
  unfold firstErr
  induction R with
  | nil => rfl
  | cons r R ih =>
    simp only [List.map_cons, List.find?_cons, bare_e]
    cases rideE r != 0
    · exact ih
    · rfl
theorem ridesE_bare (R : List Ride) : ridesE (R.map Ride.bare) = ridesE R := by
  unfold ridesE
  rw [firstErr_bare, List.length_map, List.map_map]; rfl
theorem bare_id (r : Ride) : r.bare.id = r.id := rfl
theorem bf_bare (r s : Ride) : bf r.bare s.bare = bf r s := rfl
theorem filter_bare (R : List Ride) (p q : Ride → Bool) (h : ∀ r, p r.bare = q r) : (R.map Ride.bare).filter p = (R.filter q).map Ride.bare := by
  rw [List.filter_map]
  congr 1
  exact List.filter_congr fun r _ => h r
theorem ahd_bare (R : List Ride) (x : Ride) : ahd (R.map Ride.bare) x.bare = ahd R x := by
  unfold ahd
  rw [filter_bare R _ (fun r => ofK (key x) r && bf r x) (fun r => rfl), List.length_map]
theorem ctd_bare (R : List Ride) (each : Int) (x : Ride) : ctd (R.map Ride.bare) each x.bare = ctd R each x := by
  unfold ctd
  rw [ahd_bare]; rfl
theorem eachL_bare (R : List Ride) (each : Int) : eachL (R.map Ride.bare) each = (eachL R each).map Ride.bare := filter_bare R _ _ (ctd_bare R each)
theorem eachE_bare (R : List Ride) (each : Int) : eachE (R.map Ride.bare) each = eachE R each := by
  unfold eachE
  rw [ridesE_bare]
theorem cntL_bare (R : List Ride) (each f t : Int) : cntL (R.map Ride.bare) each f t = (cntL R each f t).map Ride.bare := by
  unfold cntL
  rw [eachL_bare]
  exact filter_bare _ _ _ fun r => rfl
theorem endsE_bare (zs : List Int) (L : List Ride) : endsE zs (L.map Ride.bare) = endsE zs L := by
  unfold endsE
  rw [List.find?_map]
  have : ((fun r => endE zs r != 0) ∘ Ride.bare) = fun r => endE zs r != 0 := rfl
  rw [this]
  cases L.find? (fun r => endE zs r != 0) <;> rfl
theorem celN_bare (zs : List Int) (size : Int) (L : List Ride) (i : Nat) : celN zs size (L.map Ride.bare) i = celN zs size L i := by
  unfold celN
  rw [filter_bare L _ (fun r => !bigR zs size r && decide (celR zs size r = (i : Int))) (fun r => rfl), List.length_map]
theorem any_bare (zs : List Int) (size : Int) (L : List Ride) : (L.map Ride.bare).any (bigR zs size) = L.any (bigR zs size) := by
  rw [List.any_map]; rfl
theorem tabE_bare (zs : List Int) (size : Int) (R : List Ride) (f t each : Int) : tabE zs size (R.map Ride.bare) f t each = tabE zs size R f t each := by
  unfold tabE
  rw [eachE_bare, cntL_bare, endsE_bare, any_bare]
theorem tabV_bare (zs : List Int) (size : Int) (R : List Ride) (f t each : Int) : tabV zs size (R.map Ride.bare) f t each = tabV zs size R f t each := by
  unfold tabV
  rw [tabE_bare, cntL_bare]
  have : cells zs size ((cntL R each f t).map Ride.bare) = cells zs size (cntL R each f t) := by
    unfold cells
    exact List.map_congr_left fun i _ => celN_bare zs size _ i
  rw [this]
end Go.Proofs.YtdkcclngionihaaDoor
/- Trips between zones, the reference: the check of rides, before, ahead. -/
namespace Go.Proofs.YtdkcclngionihaaDoor
open Go.RowKit Go.ChangeMaps

set_option maxRecDepth 100000 in
set_option maxHeartbeats 4000000 in
theorem rrides_calls (w : World) (x : Since w) (a : Option Addr) (l : List Ride) (c : Nat) (h : RideRow w a l) (hl : l.length ≤ 9223372036854775807) :
    Calls Tryd.prog 92 #[.slice a l.length c] x.w fun o w' => o = .returned (.int .i64 (ridesE l)) ∧ ∃ y : Since w, w' = y.w := by
  have HL := Lib.hid h
  clear h
  by_cases hbig : 256 < l.length
  · have Hr := Lib.hid (show ridesE l = 8 by unfold ridesE; rw [if_pos hbig])
    go_enter Tryd.func92, Tryd.ntmps92
    go_wp2_with fail
    go_ret
    exact ⟨ret_int Hr.out.symm, _, rfl⟩
  have hl256 : l.length ≤ 256 := by omega
  have HP := Lib.hid (fun hok : (∀ j, j < l.length → ∀ e, l[j]? = some e → rideE e = 0) => ridesE_ok hl256 hok)
  clear hbig hl
  go_enter Tryd.func92, Tryd.ntmps92
  go_wp2_with fail
  go_loopw [3] (fun i wr => ∃ (k : Nat) (y : Since w), k ≤ l.length ∧ i = .int .i64 k ∧ wr = y.w ∧ ∀ j, j < k → ∀ e, l[j]? = some e → rideE e = 0) (fun i _ => l.length - (intOf i).toNat)
  case atStart => exact ⟨0, _, by omega, rfl, rfl, fun j hj => by omega⟩
  case round =>
    obtain ⟨k, y, hk, rfl, rfl, hok⟩ := hrel
    have Hok := Lib.hid hok; clear hok
    by_cases hlt : k < l.length
    · obtain ⟨e, he⟩ : ∃ e, l[k]? = some e := ⟨_, List.getElem?_eq_getElem hlt⟩
      obtain ⟨b1, off1, rfl, h1'⟩ := Els.ride HL.out.c he
      have ra0 := h1'.c0
      have ra1 := h1'.c1
      have ra2 := h1'.c2
      have ra3 := h1'.c3
      have ra4 := h1'.c4
      have ra5 := h1'.c5
      have ra6 := h1'.c6
      have ra7 := h1'.c7
      have ra8 := h1'.c8
      have ra9 := h1'.c9
      have ra10 := h1'.c10
      have ra11 := h1'.c11
      have ra12 := h1'.c12
      have hk0 : (0 : Int) ≤ (k : Int) := by omega
      have hkl : (k : Int) < (l.length : Int) := by omega
      have He := Lib.hid he
      have Hat := Lib.hid (HL.out.r e (List.mem_of_getElem? he))
      clear h1' he
      by_cases hg : rideE e = 0
      · have Hg := Lib.hid hg; clear hg
        go_wp2_with fail
        refine (rcheck_calls w y e Hat.out).mono ?_
        rintro _ _ ⟨rfl, z, rfl⟩
        rw [Hg.out]
        go_wp2_with fail
        go_roundw
        case rel => exact ⟨k + 1, z, by omega, by go_num, rfl, upto_next (P := fun e : Ride => rideE e = 0) Hok.out He.out Hg.out⟩
        case measure => simp [intOf] <;> omega
      · have Hr := Lib.hid (ridesE_err hl256 He.out hg Hok.out)
        have heb : (rideE e != 0) = true := by simpa using hg
        clear hg
        go_wp2_with fail
        refine (rcheck_calls w y e Hat.out).mono ?_
        rintro _ _ ⟨rfl, z, rfl⟩
        generalize rideE e = re at *
        go_wp2_with fail
        go_ret
        exact ⟨ret_int Hr.out.symm, _, rfl⟩
    · obtain rfl : k = l.length := by omega
      have HQ := Lib.hid (HP.out Hok.out)
      clear Hok HP
      go_wp2_with fail
      go_loopw [5] (fun i wr => ∃ (k : Nat) (y : Since w), k ≤ l.length ∧ i = .int .i64 k ∧ wr = y.w ∧ ((l.map fun r : Ride => r.id).take k).Nodup) (fun i _ => l.length - (intOf i).toNat)
      case atStart => exact ⟨0, y, by omega, rfl, rfl, by simp⟩
      case round =>
        obtain ⟨k, y, hk, rfl, rfl, hnd⟩ := hrel
        have Hnd := Lib.hid hnd; clear hnd
        by_cases hlt : k < l.length
        · obtain ⟨e, he⟩ : ∃ e, l[k]? = some e := ⟨_, List.getElem?_eq_getElem hlt⟩
          obtain ⟨b1, off1, rfl, h1'⟩ := Els.ride HL.out.c he
          have ra0 := h1'.c0
          have hk0 : (0 : Int) ≤ (k : Int) := by omega
          have hkl : (k : Int) < (l.length : Int) := by omega
          have He := Lib.hid (map_at (f := fun r : Ride => r.id) he)
          have Hnx := Lib.hid (nodup_take_next He.out)
          clear h1' he
          go_wp2_with fail
          go_loopw [6] (fun i wr => ∃ (m : Nat) (y : Since w), m ≤ k ∧ i = .int .i64 m ∧ wr = y.w ∧ ∀ j, j < m → ∀ v, (l.map fun r : Ride => r.id)[j]? = some v → v ≠ e.id) (fun i _ => k - (intOf i).toNat)
          case atStart => exact ⟨0, y, by omega, rfl, rfl, fun j hj => by omega⟩
          case round =>
            obtain ⟨m, y, hm, rfl, rfl, hno⟩ := hrel
            have Hno := Lib.hid hno; clear hno
            by_cases hlm : m < k
            · obtain ⟨e2, he2⟩ : ∃ e, l[m]? = some e := ⟨_, List.getElem?_eq_getElem (by omega)⟩
              obtain ⟨b2, off2, hbo, h2'⟩ := Els.ride HL.out.c he2
              simp only [Option.some.injEq, Addr.mk.injEq, and_true] at hbo
              obtain ⟨rfl, rfl⟩ := hbo
              have rb0 := h2'.c0
              have hm0 : (0 : Int) ≤ (m : Int) := by omega
              have hml : (m : Int) < (l.length : Int) := by omega
              have hmk : (m : Int) < (k : Int) := by omega
              have He2 := Lib.hid (map_at (f := fun r : Ride => r.id) he2)
              clear h2' he2
              by_cases hee : e.id = e2.id
              · have hb : (e.id == e2.id) = true := by simpa using hee
                have Hr := Lib.hid (show ridesE l = 6 by
                  rw [HQ.out, if_pos (dupB_true fun h => (Hnx.out.1 (nodup_of_take h)).2 (by rw [hee]; exact List.mem_of_getElem? (by rw [List.getElem?_take, if_pos hlm]; exact He2.out)))])
                clear hee
                go_wp2_with fail
                refine wp_region_since (by kernel_rfl) (by kernel_rfl) ?_
                repeat (go_big_quiet_step (fail))
                refine wpQuiet_nil ?_
                rintro _ ⟨z, rfl⟩
                go_wp2_with fail
                go_ret
                exact ⟨ret_int Hr.out.symm, _, rfl⟩
              · have hb : (e.id == e2.id) = false := by simpa using hee
                have Hno2 := Lib.hid (show ∀ j, j < m + 1 → ∀ v, (l.map fun r : Ride => r.id)[j]? = some v → v ≠ e.id from upto_next (P := fun v => v ≠ e.id) Hno.out He2.out (fun h => hee h.symm))
                clear hee
                go_wp2_with fail
                refine wp_region_since (by kernel_rfl) (by kernel_rfl) ?_
                repeat (go_big_quiet_step (fail))
                refine wpQuiet_nil ?_
                rintro _ ⟨z, rfl⟩
                go_wp2_with fail
                go_roundw
                case rel => exact ⟨m + 1, z, by omega, by go_num, rfl, Hno2.out⟩
                case measure => simp [intOf] <;> omega
            · obtain rfl : m = k := by omega
              have Hnd2 := Lib.hid (Hnx.out.2 ⟨Hnd.out, fun hm => by
                obtain ⟨j, hj⟩ := List.mem_iff_getElem?.1 hm
                rw [List.getElem?_take] at hj
                split at hj
                · rename_i hjm; exact Hno.out j hjm _ hj rfl
                · cases hj⟩)
              go_wp2_with fail
              go_roundw
              case rel => exact ⟨m + 1, y, by omega, by go_num, rfl, Hnd2.out⟩
              case measure => simp [intOf] <;> omega
        · obtain rfl : k = l.length := by omega
          have Hr := Lib.hid (show ridesE l = 0 by
            have h1 := Hnd.out
            rw [List.take_of_length_le (by simp)] at h1
            rw [HQ.out, if_neg (by rw [dupB_false h1]; simp)])
          go_wp2_with fail
          go_ret
          exact ⟨ret_int Hr.out.symm, _, rfl⟩
set_option maxRecDepth 100000 in
set_option maxHeartbeats 4000000 in
theorem before_calls (w : World) (x : Since w) (s t : Ride) : Calls Tryd.prog 113 #[.agg #[.int .i64 s.id, .int .i64 s.rd, .int .i64 s.s0, .int .i64 s.s1, .int .i64 s.e0, .int .i64 s.e1, .bool s.op, .slice s.la s.legs.length s.lc, .slice s.pa s.pauses.length s.pc, .int .i64 s.fw, .int .i64 s.fp, .int .i64 s.wh, .int .i64 s.pl], .agg #[.int .i64 t.id, .int .i64 t.rd, .int .i64 t.s0, .int .i64 t.s1, .int .i64 t.e0, .int .i64 t.e1, .bool t.op, .slice t.la t.legs.length t.lc, .slice t.pa t.pauses.length t.pc, .int .i64 t.fw, .int .i64 t.fp, .int .i64 t.wh, .int .i64 t.pl]] x.w (OneB w (bf s t)) := by
  have Hp := Lib.hid (fun (c : Bool) (h : bf s t = c) (y : Since w) => show OneB w (bf s t) (.returned (.bool c)) y.w from ⟨by rw [h], y, rfl⟩)
  have Hi := Lib.hid (bf_iff s t)
  generalize OneB w (bf s t) = PO at *
  go_enter Tryd.func113, Tryd.ntmps113
  go_upto_region 1 with fail
  have hb0_0 : ∀ y : Since ((x.w.alloc (.cells #[.int .i64 s.id, .int .i64 s.rd, .int .i64 s.s0, .int .i64 s.s1, .int .i64 s.e0, .int .i64 s.e1, .bool s.op, .slice s.la s.legs.length s.lc, .slice s.pa s.pauses.length s.pc, .int .i64 s.fw, .int .i64 s.fp, .int .i64 s.wh, .int .i64 s.pl] 73)).alloc (.cells #[.int .i64 t.id, .int .i64 t.rd, .int .i64 t.s0, .int .i64 t.s1, .int .i64 t.e0, .int .i64 t.e1, .bool t.op, .slice t.la t.legs.length t.lc, .slice t.pa t.pauses.length t.pc, .int .i64 t.fw, .int .i64 t.fp, .int .i64 t.wh, .int .i64 t.pl] 73)), y.w.cell? ⟨x.w.heap.size, 0, none⟩ = some (.int .i64 s.id) := fun y => Since.cell (by simp [go_sem]) (by first | (simp; done) | (simp; omega)) y
  have hb0_1 : ∀ y : Since ((x.w.alloc (.cells #[.int .i64 s.id, .int .i64 s.rd, .int .i64 s.s0, .int .i64 s.s1, .int .i64 s.e0, .int .i64 s.e1, .bool s.op, .slice s.la s.legs.length s.lc, .slice s.pa s.pauses.length s.pc, .int .i64 s.fw, .int .i64 s.fp, .int .i64 s.wh, .int .i64 s.pl] 73)).alloc (.cells #[.int .i64 t.id, .int .i64 t.rd, .int .i64 t.s0, .int .i64 t.s1, .int .i64 t.e0, .int .i64 t.e1, .bool t.op, .slice t.la t.legs.length t.lc, .slice t.pa t.pauses.length t.pc, .int .i64 t.fw, .int .i64 t.fp, .int .i64 t.wh, .int .i64 t.pl] 73)), y.w.cell? ⟨x.w.heap.size, 1, none⟩ = some (.int .i64 s.rd) := fun y => Since.cell (by simp [go_sem]) (by first | (simp; done) | (simp; omega)) y
  have hb0_2 : ∀ y : Since ((x.w.alloc (.cells #[.int .i64 s.id, .int .i64 s.rd, .int .i64 s.s0, .int .i64 s.s1, .int .i64 s.e0, .int .i64 s.e1, .bool s.op, .slice s.la s.legs.length s.lc, .slice s.pa s.pauses.length s.pc, .int .i64 s.fw, .int .i64 s.fp, .int .i64 s.wh, .int .i64 s.pl] 73)).alloc (.cells #[.int .i64 t.id, .int .i64 t.rd, .int .i64 t.s0, .int .i64 t.s1, .int .i64 t.e0, .int .i64 t.e1, .bool t.op, .slice t.la t.legs.length t.lc, .slice t.pa t.pauses.length t.pc, .int .i64 t.fw, .int .i64 t.fp, .int .i64 t.wh, .int .i64 t.pl] 73)), y.w.cell? ⟨x.w.heap.size, 2, none⟩ = some (.int .i64 s.s0) := fun y => Since.cell (by simp [go_sem]) (by first | (simp; done) | (simp; omega)) y
  have hb0_3 : ∀ y : Since ((x.w.alloc (.cells #[.int .i64 s.id, .int .i64 s.rd, .int .i64 s.s0, .int .i64 s.s1, .int .i64 s.e0, .int .i64 s.e1, .bool s.op, .slice s.la s.legs.length s.lc, .slice s.pa s.pauses.length s.pc, .int .i64 s.fw, .int .i64 s.fp, .int .i64 s.wh, .int .i64 s.pl] 73)).alloc (.cells #[.int .i64 t.id, .int .i64 t.rd, .int .i64 t.s0, .int .i64 t.s1, .int .i64 t.e0, .int .i64 t.e1, .bool t.op, .slice t.la t.legs.length t.lc, .slice t.pa t.pauses.length t.pc, .int .i64 t.fw, .int .i64 t.fp, .int .i64 t.wh, .int .i64 t.pl] 73)), y.w.cell? ⟨x.w.heap.size, 3, none⟩ = some (.int .i64 s.s1) := fun y => Since.cell (by simp [go_sem]) (by first | (simp; done) | (simp; omega)) y
  have hb0_4 : ∀ y : Since ((x.w.alloc (.cells #[.int .i64 s.id, .int .i64 s.rd, .int .i64 s.s0, .int .i64 s.s1, .int .i64 s.e0, .int .i64 s.e1, .bool s.op, .slice s.la s.legs.length s.lc, .slice s.pa s.pauses.length s.pc, .int .i64 s.fw, .int .i64 s.fp, .int .i64 s.wh, .int .i64 s.pl] 73)).alloc (.cells #[.int .i64 t.id, .int .i64 t.rd, .int .i64 t.s0, .int .i64 t.s1, .int .i64 t.e0, .int .i64 t.e1, .bool t.op, .slice t.la t.legs.length t.lc, .slice t.pa t.pauses.length t.pc, .int .i64 t.fw, .int .i64 t.fp, .int .i64 t.wh, .int .i64 t.pl] 73)), y.w.cell? ⟨x.w.heap.size, 4, none⟩ = some (.int .i64 s.e0) := fun y => Since.cell (by simp [go_sem]) (by first | (simp; done) | (simp; omega)) y
  have hb0_5 : ∀ y : Since ((x.w.alloc (.cells #[.int .i64 s.id, .int .i64 s.rd, .int .i64 s.s0, .int .i64 s.s1, .int .i64 s.e0, .int .i64 s.e1, .bool s.op, .slice s.la s.legs.length s.lc, .slice s.pa s.pauses.length s.pc, .int .i64 s.fw, .int .i64 s.fp, .int .i64 s.wh, .int .i64 s.pl] 73)).alloc (.cells #[.int .i64 t.id, .int .i64 t.rd, .int .i64 t.s0, .int .i64 t.s1, .int .i64 t.e0, .int .i64 t.e1, .bool t.op, .slice t.la t.legs.length t.lc, .slice t.pa t.pauses.length t.pc, .int .i64 t.fw, .int .i64 t.fp, .int .i64 t.wh, .int .i64 t.pl] 73)), y.w.cell? ⟨x.w.heap.size, 5, none⟩ = some (.int .i64 s.e1) := fun y => Since.cell (by simp [go_sem]) (by first | (simp; done) | (simp; omega)) y
  have hb0_6 : ∀ y : Since ((x.w.alloc (.cells #[.int .i64 s.id, .int .i64 s.rd, .int .i64 s.s0, .int .i64 s.s1, .int .i64 s.e0, .int .i64 s.e1, .bool s.op, .slice s.la s.legs.length s.lc, .slice s.pa s.pauses.length s.pc, .int .i64 s.fw, .int .i64 s.fp, .int .i64 s.wh, .int .i64 s.pl] 73)).alloc (.cells #[.int .i64 t.id, .int .i64 t.rd, .int .i64 t.s0, .int .i64 t.s1, .int .i64 t.e0, .int .i64 t.e1, .bool t.op, .slice t.la t.legs.length t.lc, .slice t.pa t.pauses.length t.pc, .int .i64 t.fw, .int .i64 t.fp, .int .i64 t.wh, .int .i64 t.pl] 73)), y.w.cell? ⟨x.w.heap.size, 6, none⟩ = some (.bool s.op) := fun y => Since.cell (by simp [go_sem]) (by first | (simp; done) | (simp; omega)) y
  have hb0_7 : ∀ y : Since ((x.w.alloc (.cells #[.int .i64 s.id, .int .i64 s.rd, .int .i64 s.s0, .int .i64 s.s1, .int .i64 s.e0, .int .i64 s.e1, .bool s.op, .slice s.la s.legs.length s.lc, .slice s.pa s.pauses.length s.pc, .int .i64 s.fw, .int .i64 s.fp, .int .i64 s.wh, .int .i64 s.pl] 73)).alloc (.cells #[.int .i64 t.id, .int .i64 t.rd, .int .i64 t.s0, .int .i64 t.s1, .int .i64 t.e0, .int .i64 t.e1, .bool t.op, .slice t.la t.legs.length t.lc, .slice t.pa t.pauses.length t.pc, .int .i64 t.fw, .int .i64 t.fp, .int .i64 t.wh, .int .i64 t.pl] 73)), y.w.cell? ⟨x.w.heap.size, 7, none⟩ = some (.slice s.la s.legs.length s.lc) := fun y => Since.cell (by simp [go_sem]) (by first | (simp; done) | (simp; omega)) y
  have hb0_8 : ∀ y : Since ((x.w.alloc (.cells #[.int .i64 s.id, .int .i64 s.rd, .int .i64 s.s0, .int .i64 s.s1, .int .i64 s.e0, .int .i64 s.e1, .bool s.op, .slice s.la s.legs.length s.lc, .slice s.pa s.pauses.length s.pc, .int .i64 s.fw, .int .i64 s.fp, .int .i64 s.wh, .int .i64 s.pl] 73)).alloc (.cells #[.int .i64 t.id, .int .i64 t.rd, .int .i64 t.s0, .int .i64 t.s1, .int .i64 t.e0, .int .i64 t.e1, .bool t.op, .slice t.la t.legs.length t.lc, .slice t.pa t.pauses.length t.pc, .int .i64 t.fw, .int .i64 t.fp, .int .i64 t.wh, .int .i64 t.pl] 73)), y.w.cell? ⟨x.w.heap.size, 8, none⟩ = some (.slice s.pa s.pauses.length s.pc) := fun y => Since.cell (by simp [go_sem]) (by first | (simp; done) | (simp; omega)) y
  have hb0_9 : ∀ y : Since ((x.w.alloc (.cells #[.int .i64 s.id, .int .i64 s.rd, .int .i64 s.s0, .int .i64 s.s1, .int .i64 s.e0, .int .i64 s.e1, .bool s.op, .slice s.la s.legs.length s.lc, .slice s.pa s.pauses.length s.pc, .int .i64 s.fw, .int .i64 s.fp, .int .i64 s.wh, .int .i64 s.pl] 73)).alloc (.cells #[.int .i64 t.id, .int .i64 t.rd, .int .i64 t.s0, .int .i64 t.s1, .int .i64 t.e0, .int .i64 t.e1, .bool t.op, .slice t.la t.legs.length t.lc, .slice t.pa t.pauses.length t.pc, .int .i64 t.fw, .int .i64 t.fp, .int .i64 t.wh, .int .i64 t.pl] 73)), y.w.cell? ⟨x.w.heap.size, 9, none⟩ = some (.int .i64 s.fw) := fun y => Since.cell (by simp [go_sem]) (by first | (simp; done) | (simp; omega)) y
  have hb0_10 : ∀ y : Since ((x.w.alloc (.cells #[.int .i64 s.id, .int .i64 s.rd, .int .i64 s.s0, .int .i64 s.s1, .int .i64 s.e0, .int .i64 s.e1, .bool s.op, .slice s.la s.legs.length s.lc, .slice s.pa s.pauses.length s.pc, .int .i64 s.fw, .int .i64 s.fp, .int .i64 s.wh, .int .i64 s.pl] 73)).alloc (.cells #[.int .i64 t.id, .int .i64 t.rd, .int .i64 t.s0, .int .i64 t.s1, .int .i64 t.e0, .int .i64 t.e1, .bool t.op, .slice t.la t.legs.length t.lc, .slice t.pa t.pauses.length t.pc, .int .i64 t.fw, .int .i64 t.fp, .int .i64 t.wh, .int .i64 t.pl] 73)), y.w.cell? ⟨x.w.heap.size, 10, none⟩ = some (.int .i64 s.fp) := fun y => Since.cell (by simp [go_sem]) (by first | (simp; done) | (simp; omega)) y
  have hb0_11 : ∀ y : Since ((x.w.alloc (.cells #[.int .i64 s.id, .int .i64 s.rd, .int .i64 s.s0, .int .i64 s.s1, .int .i64 s.e0, .int .i64 s.e1, .bool s.op, .slice s.la s.legs.length s.lc, .slice s.pa s.pauses.length s.pc, .int .i64 s.fw, .int .i64 s.fp, .int .i64 s.wh, .int .i64 s.pl] 73)).alloc (.cells #[.int .i64 t.id, .int .i64 t.rd, .int .i64 t.s0, .int .i64 t.s1, .int .i64 t.e0, .int .i64 t.e1, .bool t.op, .slice t.la t.legs.length t.lc, .slice t.pa t.pauses.length t.pc, .int .i64 t.fw, .int .i64 t.fp, .int .i64 t.wh, .int .i64 t.pl] 73)), y.w.cell? ⟨x.w.heap.size, 11, none⟩ = some (.int .i64 s.wh) := fun y => Since.cell (by simp [go_sem]) (by first | (simp; done) | (simp; omega)) y
  have hb0_12 : ∀ y : Since ((x.w.alloc (.cells #[.int .i64 s.id, .int .i64 s.rd, .int .i64 s.s0, .int .i64 s.s1, .int .i64 s.e0, .int .i64 s.e1, .bool s.op, .slice s.la s.legs.length s.lc, .slice s.pa s.pauses.length s.pc, .int .i64 s.fw, .int .i64 s.fp, .int .i64 s.wh, .int .i64 s.pl] 73)).alloc (.cells #[.int .i64 t.id, .int .i64 t.rd, .int .i64 t.s0, .int .i64 t.s1, .int .i64 t.e0, .int .i64 t.e1, .bool t.op, .slice t.la t.legs.length t.lc, .slice t.pa t.pauses.length t.pc, .int .i64 t.fw, .int .i64 t.fp, .int .i64 t.wh, .int .i64 t.pl] 73)), y.w.cell? ⟨x.w.heap.size, 12, none⟩ = some (.int .i64 s.pl) := fun y => Since.cell (by simp [go_sem]) (by first | (simp; done) | (simp; omega)) y
  have hf0 : ∀ (y : Since ((x.w.alloc (.cells #[.int .i64 s.id, .int .i64 s.rd, .int .i64 s.s0, .int .i64 s.s1, .int .i64 s.e0, .int .i64 s.e1, .bool s.op, .slice s.la s.legs.length s.lc, .slice s.pa s.pauses.length s.pc, .int .i64 s.fw, .int .i64 s.fp, .int .i64 s.wh, .int .i64 s.pl] 73)).alloc (.cells #[.int .i64 t.id, .int .i64 t.rd, .int .i64 t.s0, .int .i64 t.s1, .int .i64 t.e0, .int .i64 t.e1, .bool t.op, .slice t.la t.legs.length t.lc, .slice t.pa t.pauses.length t.pc, .int .i64 t.fw, .int .i64 t.fp, .int .i64 t.wh, .int .i64 t.pl] 73))) (o : Nat), y.w.frozen? ⟨x.w.heap.size, o, none⟩ = false := fun y o => Since.free (by simp [go_sem]) (by first | (simp; done) | (simp; omega)) y
  have hb1_0 : ∀ y : Since ((x.w.alloc (.cells #[.int .i64 s.id, .int .i64 s.rd, .int .i64 s.s0, .int .i64 s.s1, .int .i64 s.e0, .int .i64 s.e1, .bool s.op, .slice s.la s.legs.length s.lc, .slice s.pa s.pauses.length s.pc, .int .i64 s.fw, .int .i64 s.fp, .int .i64 s.wh, .int .i64 s.pl] 73)).alloc (.cells #[.int .i64 t.id, .int .i64 t.rd, .int .i64 t.s0, .int .i64 t.s1, .int .i64 t.e0, .int .i64 t.e1, .bool t.op, .slice t.la t.legs.length t.lc, .slice t.pa t.pauses.length t.pc, .int .i64 t.fw, .int .i64 t.fp, .int .i64 t.wh, .int .i64 t.pl] 73)), y.w.cell? ⟨x.w.heap.size + 1, 0, none⟩ = some (.int .i64 t.id) := fun y => Since.cell (by simp [go_sem]) (by first | (simp; done) | (simp; omega)) y
  have hb1_1 : ∀ y : Since ((x.w.alloc (.cells #[.int .i64 s.id, .int .i64 s.rd, .int .i64 s.s0, .int .i64 s.s1, .int .i64 s.e0, .int .i64 s.e1, .bool s.op, .slice s.la s.legs.length s.lc, .slice s.pa s.pauses.length s.pc, .int .i64 s.fw, .int .i64 s.fp, .int .i64 s.wh, .int .i64 s.pl] 73)).alloc (.cells #[.int .i64 t.id, .int .i64 t.rd, .int .i64 t.s0, .int .i64 t.s1, .int .i64 t.e0, .int .i64 t.e1, .bool t.op, .slice t.la t.legs.length t.lc, .slice t.pa t.pauses.length t.pc, .int .i64 t.fw, .int .i64 t.fp, .int .i64 t.wh, .int .i64 t.pl] 73)), y.w.cell? ⟨x.w.heap.size + 1, 1, none⟩ = some (.int .i64 t.rd) := fun y => Since.cell (by simp [go_sem]) (by first | (simp; done) | (simp; omega)) y
  have hb1_2 : ∀ y : Since ((x.w.alloc (.cells #[.int .i64 s.id, .int .i64 s.rd, .int .i64 s.s0, .int .i64 s.s1, .int .i64 s.e0, .int .i64 s.e1, .bool s.op, .slice s.la s.legs.length s.lc, .slice s.pa s.pauses.length s.pc, .int .i64 s.fw, .int .i64 s.fp, .int .i64 s.wh, .int .i64 s.pl] 73)).alloc (.cells #[.int .i64 t.id, .int .i64 t.rd, .int .i64 t.s0, .int .i64 t.s1, .int .i64 t.e0, .int .i64 t.e1, .bool t.op, .slice t.la t.legs.length t.lc, .slice t.pa t.pauses.length t.pc, .int .i64 t.fw, .int .i64 t.fp, .int .i64 t.wh, .int .i64 t.pl] 73)), y.w.cell? ⟨x.w.heap.size + 1, 2, none⟩ = some (.int .i64 t.s0) := fun y => Since.cell (by simp [go_sem]) (by first | (simp; done) | (simp; omega)) y
  have hb1_3 : ∀ y : Since ((x.w.alloc (.cells #[.int .i64 s.id, .int .i64 s.rd, .int .i64 s.s0, .int .i64 s.s1, .int .i64 s.e0, .int .i64 s.e1, .bool s.op, .slice s.la s.legs.length s.lc, .slice s.pa s.pauses.length s.pc, .int .i64 s.fw, .int .i64 s.fp, .int .i64 s.wh, .int .i64 s.pl] 73)).alloc (.cells #[.int .i64 t.id, .int .i64 t.rd, .int .i64 t.s0, .int .i64 t.s1, .int .i64 t.e0, .int .i64 t.e1, .bool t.op, .slice t.la t.legs.length t.lc, .slice t.pa t.pauses.length t.pc, .int .i64 t.fw, .int .i64 t.fp, .int .i64 t.wh, .int .i64 t.pl] 73)), y.w.cell? ⟨x.w.heap.size + 1, 3, none⟩ = some (.int .i64 t.s1) := fun y => Since.cell (by simp [go_sem]) (by first | (simp; done) | (simp; omega)) y
  have hb1_4 : ∀ y : Since ((x.w.alloc (.cells #[.int .i64 s.id, .int .i64 s.rd, .int .i64 s.s0, .int .i64 s.s1, .int .i64 s.e0, .int .i64 s.e1, .bool s.op, .slice s.la s.legs.length s.lc, .slice s.pa s.pauses.length s.pc, .int .i64 s.fw, .int .i64 s.fp, .int .i64 s.wh, .int .i64 s.pl] 73)).alloc (.cells #[.int .i64 t.id, .int .i64 t.rd, .int .i64 t.s0, .int .i64 t.s1, .int .i64 t.e0, .int .i64 t.e1, .bool t.op, .slice t.la t.legs.length t.lc, .slice t.pa t.pauses.length t.pc, .int .i64 t.fw, .int .i64 t.fp, .int .i64 t.wh, .int .i64 t.pl] 73)), y.w.cell? ⟨x.w.heap.size + 1, 4, none⟩ = some (.int .i64 t.e0) := fun y => Since.cell (by simp [go_sem]) (by first | (simp; done) | (simp; omega)) y
  have hb1_5 : ∀ y : Since ((x.w.alloc (.cells #[.int .i64 s.id, .int .i64 s.rd, .int .i64 s.s0, .int .i64 s.s1, .int .i64 s.e0, .int .i64 s.e1, .bool s.op, .slice s.la s.legs.length s.lc, .slice s.pa s.pauses.length s.pc, .int .i64 s.fw, .int .i64 s.fp, .int .i64 s.wh, .int .i64 s.pl] 73)).alloc (.cells #[.int .i64 t.id, .int .i64 t.rd, .int .i64 t.s0, .int .i64 t.s1, .int .i64 t.e0, .int .i64 t.e1, .bool t.op, .slice t.la t.legs.length t.lc, .slice t.pa t.pauses.length t.pc, .int .i64 t.fw, .int .i64 t.fp, .int .i64 t.wh, .int .i64 t.pl] 73)), y.w.cell? ⟨x.w.heap.size + 1, 5, none⟩ = some (.int .i64 t.e1) := fun y => Since.cell (by simp [go_sem]) (by first | (simp; done) | (simp; omega)) y
  have hb1_6 : ∀ y : Since ((x.w.alloc (.cells #[.int .i64 s.id, .int .i64 s.rd, .int .i64 s.s0, .int .i64 s.s1, .int .i64 s.e0, .int .i64 s.e1, .bool s.op, .slice s.la s.legs.length s.lc, .slice s.pa s.pauses.length s.pc, .int .i64 s.fw, .int .i64 s.fp, .int .i64 s.wh, .int .i64 s.pl] 73)).alloc (.cells #[.int .i64 t.id, .int .i64 t.rd, .int .i64 t.s0, .int .i64 t.s1, .int .i64 t.e0, .int .i64 t.e1, .bool t.op, .slice t.la t.legs.length t.lc, .slice t.pa t.pauses.length t.pc, .int .i64 t.fw, .int .i64 t.fp, .int .i64 t.wh, .int .i64 t.pl] 73)), y.w.cell? ⟨x.w.heap.size + 1, 6, none⟩ = some (.bool t.op) := fun y => Since.cell (by simp [go_sem]) (by first | (simp; done) | (simp; omega)) y
  have hb1_7 : ∀ y : Since ((x.w.alloc (.cells #[.int .i64 s.id, .int .i64 s.rd, .int .i64 s.s0, .int .i64 s.s1, .int .i64 s.e0, .int .i64 s.e1, .bool s.op, .slice s.la s.legs.length s.lc, .slice s.pa s.pauses.length s.pc, .int .i64 s.fw, .int .i64 s.fp, .int .i64 s.wh, .int .i64 s.pl] 73)).alloc (.cells #[.int .i64 t.id, .int .i64 t.rd, .int .i64 t.s0, .int .i64 t.s1, .int .i64 t.e0, .int .i64 t.e1, .bool t.op, .slice t.la t.legs.length t.lc, .slice t.pa t.pauses.length t.pc, .int .i64 t.fw, .int .i64 t.fp, .int .i64 t.wh, .int .i64 t.pl] 73)), y.w.cell? ⟨x.w.heap.size + 1, 7, none⟩ = some (.slice t.la t.legs.length t.lc) := fun y => Since.cell (by simp [go_sem]) (by first | (simp; done) | (simp; omega)) y
  have hb1_8 : ∀ y : Since ((x.w.alloc (.cells #[.int .i64 s.id, .int .i64 s.rd, .int .i64 s.s0, .int .i64 s.s1, .int .i64 s.e0, .int .i64 s.e1, .bool s.op, .slice s.la s.legs.length s.lc, .slice s.pa s.pauses.length s.pc, .int .i64 s.fw, .int .i64 s.fp, .int .i64 s.wh, .int .i64 s.pl] 73)).alloc (.cells #[.int .i64 t.id, .int .i64 t.rd, .int .i64 t.s0, .int .i64 t.s1, .int .i64 t.e0, .int .i64 t.e1, .bool t.op, .slice t.la t.legs.length t.lc, .slice t.pa t.pauses.length t.pc, .int .i64 t.fw, .int .i64 t.fp, .int .i64 t.wh, .int .i64 t.pl] 73)), y.w.cell? ⟨x.w.heap.size + 1, 8, none⟩ = some (.slice t.pa t.pauses.length t.pc) := fun y => Since.cell (by simp [go_sem]) (by first | (simp; done) | (simp; omega)) y
  have hb1_9 : ∀ y : Since ((x.w.alloc (.cells #[.int .i64 s.id, .int .i64 s.rd, .int .i64 s.s0, .int .i64 s.s1, .int .i64 s.e0, .int .i64 s.e1, .bool s.op, .slice s.la s.legs.length s.lc, .slice s.pa s.pauses.length s.pc, .int .i64 s.fw, .int .i64 s.fp, .int .i64 s.wh, .int .i64 s.pl] 73)).alloc (.cells #[.int .i64 t.id, .int .i64 t.rd, .int .i64 t.s0, .int .i64 t.s1, .int .i64 t.e0, .int .i64 t.e1, .bool t.op, .slice t.la t.legs.length t.lc, .slice t.pa t.pauses.length t.pc, .int .i64 t.fw, .int .i64 t.fp, .int .i64 t.wh, .int .i64 t.pl] 73)), y.w.cell? ⟨x.w.heap.size + 1, 9, none⟩ = some (.int .i64 t.fw) := fun y => Since.cell (by simp [go_sem]) (by first | (simp; done) | (simp; omega)) y
  have hb1_10 : ∀ y : Since ((x.w.alloc (.cells #[.int .i64 s.id, .int .i64 s.rd, .int .i64 s.s0, .int .i64 s.s1, .int .i64 s.e0, .int .i64 s.e1, .bool s.op, .slice s.la s.legs.length s.lc, .slice s.pa s.pauses.length s.pc, .int .i64 s.fw, .int .i64 s.fp, .int .i64 s.wh, .int .i64 s.pl] 73)).alloc (.cells #[.int .i64 t.id, .int .i64 t.rd, .int .i64 t.s0, .int .i64 t.s1, .int .i64 t.e0, .int .i64 t.e1, .bool t.op, .slice t.la t.legs.length t.lc, .slice t.pa t.pauses.length t.pc, .int .i64 t.fw, .int .i64 t.fp, .int .i64 t.wh, .int .i64 t.pl] 73)), y.w.cell? ⟨x.w.heap.size + 1, 10, none⟩ = some (.int .i64 t.fp) := fun y => Since.cell (by simp [go_sem]) (by first | (simp; done) | (simp; omega)) y
  have hb1_11 : ∀ y : Since ((x.w.alloc (.cells #[.int .i64 s.id, .int .i64 s.rd, .int .i64 s.s0, .int .i64 s.s1, .int .i64 s.e0, .int .i64 s.e1, .bool s.op, .slice s.la s.legs.length s.lc, .slice s.pa s.pauses.length s.pc, .int .i64 s.fw, .int .i64 s.fp, .int .i64 s.wh, .int .i64 s.pl] 73)).alloc (.cells #[.int .i64 t.id, .int .i64 t.rd, .int .i64 t.s0, .int .i64 t.s1, .int .i64 t.e0, .int .i64 t.e1, .bool t.op, .slice t.la t.legs.length t.lc, .slice t.pa t.pauses.length t.pc, .int .i64 t.fw, .int .i64 t.fp, .int .i64 t.wh, .int .i64 t.pl] 73)), y.w.cell? ⟨x.w.heap.size + 1, 11, none⟩ = some (.int .i64 t.wh) := fun y => Since.cell (by simp [go_sem]) (by first | (simp; done) | (simp; omega)) y
  have hb1_12 : ∀ y : Since ((x.w.alloc (.cells #[.int .i64 s.id, .int .i64 s.rd, .int .i64 s.s0, .int .i64 s.s1, .int .i64 s.e0, .int .i64 s.e1, .bool s.op, .slice s.la s.legs.length s.lc, .slice s.pa s.pauses.length s.pc, .int .i64 s.fw, .int .i64 s.fp, .int .i64 s.wh, .int .i64 s.pl] 73)).alloc (.cells #[.int .i64 t.id, .int .i64 t.rd, .int .i64 t.s0, .int .i64 t.s1, .int .i64 t.e0, .int .i64 t.e1, .bool t.op, .slice t.la t.legs.length t.lc, .slice t.pa t.pauses.length t.pc, .int .i64 t.fw, .int .i64 t.fp, .int .i64 t.wh, .int .i64 t.pl] 73)), y.w.cell? ⟨x.w.heap.size + 1, 12, none⟩ = some (.int .i64 t.pl) := fun y => Since.cell (by simp [go_sem]) (by first | (simp; done) | (simp; omega)) y
  have hf1 : ∀ (y : Since ((x.w.alloc (.cells #[.int .i64 s.id, .int .i64 s.rd, .int .i64 s.s0, .int .i64 s.s1, .int .i64 s.e0, .int .i64 s.e1, .bool s.op, .slice s.la s.legs.length s.lc, .slice s.pa s.pauses.length s.pc, .int .i64 s.fw, .int .i64 s.fp, .int .i64 s.wh, .int .i64 s.pl] 73)).alloc (.cells #[.int .i64 t.id, .int .i64 t.rd, .int .i64 t.s0, .int .i64 t.s1, .int .i64 t.e0, .int .i64 t.e1, .bool t.op, .slice t.la t.legs.length t.lc, .slice t.pa t.pauses.length t.pc, .int .i64 t.fw, .int .i64 t.fp, .int .i64 t.wh, .int .i64 t.pl] 73))) (o : Nat), y.w.frozen? ⟨x.w.heap.size + 1, o, none⟩ = false := fun y o => Since.free (by simp [go_sem]) (by first | (simp; done) | (simp; omega)) y
  have hWup : ∃ z : Since w, ((x.w.alloc (.cells #[.int .i64 s.id, .int .i64 s.rd, .int .i64 s.s0, .int .i64 s.s1, .int .i64 s.e0, .int .i64 s.e1, .bool s.op, .slice s.la s.legs.length s.lc, .slice s.pa s.pauses.length s.pc, .int .i64 s.fw, .int .i64 s.fp, .int .i64 s.wh, .int .i64 s.pl] 73)).alloc (.cells #[.int .i64 t.id, .int .i64 t.rd, .int .i64 t.s0, .int .i64 t.s1, .int .i64 t.e0, .int .i64 t.e1, .bool t.op, .slice t.la t.legs.length t.lc, .slice t.pa t.pauses.length t.pc, .int .i64 t.fw, .int .i64 t.fp, .int .i64 t.wh, .int .i64 t.pl] 73)) = z.w := Since.allocs x [.cells #[.int .i64 s.id, .int .i64 s.rd, .int .i64 s.s0, .int .i64 s.s1, .int .i64 s.e0, .int .i64 s.e1, .bool s.op, .slice s.la s.legs.length s.lc, .slice s.pa s.pauses.length s.pc, .int .i64 s.fw, .int .i64 s.fp, .int .i64 s.wh, .int .i64 s.pl] 73, .cells #[.int .i64 t.id, .int .i64 t.rd, .int .i64 t.s0, .int .i64 t.s1, .int .i64 t.e0, .int .i64 t.e1, .bool t.op, .slice t.la t.legs.length t.lc, .slice t.pa t.pauses.length t.pc, .int .i64 t.fw, .int .i64 t.fp, .int .i64 t.wh, .int .i64 t.pl] 73]
  obtain ⟨y0, hy0⟩ := Since.refl ((x.w.alloc (.cells #[.int .i64 s.id, .int .i64 s.rd, .int .i64 s.s0, .int .i64 s.s1, .int .i64 s.e0, .int .i64 s.e1, .bool s.op, .slice s.la s.legs.length s.lc, .slice s.pa s.pauses.length s.pc, .int .i64 s.fw, .int .i64 s.fp, .int .i64 s.wh, .int .i64 s.pl] 73)).alloc (.cells #[.int .i64 t.id, .int .i64 t.rd, .int .i64 t.s0, .int .i64 t.s1, .int .i64 t.e0, .int .i64 t.e1, .bool t.op, .slice t.la t.legs.length t.lc, .slice t.pa t.pauses.length t.pc, .int .i64 t.fw, .int .i64 t.fp, .int .i64 t.wh, .int .i64 t.pl] 73))
  have Hbx := Lib.hid (And.intro x.b.size (show x.w.heap.size + 2 = ((x.w.alloc (.cells #[.int .i64 s.id, .int .i64 s.rd, .int .i64 s.s0, .int .i64 s.s1, .int .i64 s.e0, .int .i64 s.e1, .bool s.op, .slice s.la s.legs.length s.lc, .slice s.pa s.pauses.length s.pc, .int .i64 s.fw, .int .i64 s.fp, .int .i64 s.wh, .int .i64 s.pl] 73)).alloc (.cells #[.int .i64 t.id, .int .i64 t.rd, .int .i64 t.s0, .int .i64 t.s1, .int .i64 t.e0, .int .i64 t.e1, .bool t.op, .slice t.la t.legs.length t.lc, .slice t.pa t.pauses.length t.pc, .int .i64 t.fw, .int .i64 t.fp, .int .i64 t.wh, .int .i64 t.pl] 73)).heap.size from by simp))
  generalize hW : ((x.w.alloc (.cells #[.int .i64 s.id, .int .i64 s.rd, .int .i64 s.s0, .int .i64 s.s1, .int .i64 s.e0, .int .i64 s.e1, .bool s.op, .slice s.la s.legs.length s.lc, .slice s.pa s.pauses.length s.pc, .int .i64 s.fw, .int .i64 s.fp, .int .i64 s.wh, .int .i64 s.pl] 73)).alloc (.cells #[.int .i64 t.id, .int .i64 t.rd, .int .i64 t.s0, .int .i64 t.s1, .int .i64 t.e0, .int .i64 t.e1, .bool t.op, .slice t.la t.legs.length t.lc, .slice t.pa t.pauses.length t.pc, .int .i64 t.fw, .int .i64 t.fp, .int .i64 t.wh, .int .i64 t.pl] 73)) = W at *
  clear hW
  generalize x.w.heap.size = bx at *
  have Hup := Lib.hid (Since.up hWup)
  rw [hy0]
  clear hy0
  clear hWup
  clear hb0_1 hb0_3 hb0_4 hb0_5 hb0_6 hb0_7 hb0_8 hb0_9 hb0_10 hb0_11 hb0_12 hb1_1 hb1_3 hb1_4 hb1_5 hb1_6 hb1_7 hb1_8 hb1_9 hb1_10 hb1_11 hb1_12 hf0 hf1
  have hc : (s.s0 < t.s0) ∨ (¬ s.s0 < t.s0 ∧ (s.s0 == t.s0) = false) ∨ (¬ s.s0 < t.s0 ∧ (s.s0 == t.s0) = true ∧ s.id < t.id) ∨ (¬ s.s0 < t.s0 ∧ (s.s0 == t.s0) = true ∧ ¬ s.id < t.id) := by
    by_cases h1 : s.s0 < t.s0
    · exact Or.inl h1
    · by_cases h2 : s.s0 = t.s0
      · have h3 : (s.s0 == t.s0) = true := by simpa using h2
        by_cases h4 : s.id < t.id
        · exact Or.inr (Or.inr (Or.inl ⟨h1, h3, h4⟩))
        · exact Or.inr (Or.inr (Or.inr ⟨h1, h3, h4⟩))
      · exact Or.inr (Or.inl ⟨h1, by simpa using h2⟩)
  have Hc := Lib.hid (show (s.s0 < t.s0 ∨ (s.s0 == t.s0) = true ∧ s.id < t.id) ↔ bf s t = true by rw [Hi.out]; simp)
  clear Hi
  rcases hc with h | ⟨h, h2⟩ | ⟨h, h2, h3⟩ | ⟨h, h2, h3⟩
  · have HB := Lib.hid (Hp.out true (Hc.out.1 (Or.inl h)))
    clear Hc
    go_wp2_with fail
    obtain ⟨z, hz⟩ := Hup.out y0
    rw [hz]
    exact HB.out z
  · have HB := Lib.hid (Hp.out false (by cases hb : bf s t; rfl; have := Hc.out.2 hb; rw [h2] at this; simp at this; omega))
    clear Hc
    go_wp2_with fail
    obtain ⟨z, hz⟩ := Hup.out y0
    rw [hz]
    exact HB.out z
  · have HB := Lib.hid (Hp.out true (Hc.out.1 (Or.inr ⟨h2, h3⟩)))
    clear Hc
    go_wp2_with fail
    obtain ⟨z, hz⟩ := Hup.out y0
    rw [hz]
    exact HB.out z
  · have HB := Lib.hid (Hp.out false (by cases hb : bf s t; rfl; have := Hc.out.2 hb; omega))
    clear Hc
    go_wp2_with fail
    obtain ⟨z, hz⟩ := Hup.out y0
    rw [hz]
    exact HB.out z
/-- which rides come before x -/
def aP (x r : Ride) : Bool := ofK (key x) r && bf r x
theorem ahd_aP (R : List Ride) (x : Ride) : (ahd R x : Int) = ((R.filter (aP x)).length : Nat) := rfl
theorem aP_no {x r : Ride} (h : r.op = true ∨ r.rd ≠ x.rd ∨ r.s0 / 86400 ≠ x.s0 / 86400) : aP x r = false := by
  unfold aP ofK key
  rcases h with h | h | h
  · simp [h]
  · simp [h]
  · have : ¬ day r = day x := h
    simp [this]
theorem aP_yes {x r : Ride} (h1 : r.op = false) (h2 : r.rd = x.rd) (h3 : r.s0 / 86400 = x.s0 / 86400) : aP x r = bf r x := by
  unfold aP ofK key
  have : day r = day x := h3
  simp [h1, h2, this]
def OneI (w : World) (n : Int) (o : Ending) (w' : World) : Prop := o = .returned (.int .i64 n) ∧ ∃ y : Since w, w' = y.w
theorem filter_len (R : List Ride) (p : Ride → Bool) (k : Nat) : ((R.take k).filter p).length ≤ R.length := Nat.le_trans (List.length_filter_le _ _) (by rw [List.length_take]; omega)
set_option maxRecDepth 100000 in
set_option maxHeartbeats 8000000 in
theorem ahead_calls (w : World) (x : Since w) (a : Option Addr) (R : List Ride) (c : Nat) (e : Ride) (h : RideRow w a R) (hl : R.length ≤ 256) (hs : ∀ r ∈ R, 0 ≤ r.s0 ∧ r.s0 ≤ 4294943999) (he : 0 ≤ e.s0 ∧ e.s0 ≤ 4294943999) :
    Calls Tryd.prog 93 #[.slice a R.length c, .agg #[.int .i64 e.id, .int .i64 e.rd, .int .i64 e.s0, .int .i64 e.s1, .int .i64 e.e0, .int .i64 e.e1, .bool e.op, .slice e.la e.legs.length e.lc, .slice e.pa e.pauses.length e.pc, .int .i64 e.fw, .int .i64 e.fp, .int .i64 e.wh, .int .i64 e.pl]] x.w (OneI w (ahd R e)) := by
  have HR := Lib.hid h
  have Hs := Lib.hid hs
  rw [ahd_aP]
  obtain ⟨he0, he1⟩ := he
  clear h hs
  go_enter Tryd.func93, Tryd.ntmps93
  go_upto_region 1 with fail
  have hb0_0 : ∀ y : Since (x.w.alloc (.cells #[.int .i64 e.id, .int .i64 e.rd, .int .i64 e.s0, .int .i64 e.s1, .int .i64 e.e0, .int .i64 e.e1, .bool e.op, .slice e.la e.legs.length e.lc, .slice e.pa e.pauses.length e.pc, .int .i64 e.fw, .int .i64 e.fp, .int .i64 e.wh, .int .i64 e.pl] 73)), y.w.cell? ⟨x.w.heap.size, 0, none⟩ = some (.int .i64 e.id) := fun y => Since.cell (by simp [go_sem]) (by first | (simp; done) | (simp; omega)) y
  have hb0_1 : ∀ y : Since (x.w.alloc (.cells #[.int .i64 e.id, .int .i64 e.rd, .int .i64 e.s0, .int .i64 e.s1, .int .i64 e.e0, .int .i64 e.e1, .bool e.op, .slice e.la e.legs.length e.lc, .slice e.pa e.pauses.length e.pc, .int .i64 e.fw, .int .i64 e.fp, .int .i64 e.wh, .int .i64 e.pl] 73)), y.w.cell? ⟨x.w.heap.size, 1, none⟩ = some (.int .i64 e.rd) := fun y => Since.cell (by simp [go_sem]) (by first | (simp; done) | (simp; omega)) y
  have hb0_2 : ∀ y : Since (x.w.alloc (.cells #[.int .i64 e.id, .int .i64 e.rd, .int .i64 e.s0, .int .i64 e.s1, .int .i64 e.e0, .int .i64 e.e1, .bool e.op, .slice e.la e.legs.length e.lc, .slice e.pa e.pauses.length e.pc, .int .i64 e.fw, .int .i64 e.fp, .int .i64 e.wh, .int .i64 e.pl] 73)), y.w.cell? ⟨x.w.heap.size, 2, none⟩ = some (.int .i64 e.s0) := fun y => Since.cell (by simp [go_sem]) (by first | (simp; done) | (simp; omega)) y
  have hb0_3 : ∀ y : Since (x.w.alloc (.cells #[.int .i64 e.id, .int .i64 e.rd, .int .i64 e.s0, .int .i64 e.s1, .int .i64 e.e0, .int .i64 e.e1, .bool e.op, .slice e.la e.legs.length e.lc, .slice e.pa e.pauses.length e.pc, .int .i64 e.fw, .int .i64 e.fp, .int .i64 e.wh, .int .i64 e.pl] 73)), y.w.cell? ⟨x.w.heap.size, 3, none⟩ = some (.int .i64 e.s1) := fun y => Since.cell (by simp [go_sem]) (by first | (simp; done) | (simp; omega)) y
  have hb0_4 : ∀ y : Since (x.w.alloc (.cells #[.int .i64 e.id, .int .i64 e.rd, .int .i64 e.s0, .int .i64 e.s1, .int .i64 e.e0, .int .i64 e.e1, .bool e.op, .slice e.la e.legs.length e.lc, .slice e.pa e.pauses.length e.pc, .int .i64 e.fw, .int .i64 e.fp, .int .i64 e.wh, .int .i64 e.pl] 73)), y.w.cell? ⟨x.w.heap.size, 4, none⟩ = some (.int .i64 e.e0) := fun y => Since.cell (by simp [go_sem]) (by first | (simp; done) | (simp; omega)) y
  have hb0_5 : ∀ y : Since (x.w.alloc (.cells #[.int .i64 e.id, .int .i64 e.rd, .int .i64 e.s0, .int .i64 e.s1, .int .i64 e.e0, .int .i64 e.e1, .bool e.op, .slice e.la e.legs.length e.lc, .slice e.pa e.pauses.length e.pc, .int .i64 e.fw, .int .i64 e.fp, .int .i64 e.wh, .int .i64 e.pl] 73)), y.w.cell? ⟨x.w.heap.size, 5, none⟩ = some (.int .i64 e.e1) := fun y => Since.cell (by simp [go_sem]) (by first | (simp; done) | (simp; omega)) y
  have hb0_6 : ∀ y : Since (x.w.alloc (.cells #[.int .i64 e.id, .int .i64 e.rd, .int .i64 e.s0, .int .i64 e.s1, .int .i64 e.e0, .int .i64 e.e1, .bool e.op, .slice e.la e.legs.length e.lc, .slice e.pa e.pauses.length e.pc, .int .i64 e.fw, .int .i64 e.fp, .int .i64 e.wh, .int .i64 e.pl] 73)), y.w.cell? ⟨x.w.heap.size, 6, none⟩ = some (.bool e.op) := fun y => Since.cell (by simp [go_sem]) (by first | (simp; done) | (simp; omega)) y
  have hb0_7 : ∀ y : Since (x.w.alloc (.cells #[.int .i64 e.id, .int .i64 e.rd, .int .i64 e.s0, .int .i64 e.s1, .int .i64 e.e0, .int .i64 e.e1, .bool e.op, .slice e.la e.legs.length e.lc, .slice e.pa e.pauses.length e.pc, .int .i64 e.fw, .int .i64 e.fp, .int .i64 e.wh, .int .i64 e.pl] 73)), y.w.cell? ⟨x.w.heap.size, 7, none⟩ = some (.slice e.la e.legs.length e.lc) := fun y => Since.cell (by simp [go_sem]) (by first | (simp; done) | (simp; omega)) y
  have hb0_8 : ∀ y : Since (x.w.alloc (.cells #[.int .i64 e.id, .int .i64 e.rd, .int .i64 e.s0, .int .i64 e.s1, .int .i64 e.e0, .int .i64 e.e1, .bool e.op, .slice e.la e.legs.length e.lc, .slice e.pa e.pauses.length e.pc, .int .i64 e.fw, .int .i64 e.fp, .int .i64 e.wh, .int .i64 e.pl] 73)), y.w.cell? ⟨x.w.heap.size, 8, none⟩ = some (.slice e.pa e.pauses.length e.pc) := fun y => Since.cell (by simp [go_sem]) (by first | (simp; done) | (simp; omega)) y
  have hb0_9 : ∀ y : Since (x.w.alloc (.cells #[.int .i64 e.id, .int .i64 e.rd, .int .i64 e.s0, .int .i64 e.s1, .int .i64 e.e0, .int .i64 e.e1, .bool e.op, .slice e.la e.legs.length e.lc, .slice e.pa e.pauses.length e.pc, .int .i64 e.fw, .int .i64 e.fp, .int .i64 e.wh, .int .i64 e.pl] 73)), y.w.cell? ⟨x.w.heap.size, 9, none⟩ = some (.int .i64 e.fw) := fun y => Since.cell (by simp [go_sem]) (by first | (simp; done) | (simp; omega)) y
  have hb0_10 : ∀ y : Since (x.w.alloc (.cells #[.int .i64 e.id, .int .i64 e.rd, .int .i64 e.s0, .int .i64 e.s1, .int .i64 e.e0, .int .i64 e.e1, .bool e.op, .slice e.la e.legs.length e.lc, .slice e.pa e.pauses.length e.pc, .int .i64 e.fw, .int .i64 e.fp, .int .i64 e.wh, .int .i64 e.pl] 73)), y.w.cell? ⟨x.w.heap.size, 10, none⟩ = some (.int .i64 e.fp) := fun y => Since.cell (by simp [go_sem]) (by first | (simp; done) | (simp; omega)) y
  have hb0_11 : ∀ y : Since (x.w.alloc (.cells #[.int .i64 e.id, .int .i64 e.rd, .int .i64 e.s0, .int .i64 e.s1, .int .i64 e.e0, .int .i64 e.e1, .bool e.op, .slice e.la e.legs.length e.lc, .slice e.pa e.pauses.length e.pc, .int .i64 e.fw, .int .i64 e.fp, .int .i64 e.wh, .int .i64 e.pl] 73)), y.w.cell? ⟨x.w.heap.size, 11, none⟩ = some (.int .i64 e.wh) := fun y => Since.cell (by simp [go_sem]) (by first | (simp; done) | (simp; omega)) y
  have hb0_12 : ∀ y : Since (x.w.alloc (.cells #[.int .i64 e.id, .int .i64 e.rd, .int .i64 e.s0, .int .i64 e.s1, .int .i64 e.e0, .int .i64 e.e1, .bool e.op, .slice e.la e.legs.length e.lc, .slice e.pa e.pauses.length e.pc, .int .i64 e.fw, .int .i64 e.fp, .int .i64 e.wh, .int .i64 e.pl] 73)), y.w.cell? ⟨x.w.heap.size, 12, none⟩ = some (.int .i64 e.pl) := fun y => Since.cell (by simp [go_sem]) (by first | (simp; done) | (simp; omega)) y
  have hf0 : ∀ (y : Since (x.w.alloc (.cells #[.int .i64 e.id, .int .i64 e.rd, .int .i64 e.s0, .int .i64 e.s1, .int .i64 e.e0, .int .i64 e.e1, .bool e.op, .slice e.la e.legs.length e.lc, .slice e.pa e.pauses.length e.pc, .int .i64 e.fw, .int .i64 e.fp, .int .i64 e.wh, .int .i64 e.pl] 73))) (o : Nat), y.w.frozen? ⟨x.w.heap.size, o, none⟩ = false := fun y o => Since.free (by simp [go_sem]) (by first | (simp; done) | (simp; omega)) y
  have hWup : ∃ z : Since w, (x.w.alloc (.cells #[.int .i64 e.id, .int .i64 e.rd, .int .i64 e.s0, .int .i64 e.s1, .int .i64 e.e0, .int .i64 e.e1, .bool e.op, .slice e.la e.legs.length e.lc, .slice e.pa e.pauses.length e.pc, .int .i64 e.fw, .int .i64 e.fp, .int .i64 e.wh, .int .i64 e.pl] 73)) = z.w := x.alloc _
  obtain ⟨y0, hy0⟩ := Since.refl (x.w.alloc (.cells #[.int .i64 e.id, .int .i64 e.rd, .int .i64 e.s0, .int .i64 e.s1, .int .i64 e.e0, .int .i64 e.e1, .bool e.op, .slice e.la e.legs.length e.lc, .slice e.pa e.pauses.length e.pc, .int .i64 e.fw, .int .i64 e.fp, .int .i64 e.wh, .int .i64 e.pl] 73))
  have Hbx := Lib.hid (And.intro x.b.size (show x.w.heap.size + 1 = (x.w.alloc (.cells #[.int .i64 e.id, .int .i64 e.rd, .int .i64 e.s0, .int .i64 e.s1, .int .i64 e.e0, .int .i64 e.e1, .bool e.op, .slice e.la e.legs.length e.lc, .slice e.pa e.pauses.length e.pc, .int .i64 e.fw, .int .i64 e.fp, .int .i64 e.wh, .int .i64 e.pl] 73)).heap.size from by simp))
  generalize hW : (x.w.alloc (.cells #[.int .i64 e.id, .int .i64 e.rd, .int .i64 e.s0, .int .i64 e.s1, .int .i64 e.e0, .int .i64 e.e1, .bool e.op, .slice e.la e.legs.length e.lc, .slice e.pa e.pauses.length e.pc, .int .i64 e.fw, .int .i64 e.fp, .int .i64 e.wh, .int .i64 e.pl] 73)) = W at *
  clear hW
  generalize x.w.heap.size = bx at *
  have Hup := Lib.hid (Since.up hWup)
  rw [hy0]
  clear hy0
  replace HR := Lib.hid (HR.out.to hWup)
  clear hWup hf0
  go_wp2_with fail
  go_loopw [5, 6] (fun nv i wr => ∃ (k m : Nat) (y : Since W), k ≤ R.length ∧ i = .int .i64 (k : Int) ∧ nv = .int .i64 (m : Int) ∧ wr = y.w ∧ m = ((R.take k).filter (aP e)).length ∧ m ≤ k) (fun _ i _ => R.length - (intOf i).toNat)
  case atStart => exact ⟨0, 0, y0, by omega, rfl, rfl, rfl, rfl, by omega⟩
  case round =>
    obtain ⟨k, m, y, hk, rfl, rfl, rfl, hm, hmk⟩ := hrel
    have Hm := Lib.hid hm
    clear hm
    by_cases hlt : k < R.length
    · obtain ⟨r, hr⟩ : ∃ r, R[k]? = some r := ⟨_, List.getElem?_eq_getElem hlt⟩
      have hk0 : (0 : Int) ≤ (k : Int) := by omega
      have hkl : (k : Int) < (R.length : Int) := by omega
      have Htk := Lib.hid (pick_take R (aP e) k r hr)
      obtain ⟨hs0, hs1⟩ := Hs.out r (List.mem_of_getElem? hr)
      obtain ⟨b1, off1, rfl, h1'⟩ := Els.ride HR.out.c hr
      have ra0 := h1'.c0
      have ra1 := h1'.c1
      have ra2 := h1'.c2
      have ra3 := h1'.c3
      have ra4 := h1'.c4
      have ra5 := h1'.c5
      have ra6 := h1'.c6
      have ra7 := h1'.c7
      have ra8 := h1'.c8
      have ra9 := h1'.c9
      have ra10 := h1'.c10
      have ra11 := h1'.c11
      have ra12 := h1'.c12
      clear h1' hr
      go_upto_region 6 with fail
      have hx0 : (y.w.alloc (.cells #[.int .i64 r.id, .int .i64 r.rd, .int .i64 r.s0, .int .i64 r.s1, .int .i64 r.e0, .int .i64 r.e1, .bool r.op, .slice r.la r.legs.length r.lc, .slice r.pa r.pauses.length r.pc, .int .i64 r.fw, .int .i64 r.fp, .int .i64 r.wh, .int .i64 r.pl] 73)).cell? ⟨y.w.heap.size, 0, none⟩ = some (.int .i64 r.id) := by simp [go_sem]
      have hx1 : (y.w.alloc (.cells #[.int .i64 r.id, .int .i64 r.rd, .int .i64 r.s0, .int .i64 r.s1, .int .i64 r.e0, .int .i64 r.e1, .bool r.op, .slice r.la r.legs.length r.lc, .slice r.pa r.pauses.length r.pc, .int .i64 r.fw, .int .i64 r.fp, .int .i64 r.wh, .int .i64 r.pl] 73)).cell? ⟨y.w.heap.size, 1, none⟩ = some (.int .i64 r.rd) := by simp [go_sem]
      have hx2 : (y.w.alloc (.cells #[.int .i64 r.id, .int .i64 r.rd, .int .i64 r.s0, .int .i64 r.s1, .int .i64 r.e0, .int .i64 r.e1, .bool r.op, .slice r.la r.legs.length r.lc, .slice r.pa r.pauses.length r.pc, .int .i64 r.fw, .int .i64 r.fp, .int .i64 r.wh, .int .i64 r.pl] 73)).cell? ⟨y.w.heap.size, 2, none⟩ = some (.int .i64 r.s0) := by simp [go_sem]
      have hx3 : (y.w.alloc (.cells #[.int .i64 r.id, .int .i64 r.rd, .int .i64 r.s0, .int .i64 r.s1, .int .i64 r.e0, .int .i64 r.e1, .bool r.op, .slice r.la r.legs.length r.lc, .slice r.pa r.pauses.length r.pc, .int .i64 r.fw, .int .i64 r.fp, .int .i64 r.wh, .int .i64 r.pl] 73)).cell? ⟨y.w.heap.size, 3, none⟩ = some (.int .i64 r.s1) := by simp [go_sem]
      have hx4 : (y.w.alloc (.cells #[.int .i64 r.id, .int .i64 r.rd, .int .i64 r.s0, .int .i64 r.s1, .int .i64 r.e0, .int .i64 r.e1, .bool r.op, .slice r.la r.legs.length r.lc, .slice r.pa r.pauses.length r.pc, .int .i64 r.fw, .int .i64 r.fp, .int .i64 r.wh, .int .i64 r.pl] 73)).cell? ⟨y.w.heap.size, 4, none⟩ = some (.int .i64 r.e0) := by simp [go_sem]
      have hx5 : (y.w.alloc (.cells #[.int .i64 r.id, .int .i64 r.rd, .int .i64 r.s0, .int .i64 r.s1, .int .i64 r.e0, .int .i64 r.e1, .bool r.op, .slice r.la r.legs.length r.lc, .slice r.pa r.pauses.length r.pc, .int .i64 r.fw, .int .i64 r.fp, .int .i64 r.wh, .int .i64 r.pl] 73)).cell? ⟨y.w.heap.size, 5, none⟩ = some (.int .i64 r.e1) := by simp [go_sem]
      have hx6 : (y.w.alloc (.cells #[.int .i64 r.id, .int .i64 r.rd, .int .i64 r.s0, .int .i64 r.s1, .int .i64 r.e0, .int .i64 r.e1, .bool r.op, .slice r.la r.legs.length r.lc, .slice r.pa r.pauses.length r.pc, .int .i64 r.fw, .int .i64 r.fp, .int .i64 r.wh, .int .i64 r.pl] 73)).cell? ⟨y.w.heap.size, 6, none⟩ = some (.bool r.op) := by simp [go_sem]
      have hx7 : (y.w.alloc (.cells #[.int .i64 r.id, .int .i64 r.rd, .int .i64 r.s0, .int .i64 r.s1, .int .i64 r.e0, .int .i64 r.e1, .bool r.op, .slice r.la r.legs.length r.lc, .slice r.pa r.pauses.length r.pc, .int .i64 r.fw, .int .i64 r.fp, .int .i64 r.wh, .int .i64 r.pl] 73)).cell? ⟨y.w.heap.size, 7, none⟩ = some (.slice r.la r.legs.length r.lc) := by simp [go_sem]
      have hx8 : (y.w.alloc (.cells #[.int .i64 r.id, .int .i64 r.rd, .int .i64 r.s0, .int .i64 r.s1, .int .i64 r.e0, .int .i64 r.e1, .bool r.op, .slice r.la r.legs.length r.lc, .slice r.pa r.pauses.length r.pc, .int .i64 r.fw, .int .i64 r.fp, .int .i64 r.wh, .int .i64 r.pl] 73)).cell? ⟨y.w.heap.size, 8, none⟩ = some (.slice r.pa r.pauses.length r.pc) := by simp [go_sem]
      have hx9 : (y.w.alloc (.cells #[.int .i64 r.id, .int .i64 r.rd, .int .i64 r.s0, .int .i64 r.s1, .int .i64 r.e0, .int .i64 r.e1, .bool r.op, .slice r.la r.legs.length r.lc, .slice r.pa r.pauses.length r.pc, .int .i64 r.fw, .int .i64 r.fp, .int .i64 r.wh, .int .i64 r.pl] 73)).cell? ⟨y.w.heap.size, 9, none⟩ = some (.int .i64 r.fw) := by simp [go_sem]
      have hx10 : (y.w.alloc (.cells #[.int .i64 r.id, .int .i64 r.rd, .int .i64 r.s0, .int .i64 r.s1, .int .i64 r.e0, .int .i64 r.e1, .bool r.op, .slice r.la r.legs.length r.lc, .slice r.pa r.pauses.length r.pc, .int .i64 r.fw, .int .i64 r.fp, .int .i64 r.wh, .int .i64 r.pl] 73)).cell? ⟨y.w.heap.size, 10, none⟩ = some (.int .i64 r.fp) := by simp [go_sem]
      have hx11 : (y.w.alloc (.cells #[.int .i64 r.id, .int .i64 r.rd, .int .i64 r.s0, .int .i64 r.s1, .int .i64 r.e0, .int .i64 r.e1, .bool r.op, .slice r.la r.legs.length r.lc, .slice r.pa r.pauses.length r.pc, .int .i64 r.fw, .int .i64 r.fp, .int .i64 r.wh, .int .i64 r.pl] 73)).cell? ⟨y.w.heap.size, 11, none⟩ = some (.int .i64 r.wh) := by simp [go_sem]
      have hx12 : (y.w.alloc (.cells #[.int .i64 r.id, .int .i64 r.rd, .int .i64 r.s0, .int .i64 r.s1, .int .i64 r.e0, .int .i64 r.e1, .bool r.op, .slice r.la r.legs.length r.lc, .slice r.pa r.pauses.length r.pc, .int .i64 r.fw, .int .i64 r.fp, .int .i64 r.wh, .int .i64 r.pl] 73)).cell? ⟨y.w.heap.size, 12, none⟩ = some (.int .i64 r.pl) := by simp [go_sem]
      have hxf : ∀ o, (y.w.alloc (.cells #[.int .i64 r.id, .int .i64 r.rd, .int .i64 r.s0, .int .i64 r.s1, .int .i64 r.e0, .int .i64 r.e1, .bool r.op, .slice r.la r.legs.length r.lc, .slice r.pa r.pauses.length r.pc, .int .i64 r.fw, .int .i64 r.fp, .int .i64 r.wh, .int .i64 r.pl] 73)).frozen? ⟨y.w.heap.size, o, none⟩ = false := fun o => by simp [go_sem]
      have hlt0 : y.w.heap.size < (y.w.alloc (.cells #[.int .i64 r.id, .int .i64 r.rd, .int .i64 r.s0, .int .i64 r.s1, .int .i64 r.e0, .int .i64 r.e1, .bool r.op, .slice r.la r.legs.length r.lc, .slice r.pa r.pauses.length r.pc, .int .i64 r.fw, .int .i64 r.fp, .int .i64 r.wh, .int .i64 r.pl] 73)).heap.size := by simp
      have hst0 : ∃ zz : Since y.w, (y.w.alloc (.cells #[.int .i64 r.id, .int .i64 r.rd, .int .i64 r.s0, .int .i64 r.s1, .int .i64 r.e0, .int .i64 r.e1, .bool r.op, .slice r.la r.legs.length r.lc, .slice r.pa r.pauses.length r.pc, .int .i64 r.fw, .int .i64 r.fp, .int .i64 r.wh, .int .i64 r.pl] 73)) = zz.w := IsSince.alloc (IsSince.self _) _
      have hsz0 := y.b.size
      obtain ⟨y5, e2⟩ := IsSince.alloc (IsSince.of y) (.cells #[.int .i64 r.id, .int .i64 r.rd, .int .i64 r.s0, .int .i64 r.s1, .int .i64 r.e0, .int .i64 r.e1, .bool r.op, .slice r.la r.legs.length r.lc, .slice r.pa r.pauses.length r.pc, .int .i64 r.fw, .int .i64 r.fp, .int .i64 r.wh, .int .i64 r.pl] 73)
      rw [e2] at hx0 hx1 hx2 hx3 hx4 hx5 hx6 hx7 hx8 hx9 hx10 hx11 hx12 hxf hlt0 hst0 ⊢
      skip
      clear e2 hst0
      generalize y.w.heap.size = gr at *
      have Hhx0 : ∀ q : Since y5.w, q.w.cell? ⟨gr, 0, none⟩ = some (.int .i64 r.id) := fun q => Since.cell hx0 (by omega) q
      have Hhx1 : ∀ q : Since y5.w, q.w.cell? ⟨gr, 1, none⟩ = some (.int .i64 r.rd) := fun q => Since.cell hx1 (by omega) q
      have Hhx2 : ∀ q : Since y5.w, q.w.cell? ⟨gr, 2, none⟩ = some (.int .i64 r.s0) := fun q => Since.cell hx2 (by omega) q
      have Hhx3 : ∀ q : Since y5.w, q.w.cell? ⟨gr, 3, none⟩ = some (.int .i64 r.s1) := fun q => Since.cell hx3 (by omega) q
      have Hhx4 : ∀ q : Since y5.w, q.w.cell? ⟨gr, 4, none⟩ = some (.int .i64 r.e0) := fun q => Since.cell hx4 (by omega) q
      have Hhx5 : ∀ q : Since y5.w, q.w.cell? ⟨gr, 5, none⟩ = some (.int .i64 r.e1) := fun q => Since.cell hx5 (by omega) q
      have Hhx6 : ∀ q : Since y5.w, q.w.cell? ⟨gr, 6, none⟩ = some (.bool r.op) := fun q => Since.cell hx6 (by omega) q
      have Hhx7 : ∀ q : Since y5.w, q.w.cell? ⟨gr, 7, none⟩ = some (.slice r.la r.legs.length r.lc) := fun q => Since.cell hx7 (by omega) q
      have Hhx8 : ∀ q : Since y5.w, q.w.cell? ⟨gr, 8, none⟩ = some (.slice r.pa r.pauses.length r.pc) := fun q => Since.cell hx8 (by omega) q
      have Hhx9 : ∀ q : Since y5.w, q.w.cell? ⟨gr, 9, none⟩ = some (.int .i64 r.fw) := fun q => Since.cell hx9 (by omega) q
      have Hhx10 : ∀ q : Since y5.w, q.w.cell? ⟨gr, 10, none⟩ = some (.int .i64 r.fp) := fun q => Since.cell hx10 (by omega) q
      have Hhx11 : ∀ q : Since y5.w, q.w.cell? ⟨gr, 11, none⟩ = some (.int .i64 r.wh) := fun q => Since.cell hx11 (by omega) q
      have Hhx12 : ∀ q : Since y5.w, q.w.cell? ⟨gr, 12, none⟩ = some (.int .i64 r.pl) := fun q => Since.cell hx12 (by omega) q
      have Hhxf : ∀ (q : Since y5.w) (o : Nat), q.w.frozen? ⟨gr, o, none⟩ = false := fun q o => Since.free (hxf o) (by omega) q
      have Hhxg := Lib.hid (And.intro hsz0 hlt0)
      clear hlt0 hsz0
      have Hbf := Lib.hid (show Calls Tryd.prog 113 #[.agg #[.int .i64 r.id, .int .i64 r.rd, .int .i64 r.s0, .int .i64 r.s1, .int .i64 r.e0, .int .i64 r.e1, .bool r.op, .slice r.la r.legs.length r.lc, .slice r.pa r.pauses.length r.pc, .int .i64 r.fw, .int .i64 r.fp, .int .i64 r.wh, .int .i64 r.pl], .agg #[.int .i64 e.id, .int .i64 e.rd, .int .i64 e.s0, .int .i64 e.s1, .int .i64 e.e0, .int .i64 e.e1, .bool e.op, .slice e.la e.legs.length e.lc, .slice e.pa e.pauses.length e.pc, .int .i64 e.fw, .int .i64 e.fp, .int .i64 e.wh, .int .i64 e.pl]] y5.w (OneB y5.w (bf r e)) from before_calls y5.w (Since.self y5.w) r e)
      clear Hhx0 Hhx1 Hhx2 Hhx3 Hhx4 Hhx5 Hhx6 Hhx7 Hhx8 Hhx9 Hhx10 Hhx11 Hhx12 Hhxf ra0 ra1 ra2 ra3 ra4 ra5 ra6 ra7 ra8 ra9 ra10 ra11 ra12
      have Hno := Lib.hid (fun (h : aP e r = false) => show m = ((R.take (k + 1)).filter (aP e)).length by rw [Htk.out, h, Hm.out]; simp)
      have Hye := Lib.hid (fun (h : aP e r = true) => show m + 1 = ((R.take (k + 1)).filter (aP e)).length by rw [Htk.out, h, Hm.out]; simp)
      clear Htk
      have hc : r.op = true ∨ (r.op = false ∧ (r.rd == e.rd) = false) ∨ (r.op = false ∧ (r.rd == e.rd) = true ∧ (r.s0 / 86400 == e.s0 / 86400) = false) ∨ (r.op = false ∧ (r.rd == e.rd) = true ∧ (r.s0 / 86400 == e.s0 / 86400) = true) := by
        cases r.op <;> cases (r.rd == e.rd) <;> cases (r.s0 / 86400 == e.s0 / 86400) <;> simp
      rcases hc with c1 | ⟨c1, c2⟩ | ⟨c1, c2, c3⟩ | ⟨c1, c2, c3⟩
      · have Hn2 := Lib.hid (Hno.out (aP_no (Or.inl c1)))
        rw [c1] at hx6
        clear Hno Hye Hbf c1
        go_wp2_with fail
        go_roundw
        case rel => exact ⟨k + 1, m, y5, by omega, by go_num, rfl, rfl, Hn2.out, by omega⟩
        case measure => simp [intOf] <;> omega
      · have Hn2 := Lib.hid (Hno.out (aP_no (Or.inr (Or.inl (by simpa using c2)))))
        rw [c1] at hx6
        clear Hno Hye Hbf c1
        go_wp2_with fail
        go_roundw
        case rel => exact ⟨k + 1, m, y5, by omega, by go_num, rfl, rfl, Hn2.out, by omega⟩
        case measure => simp [intOf] <;> omega
      · have Hn2 := Lib.hid (Hno.out (aP_no (Or.inr (Or.inr (by simpa using c3)))))
        rw [c1] at hx6
        clear Hno Hye Hbf c1
        go_wp2_with fail
        go_roundw
        case rel => exact ⟨k + 1, m, y5, by omega, by go_num, rfl, rfl, Hn2.out, by omega⟩
        case measure => simp [intOf] <;> omega
      · have hq := aP_yes c1 (by simpa using c2) (by simpa using c3)
        rw [c1] at hx6 Hbf
        cases hb : bf r e
        · have Hn2 := Lib.hid (Hno.out (hq.trans hb))
          rw [hb] at Hbf
          clear Hno Hye c1 hq hb
          go_wp2_with fail
          refine Hbf.out.mono ?_
          rintro _ _ ⟨rfl, z6, rfl⟩
          obtain ⟨y6, h6⟩ := y5.trans z6
          rw [h6]
          go_wp2_with fail
          go_roundw
          case rel => exact ⟨k + 1, m, y6, by omega, by go_num, rfl, rfl, Hn2.out, by omega⟩
          case measure => simp [intOf] <;> omega
        · have Hn2 := Lib.hid (Hye.out (hq.trans hb))
          rw [hb] at Hbf
          clear Hno Hye c1 hq hb
          go_wp2_with fail
          refine Hbf.out.mono ?_
          rintro _ _ ⟨rfl, z6, rfl⟩
          obtain ⟨y6, h6⟩ := y5.trans z6
          rw [h6]
          go_wp2_with fail
          go_roundw
          case rel => exact ⟨k + 1, m + 1, y6, by omega, by go_num, by go_num, rfl, Hn2.out, by omega⟩
          case measure => simp [intOf] <;> omega
    · obtain rfl : k = R.length := by omega
      have Hr := Lib.hid (show (m : Int) = ((R.filter (aP e)).length : Nat) by have := Hm.out; rw [List.take_length] at this; rw [this])
      go_wp2_with fail
      obtain ⟨z, hz⟩ := Hup.out y
      go_ret
      exact ⟨ret_int Hr.out, z, hz⟩
end Go.Proofs.YtdkcclngionihaaDoor
/- Trips between zones, the reference: Each, Counted. -/
namespace Go.Proofs.YtdkcclngionihaaDoor
open Go.RowKit Go.ChangeMaps

/-- these rides and an error -/
def REach (w : World) (L : List Ride) (e : Int) (o : Ending) (w' : World) : Prop :=
  ∃ (a : Option Addr) (c : Nat) (y : Since w), o = .returned (.tuple #[.slice a L.length c, .int .i64 e]) ∧ w' = y.w ∧ RideRow y.w a L ∧ L.length ≤ c
set_option maxRecDepth 100000 in
set_option maxHeartbeats 16000000 in
theorem reach_calls (w : World) (x : Since w) (a : Option Addr) (R : List Ride) (c : Nat) (each : Int) (h : RideRow w a R) (hl : R.length ≤ 9223372036854775807) :
    Calls Tryd.prog 78 #[.slice a R.length c, .int .i64 each] x.w (REach w (eachV R each) (eachE R each)) := by
  have HR := Lib.hid h
  have Hck := Lib.hid (fun y : Since w => rrides_calls w y a R c h hl)
  clear h
  have Hz := Lib.hid (fun (y : Since w) (e : Int) (he : eachE R each = e) (hn : e ≠ 0) => show REach w (eachV R each) (eachE R each) (.returned (.tuple #[.slice none 0 0, .int .i64 e])) y.w from by
    subst he
    have : eachV R each = [] := if_neg hn
    rw [this]
    exact ⟨none, 0, y, rfl, rfl, ⟨els_nil _ _, fun r hr => by cases hr⟩, Nat.le_refl _⟩)
  have HP := Lib.hid (fun (he : eachE R each = 0) (a' : Option Addr) (c' n : Nat) (y : Since w) (hn : (eachL R each).length = n) (h1 : RideRow y.w a' (eachL R each)) (h2 : n ≤ c') => show REach w (eachV R each) (eachE R each) (.returned (.tuple #[.slice a' n c', .int .i64 0])) y.w from by
    subst hn
    have : eachV R each = eachL R each := if_pos he
    rw [this, he]
    exact ⟨a', c', y, rfl, rfl, h1, h2⟩)
  generalize REach w (eachV R each) (eachE R each) = PO at *
  by_cases hr : each < 0 ∨ 256 < each
  · have HB := Lib.hid (Hz.out x 1 (if_pos hr) (by decide))
    rcases (by omega : each < 0 ∨ (¬ each < 0 ∧ 256 < each)) with h | ⟨h, h2⟩
    all_goals
      clear hr Hz HP Hck
      go_enter Tryd.func78, Tryd.ntmps78
      go_wp2_with fail
      exact HB.out
  · obtain ⟨r1, r2⟩ : ¬ each < 0 ∧ ¬ 256 < each := by omega
    have hE : eachE R each = ridesE R := if_neg hr
    by_cases he : ridesE R = 0
    case neg =>
      have hne : (ridesE R != 0) = true := by simpa using he
      have HB := Lib.hid (fun y => Hz.out y (ridesE R) hE he)
      clear hE he hr Hz HP
      generalize ridesE R = E at *
      go_enter Tryd.func78, Tryd.ntmps78
      go_wp2_with (go_at_call 92; ((with_reducible refine (Hck.out _).mono ?_); rintro _ _ ⟨rfl, y1, rfl⟩))
      exact HB.out y1
    case pos =>
      obtain ⟨hr256, _, _⟩ := ridesE_zero he
      have hs0 := rides_s0 he
      have Hs0 := Lib.hid hs0
      have Hy := Lib.hid (HP.out (hE.trans he))
      rw [he] at Hck
      have Hah := Lib.hid (fun (y : Since w) (e : Ride) (hm : e ∈ R) => show Calls Tryd.prog 93 #[.slice a R.length c, .agg #[.int .i64 e.id, .int .i64 e.rd, .int .i64 e.s0, .int .i64 e.s1, .int .i64 e.e0, .int .i64 e.e1, .bool e.op, .slice e.la e.legs.length e.lc, .slice e.pa e.pauses.length e.pc, .int .i64 e.fw, .int .i64 e.fp, .int .i64 e.wh, .int .i64 e.pl]] y.w (OneI y.w (ahd R e)) from ahead_calls y.w (Since.self y.w) a R c e (HR.out.since y) hr256 hs0 (hs0 e hm))
      clear hE he hr Hz HP hs0
      go_enter Tryd.func78, Tryd.ntmps78
      go_wp2_with fail
      refine (Hck.out _).mono ?_
      rintro _ _ ⟨rfl, y1, rfl⟩
      clear Hck
      go_wp2_with fail
      go_loopw [7, 8] (fun v i wr => ∃ (k m : Nat) (y : Since w), k ≤ R.length ∧ i = .int .i64 (k : Int) ∧ wr = y.w ∧ y.w.ownsRow w.heap.size 73 13 v m (flat Ride.cs ((R.take k).filter (ctd R each))) ∧ m ≤ k) (fun _ i _ => R.length - (intOf i).toNat)
      case atStart => exact ⟨0, 0, y1, by omega, rfl, rfl, by rw [List.take_zero]; exact ⟨rfl, .inl ⟨rfl, rfl⟩⟩, by omega⟩
      case round =>
        obtain ⟨k, m, y, hk, rfl, rfl, hown, hmk⟩ := hrel
        have Hown := Lib.hid hown
        clear hown
        by_cases hlt : k < R.length
        · have hk0 : (0 : Int) ≤ (k : Int) := by omega
          have hkl : (k : Int) < (R.length : Int) := by omega
          obtain ⟨e, he⟩ : ∃ e, R[k]? = some e := ⟨_, List.getElem?_eq_getElem (by omega)⟩
          have Htk := Lib.hid (pick_take R (ctd R each) k e he)
          have hah := Hah.out y e (List.mem_of_getElem? he)
          obtain ⟨b1, off1, rfl, h1'⟩ := Els.ride HR.out.c he
          have ra0 := h1'.c0
          have ra1 := h1'.c1
          have ra2 := h1'.c2
          have ra3 := h1'.c3
          have ra4 := h1'.c4
          have ra5 := h1'.c5
          have ra6 := h1'.c6
          have ra7 := h1'.c7
          have ra8 := h1'.c8
          have ra9 := h1'.c9
          have ra10 := h1'.c10
          have ra11 := h1'.c11
          have ra12 := h1'.c12
          have Hct := Lib.hid (show ctd R each e = (!e.op && decide ((ahd R e : Int) < each)) from rfl)
          have Hsk := Lib.hid (fun (h : ctd R each e = false) (y6 : Since w) (hW : ∃ z : Since y.w, y6.w = z.w) => show y6.w.ownsRow w.heap.size 73 13 u7 m (flat Ride.cs ((R.take (k + 1)).filter (ctd R each))) by
            rw [Htk.out, h]; simp; exact own_to Hown.out hW)
          have Hf := Lib.hid (fun (h : ctd R each e = true) => show flat Ride.cs ((R.take (k + 1)).filter (ctd R each)) = flat Ride.cs ((R.take k).filter (ctd R each)) ++ e.cs by
            rw [Htk.out, h, flat_append, if_pos rfl, flat_one])
          clear h1' he Htk
          cases hop : e.op
          case true =>
            rw [hop] at ra6
            have Hs2 := Lib.hid (Hsk.out (by rw [Hct.out, hop]; rfl) y ⟨Since.self _, rfl⟩)
            clear Hsk Hf hah hop Hct
            go_wp2_with fail
            go_roundw
            case rel => exact ⟨k + 1, m, y, by omega, by go_num, rfl, Hs2.out, by omega⟩
            case measure => simp [intOf] <;> omega
          case false =>
            have Hcs := Lib.hid (show ({ e with op := false } : Ride).cs = e.cs by unfold Ride.cs; rw [hop])
            rw [hop] at ra6 hah Hct
            have Hah2 := Lib.hid hah
            generalize (ahd R e : Int) = n at *
            by_cases hn : n < each
            · have Hf2 := Lib.hid (Hf.out (by rw [Hct.out]; simp; exact hn))
              clear Hsk Hf hah Hct hop
              go_wp2_with fail
              refine Hah2.out.mono ?_
              rintro _ _ ⟨rfl, z6, rfl⟩
              have hown6 := own_to Hown.out ⟨z6, rfl⟩
              obtain ⟨y6, h6⟩ := y.trans z6
              rw [h6] at hown6 ⊢
              replace Hown := Lib.hid hown6
              clear hown6 h6
              go_wp2_with (at_builtin; (refine wpList_appendK (w0 := w) ?hw rfl _ _ 23 rfl w.heap.size (Nat.le_refl _) ?hb 73 zeroRide 136 sRide u7 m (flat Ride.cs ((R.take k).filter (ctd R each))) rfl ?hown ⟨y6.w.heap.size, 0, none⟩ 1 1 { e with op := false }.cs rfl rfl ?hc (ride_one _) ?h63 ?hbytes ?_; rotate_right 1; intro v2 q2 hown4 _ hg4))
              case hw => exact IsSince.alloc (IsSince.of y6) _
              case hb => have := y6.b.size; simp; omega
              case hown => exact own_to Hown.out (IsSince.alloc (IsSince.self _) _)
              case hc => exact cell_new_at y6.w { e with op := false }.cs _
              case h63 => unfold maxLen; omega
              case hbytes => omega
              have Hown4 := Lib.hid (show q2.w.ownsRow w.heap.size 73 13 v2 (m + 1) (flat Ride.cs ((R.take (k + 1)).filter (ctd R each))) by rw [Hf2.out, ← Hcs.out]; exact hown4)
              clear hown4 hg4
              go_wp2_with fail
              go_roundw
              case rel => exact ⟨k + 1, m + 1, q2, by omega, by go_num, rfl, Hown4.out, by omega⟩
              case measure => simp [intOf] <;> omega
            · have Hs2 := Lib.hid (Hsk.out (by rw [Hct.out]; simp; omega))
              clear Hsk Hf hah Hct hop
              go_wp2_with fail
              refine Hah2.out.mono ?_
              rintro _ _ ⟨rfl, z6, rfl⟩
              obtain ⟨y6, h6⟩ := y.trans z6
              have Hs3 := Lib.hid (Hs2.out y6 ⟨z6, h6.symm⟩)
              rw [h6]
              clear Hs2 h6
              go_wp2_with fail
              go_roundw
              case rel => exact ⟨k + 1, m, y6, by omega, by go_num, rfl, Hs3.out, by omega⟩
              case measure => simp [intOf] <;> omega
        · obtain rfl : k = R.length := by omega
          obtain ⟨hlen, a3, c3, rfl, hc3, he3, _, _⟩ := own_els Ride.len (by decide) Hown.out
          rw [List.take_length] at he3
          have H3 := Lib.hid (Hy.out a3 c3 ((R.take R.length).filter (ctd R each)).length y (by unfold eachL; rw [List.take_length]) ⟨he3, fun r hr => (HR.out.r r ((List.mem_filter.1 hr).1)).since y⟩ hc3)
          clear hc3 he3 hlen
          go_wp2_with fail
          exact H3.out
theorem eachV_len {R : List Ride} {each : Int} : (eachV R each).length ≤ 256 := by
  unfold eachV
  by_cases he : eachE R each = 0
  · rw [if_pos he]
    have := (ridesE_zero (eachE_zero he).2.2).1
    exact Nat.le_trans (List.length_filter_le _ _) this
  · rw [if_neg he]; simp
set_option maxRecDepth 100000 in
set_option maxHeartbeats 16000000 in
theorem rcounted_calls (w : World) (x : Since w) (a : Option Addr) (R : List Ride) (c : Nat) (f t each : Int) (h : RideRow w a R) (hl : R.length ≤ 9223372036854775807) :
    Calls Tryd.prog 54 #[.slice a R.length c, .agg #[.int .i64 f, .int .i64 t], .int .i64 each] x.w (REach w ((eachV R each).filter (inT f t)) (eachE R each)) := by
  have HR := Lib.hid h
  clear h
  have HP := Lib.hid (fun (a' : Option Addr) (c' n : Nat) (y : Since w) (hn : ((eachV R each).filter (inT f t)).length = n) (h1 : RideRow y.w a' ((eachV R each).filter (inT f t))) (h2 : n ≤ c') => show REach w ((eachV R each).filter (inT f t)) (eachE R each) (.returned (.tuple #[.slice a' n c', .int .i64 (eachE R each)])) y.w from by
    subst hn
    exact ⟨a', c', y, rfl, rfl, h1, h2⟩)
  generalize REach w ((eachV R each).filter (inT f t)) (eachE R each) = PO at *
  go_enter Tryd.func54, Tryd.ntmps54
  go_upto_region 1 with fail
  have hb0_0 : ∀ y : Since (x.w.alloc (.cells #[.int .i64 f, .int .i64 t] 25)), y.w.cell? ⟨x.w.heap.size, 0, none⟩ = some (.int .i64 f) := fun y => Since.cell (by simp [go_sem]) (by first | (simp; done) | (simp; omega)) y
  have hb0_1 : ∀ y : Since (x.w.alloc (.cells #[.int .i64 f, .int .i64 t] 25)), y.w.cell? ⟨x.w.heap.size, 1, none⟩ = some (.int .i64 t) := fun y => Since.cell (by simp [go_sem]) (by first | (simp; done) | (simp; omega)) y
  have hf0 : ∀ (y : Since (x.w.alloc (.cells #[.int .i64 f, .int .i64 t] 25))) (o : Nat), y.w.frozen? ⟨x.w.heap.size, o, none⟩ = false := fun y o => Since.free (by simp [go_sem]) (by first | (simp; done) | (simp; omega)) y
  have hWup : ∃ z : Since w, (x.w.alloc (.cells #[.int .i64 f, .int .i64 t] 25)) = z.w := x.alloc _
  obtain ⟨y0, hy0⟩ := Since.refl (x.w.alloc (.cells #[.int .i64 f, .int .i64 t] 25))
  have Hbx := Lib.hid (And.intro x.b.size (show x.w.heap.size + 1 = (x.w.alloc (.cells #[.int .i64 f, .int .i64 t] 25)).heap.size from by simp))
  generalize hW : (x.w.alloc (.cells #[.int .i64 f, .int .i64 t] 25)) = W at *
  clear hW
  generalize x.w.heap.size = bx at *
  have Hup := Lib.hid (Since.up hWup)
  rw [hy0]
  clear hy0
  replace HR := Lib.hid (HR.out.to hWup)
  clear hWup hf0
  have Hea := Lib.hid (fun y : Since W => reach_calls W y a R c each HR.out hl)
  have hlen := eachV_len (R := R) (each := each)
  generalize eachV R each = L at *
  generalize eachE R each = E at *
  go_wp2_with fail
  refine (Hea.out _).mono ?_
  rintro _ _ ⟨a1, c1, y1, rfl, rfl, hL, hc1⟩
  have HL := Lib.hid hL
  have HU := Lib.hid (fun q : Since y1.w => y1.trans q)
  have kb0 : ∀ q : Since y1.w, q.w.cell? ⟨bx, 0, none⟩ = some (.int .i64 f) := fun q => by obtain ⟨z, hz⟩ := HU.out q; rw [hz]; exact hb0_0 z
  have kb1 : ∀ q : Since y1.w, q.w.cell? ⟨bx, 1, none⟩ = some (.int .i64 t) := fun q => by obtain ⟨z, hz⟩ := HU.out q; rw [hz]; exact hb0_1 z
  clear hL Hea hb0_0 hb0_1
  go_wp2_with fail
  go_loopw [10, 11] (fun v i wr => ∃ (k m : Nat) (y : Since y1.w), k ≤ L.length ∧ i = .int .i64 (k : Int) ∧ wr = y.w ∧ y.w.ownsRow y1.w.heap.size 73 13 v m (flat Ride.cs ((L.take k).filter (inT f t))) ∧ m ≤ k) (fun _ i _ => L.length - (intOf i).toNat)
  case atStart => exact ⟨0, 0, Since.self _, by omega, rfl, rfl, by rw [List.take_zero]; exact ⟨rfl, .inl ⟨rfl, rfl⟩⟩, by omega⟩
  case round =>
    obtain ⟨k, m, y, hk, rfl, rfl, hown, hmk⟩ := hrel
    have Hown := Lib.hid hown
    clear hown
    by_cases hlt : k < L.length
    · have hk0 : (0 : Int) ≤ (k : Int) := by omega
      have hkl : (k : Int) < (L.length : Int) := by omega
      obtain ⟨e, he⟩ : ∃ e, L[k]? = some e := ⟨_, List.getElem?_eq_getElem (by omega)⟩
      have Htk := Lib.hid (pick_take L (inT f t) k e he)
      obtain ⟨b1, off1, rfl, h1'⟩ := Els.ride HL.out.c he
      have ra0 := h1'.c0
      have ra1 := h1'.c1
      have ra2 := h1'.c2
      have ra3 := h1'.c3
      have ra4 := h1'.c4
      have ra5 := h1'.c5
      have ra6 := h1'.c6
      have ra7 := h1'.c7
      have ra8 := h1'.c8
      have ra9 := h1'.c9
      have ra10 := h1'.c10
      have ra11 := h1'.c11
      have ra12 := h1'.c12
      have Hno := Lib.hid (fun (h : inT f t e = false) => show y.w.ownsRow y1.w.heap.size 73 13 u10 m (flat Ride.cs ((L.take (k + 1)).filter (inT f t))) by
        rw [Htk.out, h]; simpa using Hown.out)
      have Hye := Lib.hid (fun (h : inT f t e = true) => show flat Ride.cs ((L.take (k + 1)).filter (inT f t)) = flat Ride.cs ((L.take k).filter (inT f t)) ++ e.cs by
        rw [Htk.out, h, flat_append, if_pos rfl, flat_one])
      clear h1' he Htk
      have hI : inT f t e = (decide (f ≤ e.s0) && decide (e.s0 < t) && (decide (e.wh = 1) || decide (e.wh = 2))) := rfl
      have hc : (¬ f ≤ e.s0) ∨ (f ≤ e.s0 ∧ ¬ e.s0 < t) ∨ (f ≤ e.s0 ∧ e.s0 < t ∧ (e.wh == 1) = false ∧ (e.wh == 2) = false) ∨ (f ≤ e.s0 ∧ e.s0 < t ∧ (e.wh == 1) = true) ∨ (f ≤ e.s0 ∧ e.s0 < t ∧ (e.wh == 1) = false ∧ (e.wh == 2) = true) := by
        by_cases h1 : f ≤ e.s0
        · by_cases h2 : e.s0 < t
          · cases h3 : (e.wh == 1)
            · cases h4 : (e.wh == 2)
              · exact Or.inr (Or.inr (Or.inl ⟨h1, h2, rfl, rfl⟩))
              · exact Or.inr (Or.inr (Or.inr (Or.inr ⟨h1, h2, rfl, rfl⟩)))
            · exact Or.inr (Or.inr (Or.inr (Or.inl ⟨h1, h2, rfl⟩)))
          · exact Or.inr (Or.inl ⟨h1, h2⟩)
        · exact Or.inl h1
      have HI := Lib.hid hI
      clear hI
      rcases hc with h1 | ⟨h1, h2⟩ | ⟨h1, h2, h3, h4⟩ | ⟨h1, h2, h3⟩ | ⟨h1, h2, h3, h4⟩
      · have Hs2 := Lib.hid (Hno.out (by rw [HI.out, decide_eq_false h1]; rfl))
        clear Hno Hye
        go_wp2_with fail
        go_roundw
        case rel => exact ⟨k + 1, m, y, by omega, by go_num, rfl, Hs2.out, by omega⟩
        case measure => simp [intOf] <;> omega
      · have Hs2 := Lib.hid (Hno.out (by rw [HI.out, decide_eq_false h2]; simp))
        clear Hno Hye
        go_wp2_with fail
        go_roundw
        case rel => exact ⟨k + 1, m, y, by omega, by go_num, rfl, Hs2.out, by omega⟩
        case measure => simp [intOf] <;> omega
      · have Hs2 := Lib.hid (Hno.out (by rw [HI.out]; simp at h3 h4; simp [h3, h4]))
        clear Hno Hye
        go_wp2_with fail
        go_roundw
        case rel => exact ⟨k + 1, m, y, by omega, by go_num, rfl, Hs2.out, by omega⟩
        case measure => simp [intOf] <;> omega
      all_goals
        have hor : e.wh = 1 ∨ e.wh = 2 := by
          simp at h3
          first
            | exact Or.inl h3
            | (simp at h4; exact Or.inr h4)
        have Hf2 := Lib.hid (Hye.out (by rw [HI.out, decide_eq_true h1, decide_eq_true h2]; simpa using hor))
        clear hor
        clear Hno Hye
        go_wp2_with (at_builtin; (refine wpList_appendK (w0 := y1.w) ?hw rfl _ _ 23 rfl y1.w.heap.size (Nat.le_refl _) ?hb 73 zeroRide 136 sRide u10 m (flat Ride.cs ((L.take k).filter (inT f t))) rfl ?hown ⟨y.w.heap.size, 0, none⟩ 1 1 e.cs rfl rfl ?hc (ride_one _) ?h63 ?hbytes ?_; rotate_right 1; intro v2 q2 hown4 _ hg4))
        case hw => exact IsSince.alloc (IsSince.of y) _
        case hb => have := y.b.size; simp; omega
        case hown => exact own_to Hown.out (IsSince.alloc (IsSince.self _) _)
        case hc => exact cell_new_at y.w e.cs _
        case h63 => unfold maxLen; omega
        case hbytes => omega
        have Hown4 := Lib.hid (show q2.w.ownsRow y1.w.heap.size 73 13 v2 (m + 1) (flat Ride.cs ((L.take (k + 1)).filter (inT f t))) by rw [Hf2.out]; exact hown4)
        clear hown4 hg4
        go_wp2_with fail
        go_roundw
        case rel => exact ⟨k + 1, m + 1, q2, by omega, by go_num, rfl, Hown4.out, by omega⟩
        case measure => simp [intOf] <;> omega
    · obtain rfl : k = L.length := by omega
      obtain ⟨hlen2, a3, c3, rfl, hc3, he3, _, _⟩ := own_els Ride.len (by decide) Hown.out
      rw [List.take_length] at he3
      obtain ⟨z, hz⟩ := HU.out y
      have hz2 := hz
      obtain ⟨z9, hz9⟩ := Hup.out z
      have H3 := Lib.hid (HP.out a3 c3 ((L.take L.length).filter (inT f t)).length z9 (by rw [List.take_length]) (by rw [← hz9, ← hz]; exact ⟨he3, fun r hr => (HL.out.r r ((List.mem_filter.1 hr).1)).since y⟩) hc3)
      have Hz := Lib.hid (hz.trans hz9)
      clear hc3 he3 hlen2 hz hz2 hz9
      go_wp2_with fail
      rw [Hz.out]
      exact H3.out
end Go.Proofs.YtdkcclngionihaaDoor
/- Trips between zones, the program: Table. -/
namespace Go.Proofs.YtdkcclngionihaaDoor
open Go.RowKit Go.ChangeMaps

/-- a table of the call's own and an error -/
def TabRes (w : World) (T : Tab) (e : Int) (o : Ending) (w' : World) : Prop :=
  ∃ (a : Option Addr) (c : Nat) (y : Since w), o = .returned (.tuple #[.agg #[.int .i64 T.r, .int .i64 T.c, .slice a T.l.length c], .int .i64 e]) ∧ w' = y.w ∧ IntRow y.w a T.l ∧ T.l.length ≤ c ∧ (∀ b, a = some b → w.heap.size ≤ b.block) ∧ (∀ b, a = some b → ∃ g, b = ⟨g, 0, none⟩ ∧ Nums y.w g T.l.length (at0 T.l))
theorem row_nil' (w : World) : IntRow w none [] := fun i hi => by simp at hi
/-- what the rounds keep -/
structure TbAt (w : World) (g gc gt n N : Nat) (size : Int) (b : Nat → Bool) (f : Nat → Int) : Prop where
  bl : Bls w g n b
  cl : Nums w gc N f
  bx : BoxIs w gt [.int .i64 size, .int .i64 size, .slice (some ⟨gc, 0, none⟩) N N]
theorem TbAt.to {w W : World} {g gc gt n N : Nat} {size : Int} {b : Nat → Bool} {f : Nat → Int} (h : TbAt w g gc gt n N size b f) (hW : ∃ z : Since w, W = z.w) : TbAt W g gc gt n N size b f := ⟨h.bl.to hW, h.cl.to hW, h.bx.to hW⟩
theorem BoxIs.setNe {w : World} {g : Nat} {vs : List Value} (h : BoxIs w g vs) (p : Addr) (u : Value) (hne : g ≠ p.block) : BoxIs (w.setCell p u) g vs := by
  refine ⟨by simpa [World.setCell] using h.lt, fun j v hv => ?_, fun o => by rw [World.frozen?_setCell]; exact h.f o⟩
  rw [World.cell?_of_block (w := w) (a := ⟨g, j, none⟩) (Below.heap_setCell w p u g hne)]
  exact h.c j v hv
theorem Bls.setNe {w : World} {g n : Nat} {f : Nat → Bool} (h : Bls w g n f) (p : Addr) (u : Value) (hne : p.block ≠ g) : Bls (w.setCell p u) g n f := h.setOther p hne u
theorem sm_f {b : Bool} (h : false = !b) : b = true := by
  cases b
  · cases h
  · rfl
theorem sm_t {b : Bool} (h : true = !b) : ¬ b = true := by
  cases b
  · simp
  · cases h
theorem nums_vals {w : World} {g N : Nat} {f : Nat → Int} (h : Nums w g N f) (m : Nat) (hm : m = N) : Nums w g ((List.range m).map f).length (at0 ((List.range m).map f)) := by
  subst hm
  rw [List.length_map, List.length_range]
  refine h.congr fun j hj => ?_
  simp [at0, List.getD_eq_getElem?_getD, hj]
theorem nums_row {w : World} {g N : Nat} {f : Nat → Int} (h : Nums w g N f) (m : Nat) (hm : m = N) : IntRow w (some ⟨g, 0, none⟩) ((List.range m).map f) := by
  subst hm
  intro i hi
  have hi' : i < m := by simpa using hi
  refine ⟨g, 0, rfl, h.lt, ?_⟩
  rw [Nat.zero_add, h.c i hi']
  simp [at0, List.getD_eq_getElem?_getD, hi']
theorem cP_no {R : List Ride} {each f t : Int} {e : Ride} (h : cP R each f t e = false) : ctd R each e = false ∨ (ctd R each e = true ∧ e.s0 < f) ∨ (ctd R each e = true ∧ ¬ e.s0 < f ∧ t ≤ e.s0) ∨ (ctd R each e = true ∧ ¬ e.s0 < f ∧ ¬ t ≤ e.s0 ∧ (e.wh != 1) = true ∧ (e.wh != 2) = true) := by
  unfold cP inT at h
  cases hc : ctd R each e
  · exact Or.inl rfl
  · rw [hc] at h
    simp at h
    by_cases h1 : e.s0 < f
    · exact Or.inr (Or.inl ⟨rfl, h1⟩)
    · by_cases h2 : t ≤ e.s0
      · exact Or.inr (Or.inr (Or.inl ⟨rfl, h1, h2⟩))
      · have := h (by omega) (by omega)
        exact Or.inr (Or.inr (Or.inr ⟨rfl, h1, h2, by simpa using this.1, by simpa using this.2⟩))
theorem cP_yes {R : List Ride} {each f t : Int} {e : Ride} (h : cP R each f t e = true) : ctd R each e = true ∧ ¬ e.s0 < f ∧ ¬ t ≤ e.s0 ∧ (e.wh = 1 ∨ (¬ e.wh = 1 ∧ e.wh = 2)) := by
  unfold cP inT at h
  simp at h
  obtain ⟨h1, ⟨h2, h3⟩, h4⟩ := h
  exact ⟨h1, by omega, by omega, by omega⟩
set_option maxRecDepth 100000 in
set_option maxHeartbeats 16000000 in
theorem table_calls (w : World) (x : Since w) (az : Option Addr) (zs : List Int) (cz : Nat) (size : Int) (a : Option Addr) (R : List Ride) (c : Nat) (f t each : Int) (hz : IntRow w az zs) (hzl : zs.length ≤ 9223372036854775807) (h : RideRow w a R) (hl : R.length ≤ 9223372036854775807) (hI : ∀ r ∈ R, r.fp ≤ 9223372036854775807 ∧ r.pl ≤ 9223372036854775807) :
    Calls Tryd.prog 21 #[.slice az zs.length cz, .int .i64 size, .slice a R.length c, .agg #[.int .i64 f, .int .i64 t], .int .i64 each] x.w (TabRes w (tabV zs size R f t each) (tabE zs size R f t each)) := by
  have HZ := Lib.hid hz
  have HR := Lib.hid h
  have HI := Lib.hid hI
  have Hno := Lib.hid (fun (e : Int) (he : tabE zs size R f t each = e) (hne : e ≠ 0) (y : Since w) => show TabRes w (tabV zs size R f t each) (tabE zs size R f t each) (.returned (.tuple #[.agg #[.int .i64 0, .int .i64 0, .slice none 0 0], .int .i64 e])) y.w from by
    subst he
    have : tabV zs size R f t each = tab0 := if_neg hne
    rw [this]
    exact ⟨none, 0, y, rfl, rfl, row_nil' _, Nat.le_refl _, fun b hb => (by cases hb), fun b hb => by cases hb⟩)
  have Hyes := Lib.hid (fun (he : tabE zs size R f t each = 0) (l : List Int) (hl : l = cells zs size (cntL R each f t)) (a' : Option Addr) (n c' : Nat) (hn : l.length = n) (y : Since w) (hv : ∀ b, a' = some b → ∃ g, b = ⟨g, 0, none⟩ ∧ Nums y.w g l.length (at0 l)) (hr : IntRow y.w a' l) (hc : n ≤ c') (ha : ∀ b, a' = some b → w.heap.size ≤ b.block) => show TabRes w (tabV zs size R f t each) (tabE zs size R f t each) (.returned (.tuple #[.agg #[.int .i64 size, .int .i64 size, .slice a' n c'], .int .i64 0])) y.w from by
    have : tabV zs size R f t each = ⟨size, size, cells zs size (cntL R each f t)⟩ := if_pos he
    rw [this, he]
    subst hl
    subst hn
    exact ⟨a', c', y, rfl, rfl, hr, hc, ha, hv⟩)
  generalize TabRes w (tabV zs size R f t each) (tabE zs size R f t each) = PO at *
  clear hz h hI
  by_cases hv : size < 1 ∨ 8 < size ∨ f < 0 ∨ t < f ∨ 4294944000 < t
  case pos =>
    have HB := Lib.hid (Hno.out 1 (if_pos hv) (by decide))
    rcases (by omega : size < 1 ∨ (¬ size < 1 ∧ 8 < size) ∨ (¬ size < 1 ∧ ¬ 8 < size ∧ f < 0) ∨ (¬ size < 1 ∧ ¬ 8 < size ∧ ¬ f < 0 ∧ t < f) ∨ (¬ size < 1 ∧ ¬ 8 < size ∧ ¬ f < 0 ∧ ¬ t < f ∧ 4294944000 < t)) with h1 | ⟨h1, h2⟩ | ⟨h1, h2, h3⟩ | ⟨h1, h2, h3, h4⟩ | ⟨h1, h2, h3, h4, h5⟩
    all_goals
      clear hv Hno Hyes
      go_enter Tryd.func21, Tryd.ntmps21
      go_upto_region 1 with fail
      have hb0_0 : ∀ y : Since ((x.w.alloc (.cells #[.int .i64 f, .int .i64 t] 25)).alloc (.cells #[.int .i64 0, .int .i64 0, .slice none 0 0] 31)), y.w.cell? ⟨x.w.heap.size, 0, none⟩ = some (.int .i64 f) := fun y => Since.cell (by simp [go_sem]) (by first | (simp; done) | (simp; omega)) y
      have hb0_1 : ∀ y : Since ((x.w.alloc (.cells #[.int .i64 f, .int .i64 t] 25)).alloc (.cells #[.int .i64 0, .int .i64 0, .slice none 0 0] 31)), y.w.cell? ⟨x.w.heap.size, 1, none⟩ = some (.int .i64 t) := fun y => Since.cell (by simp [go_sem]) (by first | (simp; done) | (simp; omega)) y
      have hf0 : ∀ (y : Since ((x.w.alloc (.cells #[.int .i64 f, .int .i64 t] 25)).alloc (.cells #[.int .i64 0, .int .i64 0, .slice none 0 0] 31))) (o : Nat), y.w.frozen? ⟨x.w.heap.size, o, none⟩ = false := fun y o => Since.free (by simp [go_sem]) (by first | (simp; done) | (simp; omega)) y
      have hb1_0 : ∀ y : Since ((x.w.alloc (.cells #[.int .i64 f, .int .i64 t] 25)).alloc (.cells #[.int .i64 0, .int .i64 0, .slice none 0 0] 31)), y.w.cell? ⟨x.w.heap.size + 1, 0, none⟩ = some (.int .i64 0) := fun y => Since.cell (by simp [go_sem]) (by first | (simp; done) | (simp; omega)) y
      have hb1_1 : ∀ y : Since ((x.w.alloc (.cells #[.int .i64 f, .int .i64 t] 25)).alloc (.cells #[.int .i64 0, .int .i64 0, .slice none 0 0] 31)), y.w.cell? ⟨x.w.heap.size + 1, 1, none⟩ = some (.int .i64 0) := fun y => Since.cell (by simp [go_sem]) (by first | (simp; done) | (simp; omega)) y
      have hb1_2 : ∀ y : Since ((x.w.alloc (.cells #[.int .i64 f, .int .i64 t] 25)).alloc (.cells #[.int .i64 0, .int .i64 0, .slice none 0 0] 31)), y.w.cell? ⟨x.w.heap.size + 1, 2, none⟩ = some (.slice none 0 0) := fun y => Since.cell (by simp [go_sem]) (by first | (simp; done) | (simp; omega)) y
      have hf1 : ∀ (y : Since ((x.w.alloc (.cells #[.int .i64 f, .int .i64 t] 25)).alloc (.cells #[.int .i64 0, .int .i64 0, .slice none 0 0] 31))) (o : Nat), y.w.frozen? ⟨x.w.heap.size + 1, o, none⟩ = false := fun y o => Since.free (by simp [go_sem]) (by first | (simp; done) | (simp; omega)) y
      have hWup : ∃ z : Since w, ((x.w.alloc (.cells #[.int .i64 f, .int .i64 t] 25)).alloc (.cells #[.int .i64 0, .int .i64 0, .slice none 0 0] 31)) = z.w := Since.allocs x [.cells #[.int .i64 f, .int .i64 t] 25, .cells #[.int .i64 0, .int .i64 0, .slice none 0 0] 31]
      obtain ⟨y0, hy0⟩ := Since.refl ((x.w.alloc (.cells #[.int .i64 f, .int .i64 t] 25)).alloc (.cells #[.int .i64 0, .int .i64 0, .slice none 0 0] 31))
      have Hbx := Lib.hid (And.intro x.b.size (show x.w.heap.size + 2 = ((x.w.alloc (.cells #[.int .i64 f, .int .i64 t] 25)).alloc (.cells #[.int .i64 0, .int .i64 0, .slice none 0 0] 31)).heap.size from by simp))
      generalize hW : ((x.w.alloc (.cells #[.int .i64 f, .int .i64 t] 25)).alloc (.cells #[.int .i64 0, .int .i64 0, .slice none 0 0] 31)) = W at *
      clear hW
      generalize x.w.heap.size = bx at *
      have Hup := Lib.hid (Since.up hWup)
      rw [hy0]
      clear hy0
      clear hWup
      go_wp2_with fail
      have hsm : ∀ j, j < 3 → (y0.w.cell? ⟨bx + 1, j, none⟩).isSome = true := fun j hj => by
        match j, hj with
        | 0, _ => rw [hb1_0 y0]; rfl
        | 1, _ => rw [hb1_1 y0]; rfl
        | 2, _ => rw [hb1_2 y0]; rfl
      obtain ⟨z, hz, hc⟩ := set_many y0 (g := bx + 1) [.int .i64 0, .int .i64 0, .slice none 0 0] hsm (Hup.out y0) (by have := Hbx.out; omega)
      simp only [World.setCells, Nat.reduceAdd] at hz
      rw [hz]
      have hc0 := hc 0 _ rfl
      have hc1 := hc 1 _ rfl
      have hc2 := hc 2 _ rfl
      exact bodyPost_ret (v := .tuple #[.agg #[.int .i64 0, .int .i64 0, .slice none 0 0], .int .i64 1]) (by simp [results, Tryd.results21, go_sem, hc0, hc1, hc2]) rfl (HB.out z)
  case neg =>
  obtain ⟨v1, v2, v3, v4, v5⟩ : ¬ size < 1 ∧ ¬ 8 < size ∧ ¬ f < 0 ∧ ¬ t < f ∧ ¬ 4294944000 < t := ⟨by omega, by omega, by omega, by omega, by omega⟩
  go_enter Tryd.func21, Tryd.ntmps21
  go_upto_region 1 with fail
  have hb0_0 : ∀ y : Since ((x.w.alloc (.cells #[.int .i64 f, .int .i64 t] 25)).alloc (.cells #[.int .i64 0, .int .i64 0, .slice none 0 0] 31)), y.w.cell? ⟨x.w.heap.size, 0, none⟩ = some (.int .i64 f) := fun y => Since.cell (by simp [go_sem]) (by first | (simp; done) | (simp; omega)) y
  have hb0_1 : ∀ y : Since ((x.w.alloc (.cells #[.int .i64 f, .int .i64 t] 25)).alloc (.cells #[.int .i64 0, .int .i64 0, .slice none 0 0] 31)), y.w.cell? ⟨x.w.heap.size, 1, none⟩ = some (.int .i64 t) := fun y => Since.cell (by simp [go_sem]) (by first | (simp; done) | (simp; omega)) y
  have hf0 : ∀ (y : Since ((x.w.alloc (.cells #[.int .i64 f, .int .i64 t] 25)).alloc (.cells #[.int .i64 0, .int .i64 0, .slice none 0 0] 31))) (o : Nat), y.w.frozen? ⟨x.w.heap.size, o, none⟩ = false := fun y o => Since.free (by simp [go_sem]) (by first | (simp; done) | (simp; omega)) y
  have hb1_0 : ∀ y : Since ((x.w.alloc (.cells #[.int .i64 f, .int .i64 t] 25)).alloc (.cells #[.int .i64 0, .int .i64 0, .slice none 0 0] 31)), y.w.cell? ⟨x.w.heap.size + 1, 0, none⟩ = some (.int .i64 0) := fun y => Since.cell (by simp [go_sem]) (by first | (simp; done) | (simp; omega)) y
  have hb1_1 : ∀ y : Since ((x.w.alloc (.cells #[.int .i64 f, .int .i64 t] 25)).alloc (.cells #[.int .i64 0, .int .i64 0, .slice none 0 0] 31)), y.w.cell? ⟨x.w.heap.size + 1, 1, none⟩ = some (.int .i64 0) := fun y => Since.cell (by simp [go_sem]) (by first | (simp; done) | (simp; omega)) y
  have hb1_2 : ∀ y : Since ((x.w.alloc (.cells #[.int .i64 f, .int .i64 t] 25)).alloc (.cells #[.int .i64 0, .int .i64 0, .slice none 0 0] 31)), y.w.cell? ⟨x.w.heap.size + 1, 2, none⟩ = some (.slice none 0 0) := fun y => Since.cell (by simp [go_sem]) (by first | (simp; done) | (simp; omega)) y
  have hf1 : ∀ (y : Since ((x.w.alloc (.cells #[.int .i64 f, .int .i64 t] 25)).alloc (.cells #[.int .i64 0, .int .i64 0, .slice none 0 0] 31))) (o : Nat), y.w.frozen? ⟨x.w.heap.size + 1, o, none⟩ = false := fun y o => Since.free (by simp [go_sem]) (by first | (simp; done) | (simp; omega)) y
  have hWup : ∃ z : Since w, ((x.w.alloc (.cells #[.int .i64 f, .int .i64 t] 25)).alloc (.cells #[.int .i64 0, .int .i64 0, .slice none 0 0] 31)) = z.w := Since.allocs x [.cells #[.int .i64 f, .int .i64 t] 25, .cells #[.int .i64 0, .int .i64 0, .slice none 0 0] 31]
  obtain ⟨y0, hy0⟩ := Since.refl ((x.w.alloc (.cells #[.int .i64 f, .int .i64 t] 25)).alloc (.cells #[.int .i64 0, .int .i64 0, .slice none 0 0] 31))
  have Hbx := Lib.hid (And.intro x.b.size (show x.w.heap.size + 2 = ((x.w.alloc (.cells #[.int .i64 f, .int .i64 t] 25)).alloc (.cells #[.int .i64 0, .int .i64 0, .slice none 0 0] 31)).heap.size from by simp))
  generalize hW : ((x.w.alloc (.cells #[.int .i64 f, .int .i64 t] 25)).alloc (.cells #[.int .i64 0, .int .i64 0, .slice none 0 0] 31)) = W at *
  clear hW
  generalize x.w.heap.size = bx at *
  have Hup := Lib.hid (Since.up hWup)
  rw [hy0]
  clear hy0
  replace HZ := Lib.hid (HZ.out.to hWup)
  replace HR := Lib.hid (HR.out.to hWup)
  clear hWup
  have Hck := Lib.hid (fun y : Since W => checked_calls W y a R c each HR.out hl)
  by_cases he : eachE R each = 0
  case neg =>
    have hne : (eachE R each != 0) = true := by simpa using he
    have HB := Lib.hid (Hno.out (eachE R each) (by unfold tabE; rw [if_neg hv, if_pos he]) he)
    clear he hv Hno Hyes
    generalize eachE R each = E at *
    go_wp2_with (go_at_call 43; ((with_reducible refine (Hck.out _).mono ?_); rintro _ _ ⟨rfl, y1, rfl⟩))
    have hsm : ∀ j, j < 3 → (y1.w.cell? ⟨bx + 1, j, none⟩).isSome = true := fun j hj => by
      match j, hj with
      | 0, _ => rw [hb1_0 y1]; rfl
      | 1, _ => rw [hb1_1 y1]; rfl
      | 2, _ => rw [hb1_2 y1]; rfl
    obtain ⟨z, hz, hc⟩ := set_many y1 (g := bx + 1) [.int .i64 0, .int .i64 0, .slice none 0 0] hsm (Hup.out y1) (by have := Hbx.out; omega)
    simp only [World.setCells, Nat.reduceAdd] at hz
    rw [hz]
    have hc0 := hc 0 _ rfl
    have hc1 := hc 1 _ rfl
    have hc2 := hc 2 _ rfl
    exact bodyPost_ret (v := .tuple #[.agg #[.int .i64 0, .int .i64 0, .slice none 0 0], .int .i64 E]) (by simp [results, Tryd.results21, go_sem, hc0, hc1, hc2]) rfl (HB.out z)
  case pos =>
  obtain ⟨e0, e1, hrz⟩ := eachE_zero he
  obtain ⟨hr256, hid, hre⟩ := ridesE_zero hrz
  have Hct := Lib.hid (fun y : Since W => show Calls Tryd.prog 44 #[.slice a R.length c, .int .i64 each] y.w (CtPost y.w R each) from counted_calls y.w (Since.self y.w) a R c each (HR.out.since y) hr256 e0 e1 hid (rides_s0 hrz))
  have Hs0 := Lib.hid (rides_s0 hrz)
  have HE := Lib.hid (show tabE zs size R f t each = if endsE zs (cntL R each f t) ≠ 0 then endsE zs (cntL R each f t) else if (cntL R each f t).any (bigR zs size) = true then 7 else 0 by unfold tabE; rw [if_neg hv, if_neg (by rw [he]; simp)])
  rw [he] at Hck
  clear he hrz hid hre hv
  obtain ⟨N, hN⟩ : ∃ N : Nat, size * size = (N : Int) := ⟨(size * size).toNat, by have := tab_mul (a := size) (b := size) (by omega); omega⟩
  have HN := Lib.hid hN
  have hNb : 1 ≤ size * size ∧ size * size ≤ 64 := tab_mul (by omega)
  obtain ⟨n1, n2⟩ := hNb
  have hN64 : N ≤ 64 := by omega
  clear hN
  go_wp2_with fail
  refine (Hck.out _).mono ?_
  rintro _ _ ⟨rfl, y1, rfl⟩
  obtain ⟨i0, hi0, hz0, hsz0, hby0⟩ := info_parts (P := Tryd.prog) (e := 3) (z := .int .i64 0) (size := 1) (bytes := 8) (by kernel_rfl)
  go_wp2_with (at_make; refine wpList_make_full _ rfl _ _ 22 rfl W.heap.size 3 i0 (.int .i64 0) 1 Tryd.underlying22 hi0 hz0 hsz0 .i64 .i64 (size * size) (size * size) N rfl rfl HN.out HN.out (by rw [hby0]; omega) (by unfold maxLen; omega) y1.b.size ?_; intro w1 hown hg1; refine Hid.out ?_)
  have hrow := own_nums hown (fun j hj => by simp [madeCells, List.getD_eq_getElem?_getD, hj]; show (#[Value.int .i64 0] : Array Value)[j % 1]! = _; rw [Nat.mod_one]; rfl)
  obtain ⟨y2, hy2⟩ := y1.grown hg1 (fun k hk => by cases hk)
  have Hgc := Lib.hid y1.b.size
  subst hy2
  clear hown hg1 hi0 hz0 hsz0 hby0
  generalize y1.w.heap.size = gc at *
  have Hrow := Lib.hid hrow
  clear hrow Hck
  refine Lib.hid ?_
  go_upto_region 8 with fail
  have hx0 : (y2.w.alloc (.cells #[.int .i64 size, .int .i64 size, .slice (some ⟨gc, 0, none⟩) N N] 31)).cell? ⟨y2.w.heap.size, 0, none⟩ = some (.int .i64 size) := by simp [go_sem]
  have hx1 : (y2.w.alloc (.cells #[.int .i64 size, .int .i64 size, .slice (some ⟨gc, 0, none⟩) N N] 31)).cell? ⟨y2.w.heap.size, 1, none⟩ = some (.int .i64 size) := by simp [go_sem]
  have hx2 : (y2.w.alloc (.cells #[.int .i64 size, .int .i64 size, .slice (some ⟨gc, 0, none⟩) N N] 31)).cell? ⟨y2.w.heap.size, 2, none⟩ = some (.slice (some ⟨gc, 0, none⟩) N N) := by simp [go_sem]
  have hxf : ∀ o, (y2.w.alloc (.cells #[.int .i64 size, .int .i64 size, .slice (some ⟨gc, 0, none⟩) N N] 31)).frozen? ⟨y2.w.heap.size, o, none⟩ = false := fun o => by simp [go_sem]
  have hlt0 : y2.w.heap.size < (y2.w.alloc (.cells #[.int .i64 size, .int .i64 size, .slice (some ⟨gc, 0, none⟩) N N] 31)).heap.size := by simp
  have hst0 : ∃ zz : Since y2.w, (y2.w.alloc (.cells #[.int .i64 size, .int .i64 size, .slice (some ⟨gc, 0, none⟩) N N] 31)) = zz.w := IsSince.alloc (IsSince.self _) _
  have hsz0 := y2.b.size
  obtain ⟨y3, e2⟩ := IsSince.alloc (IsSince.of y2) (.cells #[.int .i64 size, .int .i64 size, .slice (some ⟨gc, 0, none⟩) N N] 31)
  rw [e2] at hx0 hx1 hx2 hxf hlt0 hst0 ⊢
  (have hlt3 := Hrow.out.lt; replace Hrow := Lib.hid (Hrow.out.to hst0); have hbx := BoxIs.new y2.w [.int .i64 size, .int .i64 size, .slice (some ⟨gc, 0, none⟩) N N] 31; rw [e2] at hbx)
  clear e2 hst0
  generalize y2.w.heap.size = gt at *
  have Hhx0 : ∀ q : Since y3.w, q.w.cell? ⟨gt, 0, none⟩ = some (.int .i64 size) := fun q => Since.cell hx0 (by omega) q
  have Hhx1 : ∀ q : Since y3.w, q.w.cell? ⟨gt, 1, none⟩ = some (.int .i64 size) := fun q => Since.cell hx1 (by omega) q
  have Hhx2 : ∀ q : Since y3.w, q.w.cell? ⟨gt, 2, none⟩ = some (.slice (some ⟨gc, 0, none⟩) N N) := fun q => Since.cell hx2 (by omega) q
  have Hhxf : ∀ (q : Since y3.w) (o : Nat), q.w.frozen? ⟨gt, o, none⟩ = false := fun q o => Since.free (hxf o) (by omega) q
  have Hhxg := Lib.hid (And.intro hsz0 hlt0)
  clear hlt0 hsz0
  have Hbt := Lib.hid hbx
  have Hlt3 := Lib.hid hlt3
  clear hbx hlt3 hx0 hx1 hx2 hxf Hhx0 Hhx1 Hhx2 Hhxf
  go_wp2_with fail
  refine (Hct.out y3).mono ?_
  rintro _ _ ⟨g, z4, rfl, rfl, hg, hbl⟩
  obtain ⟨y4, h4⟩ := y3.trans z4
  have hT0 : TbAt z4.w g gc gt R.length N size (fun i => ctd R each (rAt R i)) (fun i => celN zs size ((R.take 0).filter (cP R each f t)) i) := ⟨hbl, (Nums.congr (Hrow.out.since z4) (fun j hj => by simp [celN])), Hbt.out.to ⟨z4, rfl⟩⟩
  have Hgn := Lib.hid (show gc ≠ g ∧ gt ≠ g by have h1 := Hrow.out.lt; have h2 := Hbt.out.lt; exact ⟨by omega, by omega⟩)
  rw [h4] at hT0 ⊢
  have HT := Lib.hid hT0
  clear hT0 h4 hbl hg Hct Hrow Hbt
  go_wp2_with fail
  go_loopw [14, 63] (fun sv i wr => ∃ (k : Nat) (y : Since W) (sm : Bool), k ≤ R.length ∧ sv = .bool sm ∧ sm = (!(((R.take k).filter (cP R each f t)).any (bigR zs size))) ∧ i = .int .i64 (k : Int) ∧ wr = y.w ∧ TbAt y.w g gc gt R.length N size (fun i => ctd R each (rAt R i)) (fun i => celN zs size ((R.take k).filter (cP R each f t)) i) ∧ (∀ r ∈ (R.take k).filter (cP R each f t), endE zs r = 0)) (fun _ i _ => R.length - (intOf i).toNat)
  case atStart => exact ⟨0, y4, true, by omega, rfl, rfl, rfl, rfl, HT.out, fun r hr => by simp at hr⟩
  case round =>
    clear HT
    obtain ⟨k, y, sm, hk, rfl, hsm, rfl, rfl, hT, h0⟩ := hrel
    have HT := Lib.hid hT; have H0 := Lib.hid h0; have Hsm := Lib.hid hsm
    clear hT h0 hsm
    by_cases hlt : k < R.length
    · obtain ⟨e, he⟩ : ∃ e, R[k]? = some e := ⟨_, List.getElem?_eq_getElem hlt⟩
      have hk0 : (0 : Int) ≤ (k : Int) := by omega
      have hkl : (k : Int) < (R.length : Int) := by omega
      have hbc := HT.out.bl.c k hlt
      rw [rAt_eq he] at hbc
      have hbf := HT.out.bl.f k hlt
      have Hpk := Lib.hid (pick_take R (cP R each f t) k e he)
      have Hea := Lib.hid (show endE zs e ≠ 0 → cP R each f t e = true → endsE zs (cntL R each f t) = endE zs e from fun hn hp => by rw [cntL_eq]; exact endsE_at he hp hn H0.out)
      obtain ⟨hI1, hI2⟩ := HI.out e (List.mem_of_getElem? he)
      obtain ⟨b1, off1, rfl, h1'⟩ := Els.ride HR.out.c he
      have ra0 := h1'.c0
      have ra1 := h1'.c1
      have ra2 := h1'.c2
      have ra3 := h1'.c3
      have ra4 := h1'.c4
      have ra5 := h1'.c5
      have ra6 := h1'.c6
      have ra7 := h1'.c7
      have ra8 := h1'.c8
      have ra9 := h1'.c9
      have ra10 := h1'.c10
      have ra11 := h1'.c11
      have ra12 := h1'.c12
      clear h1' he
      go_upto_region 12 with fail
      have hx0 : (y.w.alloc (.cells #[.int .i64 e.id, .int .i64 e.rd, .int .i64 e.s0, .int .i64 e.s1, .int .i64 e.e0, .int .i64 e.e1, .bool e.op, .slice e.la e.legs.length e.lc, .slice e.pa e.pauses.length e.pc, .int .i64 e.fw, .int .i64 e.fp, .int .i64 e.wh, .int .i64 e.pl] 73)).cell? ⟨y.w.heap.size, 0, none⟩ = some (.int .i64 e.id) := by simp [go_sem]
      have hx1 : (y.w.alloc (.cells #[.int .i64 e.id, .int .i64 e.rd, .int .i64 e.s0, .int .i64 e.s1, .int .i64 e.e0, .int .i64 e.e1, .bool e.op, .slice e.la e.legs.length e.lc, .slice e.pa e.pauses.length e.pc, .int .i64 e.fw, .int .i64 e.fp, .int .i64 e.wh, .int .i64 e.pl] 73)).cell? ⟨y.w.heap.size, 1, none⟩ = some (.int .i64 e.rd) := by simp [go_sem]
      have hx2 : (y.w.alloc (.cells #[.int .i64 e.id, .int .i64 e.rd, .int .i64 e.s0, .int .i64 e.s1, .int .i64 e.e0, .int .i64 e.e1, .bool e.op, .slice e.la e.legs.length e.lc, .slice e.pa e.pauses.length e.pc, .int .i64 e.fw, .int .i64 e.fp, .int .i64 e.wh, .int .i64 e.pl] 73)).cell? ⟨y.w.heap.size, 2, none⟩ = some (.int .i64 e.s0) := by simp [go_sem]
      have hx3 : (y.w.alloc (.cells #[.int .i64 e.id, .int .i64 e.rd, .int .i64 e.s0, .int .i64 e.s1, .int .i64 e.e0, .int .i64 e.e1, .bool e.op, .slice e.la e.legs.length e.lc, .slice e.pa e.pauses.length e.pc, .int .i64 e.fw, .int .i64 e.fp, .int .i64 e.wh, .int .i64 e.pl] 73)).cell? ⟨y.w.heap.size, 3, none⟩ = some (.int .i64 e.s1) := by simp [go_sem]
      have hx4 : (y.w.alloc (.cells #[.int .i64 e.id, .int .i64 e.rd, .int .i64 e.s0, .int .i64 e.s1, .int .i64 e.e0, .int .i64 e.e1, .bool e.op, .slice e.la e.legs.length e.lc, .slice e.pa e.pauses.length e.pc, .int .i64 e.fw, .int .i64 e.fp, .int .i64 e.wh, .int .i64 e.pl] 73)).cell? ⟨y.w.heap.size, 4, none⟩ = some (.int .i64 e.e0) := by simp [go_sem]
      have hx5 : (y.w.alloc (.cells #[.int .i64 e.id, .int .i64 e.rd, .int .i64 e.s0, .int .i64 e.s1, .int .i64 e.e0, .int .i64 e.e1, .bool e.op, .slice e.la e.legs.length e.lc, .slice e.pa e.pauses.length e.pc, .int .i64 e.fw, .int .i64 e.fp, .int .i64 e.wh, .int .i64 e.pl] 73)).cell? ⟨y.w.heap.size, 5, none⟩ = some (.int .i64 e.e1) := by simp [go_sem]
      have hx6 : (y.w.alloc (.cells #[.int .i64 e.id, .int .i64 e.rd, .int .i64 e.s0, .int .i64 e.s1, .int .i64 e.e0, .int .i64 e.e1, .bool e.op, .slice e.la e.legs.length e.lc, .slice e.pa e.pauses.length e.pc, .int .i64 e.fw, .int .i64 e.fp, .int .i64 e.wh, .int .i64 e.pl] 73)).cell? ⟨y.w.heap.size, 6, none⟩ = some (.bool e.op) := by simp [go_sem]
      have hx7 : (y.w.alloc (.cells #[.int .i64 e.id, .int .i64 e.rd, .int .i64 e.s0, .int .i64 e.s1, .int .i64 e.e0, .int .i64 e.e1, .bool e.op, .slice e.la e.legs.length e.lc, .slice e.pa e.pauses.length e.pc, .int .i64 e.fw, .int .i64 e.fp, .int .i64 e.wh, .int .i64 e.pl] 73)).cell? ⟨y.w.heap.size, 7, none⟩ = some (.slice e.la e.legs.length e.lc) := by simp [go_sem]
      have hx8 : (y.w.alloc (.cells #[.int .i64 e.id, .int .i64 e.rd, .int .i64 e.s0, .int .i64 e.s1, .int .i64 e.e0, .int .i64 e.e1, .bool e.op, .slice e.la e.legs.length e.lc, .slice e.pa e.pauses.length e.pc, .int .i64 e.fw, .int .i64 e.fp, .int .i64 e.wh, .int .i64 e.pl] 73)).cell? ⟨y.w.heap.size, 8, none⟩ = some (.slice e.pa e.pauses.length e.pc) := by simp [go_sem]
      have hx9 : (y.w.alloc (.cells #[.int .i64 e.id, .int .i64 e.rd, .int .i64 e.s0, .int .i64 e.s1, .int .i64 e.e0, .int .i64 e.e1, .bool e.op, .slice e.la e.legs.length e.lc, .slice e.pa e.pauses.length e.pc, .int .i64 e.fw, .int .i64 e.fp, .int .i64 e.wh, .int .i64 e.pl] 73)).cell? ⟨y.w.heap.size, 9, none⟩ = some (.int .i64 e.fw) := by simp [go_sem]
      have hx10 : (y.w.alloc (.cells #[.int .i64 e.id, .int .i64 e.rd, .int .i64 e.s0, .int .i64 e.s1, .int .i64 e.e0, .int .i64 e.e1, .bool e.op, .slice e.la e.legs.length e.lc, .slice e.pa e.pauses.length e.pc, .int .i64 e.fw, .int .i64 e.fp, .int .i64 e.wh, .int .i64 e.pl] 73)).cell? ⟨y.w.heap.size, 10, none⟩ = some (.int .i64 e.fp) := by simp [go_sem]
      have hx11 : (y.w.alloc (.cells #[.int .i64 e.id, .int .i64 e.rd, .int .i64 e.s0, .int .i64 e.s1, .int .i64 e.e0, .int .i64 e.e1, .bool e.op, .slice e.la e.legs.length e.lc, .slice e.pa e.pauses.length e.pc, .int .i64 e.fw, .int .i64 e.fp, .int .i64 e.wh, .int .i64 e.pl] 73)).cell? ⟨y.w.heap.size, 11, none⟩ = some (.int .i64 e.wh) := by simp [go_sem]
      have hx12 : (y.w.alloc (.cells #[.int .i64 e.id, .int .i64 e.rd, .int .i64 e.s0, .int .i64 e.s1, .int .i64 e.e0, .int .i64 e.e1, .bool e.op, .slice e.la e.legs.length e.lc, .slice e.pa e.pauses.length e.pc, .int .i64 e.fw, .int .i64 e.fp, .int .i64 e.wh, .int .i64 e.pl] 73)).cell? ⟨y.w.heap.size, 12, none⟩ = some (.int .i64 e.pl) := by simp [go_sem]
      have hxf : ∀ o, (y.w.alloc (.cells #[.int .i64 e.id, .int .i64 e.rd, .int .i64 e.s0, .int .i64 e.s1, .int .i64 e.e0, .int .i64 e.e1, .bool e.op, .slice e.la e.legs.length e.lc, .slice e.pa e.pauses.length e.pc, .int .i64 e.fw, .int .i64 e.fp, .int .i64 e.wh, .int .i64 e.pl] 73)).frozen? ⟨y.w.heap.size, o, none⟩ = false := fun o => by simp [go_sem]
      have hlt0 : y.w.heap.size < (y.w.alloc (.cells #[.int .i64 e.id, .int .i64 e.rd, .int .i64 e.s0, .int .i64 e.s1, .int .i64 e.e0, .int .i64 e.e1, .bool e.op, .slice e.la e.legs.length e.lc, .slice e.pa e.pauses.length e.pc, .int .i64 e.fw, .int .i64 e.fp, .int .i64 e.wh, .int .i64 e.pl] 73)).heap.size := by simp
      have hst0 : ∃ zz : Since y.w, (y.w.alloc (.cells #[.int .i64 e.id, .int .i64 e.rd, .int .i64 e.s0, .int .i64 e.s1, .int .i64 e.e0, .int .i64 e.e1, .bool e.op, .slice e.la e.legs.length e.lc, .slice e.pa e.pauses.length e.pc, .int .i64 e.fw, .int .i64 e.fp, .int .i64 e.wh, .int .i64 e.pl] 73)) = zz.w := IsSince.alloc (IsSince.self _) _
      have hsz0 := y.b.size
      obtain ⟨y5, e2⟩ := IsSince.alloc (IsSince.of y) (.cells #[.int .i64 e.id, .int .i64 e.rd, .int .i64 e.s0, .int .i64 e.s1, .int .i64 e.e0, .int .i64 e.e1, .bool e.op, .slice e.la e.legs.length e.lc, .slice e.pa e.pauses.length e.pc, .int .i64 e.fw, .int .i64 e.fp, .int .i64 e.wh, .int .i64 e.pl] 73)
      rw [e2] at hx0 hx1 hx2 hx3 hx4 hx5 hx6 hx7 hx8 hx9 hx10 hx11 hx12 hxf hlt0 hst0 ⊢
      (replace HT := Lib.hid (HT.out.to hst0))
      clear e2 hst0
      generalize y.w.heap.size = gr at *
      have Hhx0 : ∀ q : Since y5.w, q.w.cell? ⟨gr, 0, none⟩ = some (.int .i64 e.id) := fun q => Since.cell hx0 (by omega) q
      have Hhx1 : ∀ q : Since y5.w, q.w.cell? ⟨gr, 1, none⟩ = some (.int .i64 e.rd) := fun q => Since.cell hx1 (by omega) q
      have Hhx2 : ∀ q : Since y5.w, q.w.cell? ⟨gr, 2, none⟩ = some (.int .i64 e.s0) := fun q => Since.cell hx2 (by omega) q
      have Hhx3 : ∀ q : Since y5.w, q.w.cell? ⟨gr, 3, none⟩ = some (.int .i64 e.s1) := fun q => Since.cell hx3 (by omega) q
      have Hhx4 : ∀ q : Since y5.w, q.w.cell? ⟨gr, 4, none⟩ = some (.int .i64 e.e0) := fun q => Since.cell hx4 (by omega) q
      have Hhx5 : ∀ q : Since y5.w, q.w.cell? ⟨gr, 5, none⟩ = some (.int .i64 e.e1) := fun q => Since.cell hx5 (by omega) q
      have Hhx6 : ∀ q : Since y5.w, q.w.cell? ⟨gr, 6, none⟩ = some (.bool e.op) := fun q => Since.cell hx6 (by omega) q
      have Hhx7 : ∀ q : Since y5.w, q.w.cell? ⟨gr, 7, none⟩ = some (.slice e.la e.legs.length e.lc) := fun q => Since.cell hx7 (by omega) q
      have Hhx8 : ∀ q : Since y5.w, q.w.cell? ⟨gr, 8, none⟩ = some (.slice e.pa e.pauses.length e.pc) := fun q => Since.cell hx8 (by omega) q
      have Hhx9 : ∀ q : Since y5.w, q.w.cell? ⟨gr, 9, none⟩ = some (.int .i64 e.fw) := fun q => Since.cell hx9 (by omega) q
      have Hhx10 : ∀ q : Since y5.w, q.w.cell? ⟨gr, 10, none⟩ = some (.int .i64 e.fp) := fun q => Since.cell hx10 (by omega) q
      have Hhx11 : ∀ q : Since y5.w, q.w.cell? ⟨gr, 11, none⟩ = some (.int .i64 e.wh) := fun q => Since.cell hx11 (by omega) q
      have Hhx12 : ∀ q : Since y5.w, q.w.cell? ⟨gr, 12, none⟩ = some (.int .i64 e.pl) := fun q => Since.cell hx12 (by omega) q
      have Hhxf : ∀ (q : Since y5.w) (o : Nat), q.w.frozen? ⟨gr, o, none⟩ = false := fun q o => Since.free (hxf o) (by omega) q
      have Hhxg := Lib.hid (And.intro hsz0 hlt0)
      clear hlt0 hsz0
      clear hbc hbf Hhx0 Hhx1 Hhx2 Hhx3 Hhx4 Hhx5 Hhx6 Hhx7 Hhx8 Hhx9 Hhx10 Hhx11 Hhx12 Hhxf ra0 ra1 ra2 ra3 ra4 ra5 ra6 ra7 ra8 ra9 ra10 ra11 ra12
      by_cases hp : cP R each f t e = true
      case neg =>
        have hpf : cP R each f t e = false := by simpa using hp
        have Hsk := Lib.hid (show (R.take (k + 1)).filter (cP R each f t) = (R.take k).filter (cP R each f t) by rw [Hpk.out, hpf]; simp)
        have hno := cP_no hpf
        clear hp hpf Hpk Hea
        generalize ctd R each e = ct at *
        rcases hno with rfl | ⟨rfl, c2⟩ | ⟨rfl, c2, c3⟩ | ⟨rfl, c2, c3, c4, c5⟩
        all_goals
          go_wp2_with fail
          go_roundw
          case rel => refine ⟨k + 1, y5, sm, by omega, rfl, ?_, by go_num, rfl, ?_, ?_⟩ <;> rw [Hsk.out] <;> first | exact Hsm.out | exact HT.out | exact H0.out
          case measure => simp [intOf] <;> omega
      case pos =>
        obtain ⟨hct, c2, c3, c4⟩ := cP_yes hp
        rw [hct]
        have Hea2 := Lib.hid (fun hn => Hea.out hn hp)
        have Hpk2 := Lib.hid (show (R.take (k + 1)).filter (cP R each f t) = (R.take k).filter (cP R each f t) ++ [e] by rw [Hpk.out, hp]; simp)
        clear hct Hea Hpk hp
        have Hen := Lib.hid (show Calls Tryd.prog 45 #[.slice az zs.length cz, .int .i64 size, .agg #[.int .i64 e.id, .int .i64 e.rd, .int .i64 e.s0, .int .i64 e.s1, .int .i64 e.e0, .int .i64 e.e1, .bool e.op, .slice e.la e.legs.length e.lc, .slice e.pa e.pauses.length e.pc, .int .i64 e.fw, .int .i64 e.fp, .int .i64 e.wh, .int .i64 e.pl]] y5.w (EndRes zs e y5.w) from ends_calls y5.w (Since.self y5.w) az zs cz size e (Since.row HZ.out y5) hzl hI1 hI2)
        have hLl : ((R.take k).filter (cP R each f t)).length ≤ 256 := by
          have h1 := List.length_filter_le (cP R each f t) (R.take k)
          rw [List.length_take] at h1
          omega
        generalize (R.take k).filter (cP R each f t) = L at *
        rcases c4 with c4 | ⟨c4, c5⟩
        all_goals
          first
            | rw [c4] at Hen
            | rw [c5] at Hen
          go_wp2_with fail
          refine (Hen.out).mono ?_
          rintro _ _ ⟨rfl, z6, rfl⟩
          have hT6 := HT.out.to ⟨z6, rfl⟩
          obtain ⟨y6, h6⟩ := y5.trans z6
          rw [h6] at hT6 ⊢
          have HT6 := Lib.hid hT6
          clear hT6 h6 HT Hen hx0 hx1 hx2 hx3 hx4 hx5 hx6 hx7 hx8 hx9 hx10 hx11 hx12 hxf c2 c3 c4
          by_cases hne : endE zs e = 0
          case neg =>
            have HB := Lib.hid (Hno.out (endE zs e) (HE.out.trans (by rw [Hea2.out hne, if_pos hne])) hne)
            have hne2 : (endE zs e != 0) = true := by simpa using hne
            clear hne HE Hea2 Hyes Hno
            generalize endE zs e = E at *
            generalize endA zs e = A at *
            generalize endB zs e = B at *
            go_wp2_with fail
            have hsm : ∀ j, j < 3 → (y6.w.cell? ⟨bx + 1, j, none⟩).isSome = true := fun j hj => by
              match j, hj with
              | 0, _ => rw [hb1_0 y6]; rfl
              | 1, _ => rw [hb1_1 y6]; rfl
              | 2, _ => rw [hb1_2 y6]; rfl
            obtain ⟨z, hz, hc⟩ := set_many y6 (g := bx + 1) [.int .i64 0, .int .i64 0, .slice none 0 0] hsm (Hup.out y6) (by have := Hbx.out; omega)
            simp only [World.setCells, Nat.reduceAdd] at hz
            rw [hz]
            have hc0 := hc 0 _ rfl
            have hc1 := hc 1 _ rfl
            have hc2 := hc 2 _ rfl
            exact bodyPost_ret (v := .tuple #[.agg #[.int .i64 0, .int .i64 0, .slice none 0 0], .int .i64 E]) (by simp [results, Tryd.results21, go_sem, hc0, hc1, hc2]) rfl (HB.out z)
          case pos =>
            obtain ⟨eA, eB, ⟨a1, a2⟩, b1', b2'⟩ := ends_zero hne
            have Hall := Lib.hid (show ∀ r ∈ L ++ [e], endE zs r = 0 from fun r hr => by
              rcases List.mem_append.1 hr with h | h
              · exact H0.out r h
              · rw [List.mem_singleton.1 h]; exact hne)
            have Hbg := Lib.hid (show bigR zs size e = (decide (size ≤ fromZ zs e) || decide (size ≤ toZ zs e)) from rfl)
            have Hcl := Lib.hid (show celR zs size e = fromZ zs e * size + toZ zs e from rfl)
            rw [hne, eA, eB]
            clear hne eA eB
            generalize fromZ zs e = A at *
            generalize toZ zs e = B at *
            by_cases hbig : size ≤ A ∨ size ≤ B
            · have Hb1 := Lib.hid (show bigR zs size e = true by rw [Hbg.out]; simpa using hbig)
              have HT7 := Lib.hid (show TbAt y6.w g gc gt R.length N size (fun i => ctd R each (rAt R i)) (fun i => celN zs size (L ++ [e]) i) from ⟨HT6.out.bl, HT6.out.cl.congr (fun j _ => by rw [celN_snoc, Hb1.out]; simp), HT6.out.bx⟩)
              rcases (by omega : size ≤ A ∨ (¬ size ≤ A ∧ size ≤ B)) with c6 | ⟨c6, c7⟩
              all_goals
                clear hbig
                go_wp2_with fail
                go_roundw
                case rel => refine ⟨k + 1, y6, false, by omega, rfl, ?_, by go_num, rfl, ?_, ?_⟩ <;> rw [Hpk2.out] <;> first | exact HT7.out | exact Hall.out | (rw [List.any_append]; simp [Hb1.out])
                case measure => simp [intOf] <;> omega
            · obtain ⟨c6, c7⟩ : ¬ size ≤ A ∧ ¬ size ≤ B := by omega
              have Hb1 := Lib.hid (show bigR zs size e = false by rw [Hbg.out]; simp; omega)
              obtain ⟨i1, i2, i3, i4⟩ := tab_idx a1 (by omega : A < size) b1' (by omega : B < size) (by omega)
              obtain ⟨m, hm⟩ : ∃ m : Nat, A * size + B = (m : Int) := ⟨(A * size + B).toNat, by omega⟩
              have hmN : m < N := by have := HN.out; omega
              obtain ⟨n3, n4⟩ := celN_range zs size L m
              have q0 := HT6.out.cl.c m hmN
              have q1 := HT6.out.cl.f m hmN
              have q2 := HT6.out.bx.c 2 _ rfl
              obtain ⟨y7, h7⟩ := y6.set ⟨gc, m, none⟩ Hgc.out (.int .i64 (celN zs size L m + 1))
              have Hset := Lib.hid (show TbAt (y6.w.setCell ⟨gc, m, none⟩ (.int .i64 (celN zs size L m + 1))) g gc gt R.length N size (fun i => ctd R each (rAt R i)) (fun i => celN zs size (L ++ [e]) i) from ⟨HT6.out.bl.setNe _ _ Hgn.out.1, HT6.out.cl.set hmN _ (by rw [celN_snoc, Hb1.out, Hcl.out, hm]; simp) (fun j _ hj => by rw [celN_snoc, Hcl.out, hm, if_neg (fun h => by simp at h; exact hj (by have := h.2; omega))]; simp), HT6.out.bx.setNe _ _ (show gt ≠ gc by have := Hlt3.out; omega)⟩)
              have H7 := Lib.hid h7
              clear h7 hbig Hbg Hcl
              go_wp2_with fail
              go_roundw
              case rel => refine ⟨k + 1, y7, sm, by omega, rfl, ?_, by go_num, H7.out, ?_, ?_⟩ <;> rw [Hpk2.out] <;> first | exact H7.out ▸ Hset.out | exact Hall.out | (rw [List.any_append]; simp [Hb1.out]; exact Hsm.out)
              case measure => simp [intOf] <;> omega
    · obtain rfl : k = R.length := by omega
      have hE2 := Lib.hid (HE.out.trans (if_neg (by rw [cntL_eq, endsE_no (by have := H0.out; rwa [List.take_of_length_le (Nat.le_refl _)] at this)]; simp)))
      have Hsm2 := Lib.hid (show sm = (!((cntL R each f t).any (bigR zs size))) by rw [cntL_eq]; have := Hsm.out; rwa [List.take_of_length_le (Nat.le_refl _)] at this)
      cases sm
      case false =>
        have HB := Lib.hid (Hno.out 7 (hE2.out.trans (if_pos (sm_f Hsm2.out))) (by decide))
        clear HE hE2 Hsm Hsm2 H0 HT
        go_wp2_with fail
        have hsm : ∀ j, j < 3 → (y.w.cell? ⟨bx + 1, j, none⟩).isSome = true := fun j hj => by
          match j, hj with
          | 0, _ => rw [hb1_0 y]; rfl
          | 1, _ => rw [hb1_1 y]; rfl
          | 2, _ => rw [hb1_2 y]; rfl
        obtain ⟨z, hz, hc⟩ := set_many y (g := bx + 1) [.int .i64 0, .int .i64 0, .slice none 0 0] hsm (Hup.out y) (by have := Hbx.out; omega)
        simp only [World.setCells, Nat.reduceAdd] at hz
        rw [hz]
        have hc0 := hc 0 _ rfl
        have hc1 := hc 1 _ rfl
        have hc2 := hc 2 _ rfl
        exact bodyPost_ret (v := .tuple #[.agg #[.int .i64 0, .int .i64 0, .slice none 0 0], .int .i64 7]) (by simp [results, Tryd.results21, go_sem, hc0, hc1, hc2]) rfl (HB.out z)
      case true =>
        have hE3 : tabE zs size R f t each = 0 := hE2.out.trans (if_neg (sm_t Hsm2.out))
        have hlt2 : bx + 1 ≠ gc := by
          have h1 := Hbx.out
          have h2 := Hgc.out
          omega
        have hN9 := ((HT.out.cl.setOther ⟨bx + 1, 0, none⟩ hlt2 (.int .i64 size)).setOther ⟨bx + 1, 1, none⟩ hlt2 (.int .i64 size)).setOther ⟨bx + 1, 2, none⟩ hlt2 (.slice (some ⟨gc, 0, none⟩) N N)
        rw [List.take_of_length_le (Nat.le_refl _), ← cntL_eq] at hN9
        have HB := Lib.hid (fun z hv hz => Hyes.out hE3 (cells zs size (cntL R each f t)) rfl (some ⟨gc, 0, none⟩) N N (by unfold cells; rw [List.length_map, List.length_range]; have := HN.out; omega) z hv hz (Nat.le_refl _) (fun b hb => by cases hb; have h1 := Hbx.out; have h2 := Hgc.out; show w.heap.size ≤ gc; omega))
        have HN9 := Lib.hid (fun W' (hW : _ = W') => (show Nums W' gc N (celN zs size (cntL R each f t)) from hW ▸ hN9))
        clear hN9 hlt2
        have q0 := HT.out.bx.c 0 _ rfl
        have q1 := HT.out.bx.c 1 _ rfl
        have q2 := HT.out.bx.c 2 _ rfl
        clear HE hE2 hE3 Hsm Hsm2 H0
        go_wp2_with fail
        have hsm : ∀ j, j < 3 → (y.w.cell? ⟨bx + 1, j, none⟩).isSome = true := fun j hj => by
          match j, hj with
          | 0, _ => rw [hb1_0 y]; rfl
          | 1, _ => rw [hb1_1 y]; rfl
          | 2, _ => rw [hb1_2 y]; rfl
        obtain ⟨z, hz, hc⟩ := set_many y (g := bx + 1) [.int .i64 size, .int .i64 size, .slice (some ⟨gc, 0, none⟩) N N] hsm (Hup.out y) (by have := Hbx.out; omega)
        simp only [World.setCells, Nat.reduceAdd] at hz
        rw [hz]
        have hc0 := hc 0 _ rfl
        have hc1 := hc 1 _ rfl
        have hc2 := hc 2 _ rfl
        exact bodyPost_ret (v := .tuple #[.agg #[.int .i64 size, .int .i64 size, .slice (some ⟨gc, 0, none⟩) N N], .int .i64 0]) (by simp [results, Tryd.results21, go_sem, hc0, hc1, hc2]) rfl (HB.out z (fun b hb => by cases hb; exact ⟨gc, rfl, nums_vals (HN9.out _ hz) _ (by have := HN.out; omega)⟩) (nums_row (HN9.out _ hz) _ (by have := HN.out; omega)))
end Go.Proofs.YtdkcclngionihaaDoor
/- Releases, the program: the true table. -/
namespace Go.Proofs.YtdkcclngionihaaDoor
open Go.RowKit

/-- the error of a release's table, and the table -/
def rlE (zs : List Int) (size : Int) (R : List Ride) (f t each : Int) : Int := if tabE zs size R f t each ≠ 0 then tabE zs size R f t each else if each = 0 then 1 else 0
def rlT (zs : List Int) (size : Int) (R : List Ride) (f t each : Int) : Tab := if rlE zs size R f t each = 0 then tabV zs size R f t each else tab0
theorem tabres_no {w : World} {e : Int} (y : Since w) : TabRes w tab0 e (.returned (.tuple #[.agg #[.int .i64 0, .int .i64 0, .slice none 0 0], .int .i64 e])) y.w :=
  ⟨none, 0, y, rfl, rfl, row_nil' _, Nat.le_refl _, fun b h => (by cases h), fun b h => (by cases h)⟩
set_option linter.unusedSimpArgs false in
set_option maxRecDepth 100000 in
set_option maxHeartbeats 8000000 in
theorem rltable_calls (w : World) (x : Since w) (az : Option Addr) (zs : List Int) (cz : Nat) (size : Int) (a : Option Addr) (R : List Ride) (c : Nat) (f t each : Int) (hz : IntRow w az zs) (hzl : zs.length ≤ 9223372036854775807) (h : RideRow w a R) (hl : R.length ≤ 9223372036854775807) (hI : ∀ r ∈ R, r.fp ≤ 9223372036854775807 ∧ r.pl ≤ 9223372036854775807) :
    Calls Tryd.prog 30 #[.slice az zs.length cz, .int .i64 size, .slice a R.length c, .agg #[.int .i64 f, .int .i64 t], .int .i64 each] x.w (TabRes w (rlT zs size R f t each) (rlE zs size R f t each)) := by
  have HZ := Lib.hid hz
  have HR := Lib.hid h
  have HC := Lib.hid (fun (W : World) (y : Since W) hz h => table_calls W y az zs cz size a R c f t each hz hzl h hl hI)
  have HE := Lib.hid (show rlE zs size R f t each = if tabE zs size R f t each ≠ 0 then tabE zs size R f t each else if each = 0 then 1 else 0 from rfl)
  have HT := Lib.hid (show rlT zs size R f t each = if rlE zs size R f t each = 0 then tabV zs size R f t each else tab0 from rfl)
  generalize rlE zs size R f t each = E at *
  generalize rlT zs size R f t each = T at *
  generalize tabE zs size R f t each = E2 at *
  generalize tabV zs size R f t each = T2 at *
  generalize zs.length = nz at *
  generalize R.length = nr at *
  clear hz h hl hzl hI
  go_enter Tryd.func30, Tryd.ntmps30
  go_upto_region 1 with fail
  have hb0_0 : ∀ y : Since ((x.w.alloc (.cells #[.int .i64 f, .int .i64 t] 25)).alloc (.cells #[.int .i64 0, .int .i64 0, .slice none 0 0] 31)), y.w.cell? ⟨x.w.heap.size, 0, none⟩ = some (.int .i64 f) := fun y => Since.cell (by simp [go_sem]) (by first | (simp; done) | (simp; omega)) y
  have hb0_1 : ∀ y : Since ((x.w.alloc (.cells #[.int .i64 f, .int .i64 t] 25)).alloc (.cells #[.int .i64 0, .int .i64 0, .slice none 0 0] 31)), y.w.cell? ⟨x.w.heap.size, 1, none⟩ = some (.int .i64 t) := fun y => Since.cell (by simp [go_sem]) (by first | (simp; done) | (simp; omega)) y
  have hf0 : ∀ (y : Since ((x.w.alloc (.cells #[.int .i64 f, .int .i64 t] 25)).alloc (.cells #[.int .i64 0, .int .i64 0, .slice none 0 0] 31))) (o : Nat), y.w.frozen? ⟨x.w.heap.size, o, none⟩ = false := fun y o => Since.free (by simp [go_sem]) (by first | (simp; done) | (simp; omega)) y
  have hb1_0 : ∀ y : Since ((x.w.alloc (.cells #[.int .i64 f, .int .i64 t] 25)).alloc (.cells #[.int .i64 0, .int .i64 0, .slice none 0 0] 31)), y.w.cell? ⟨x.w.heap.size + 1, 0, none⟩ = some (.int .i64 0) := fun y => Since.cell (by simp [go_sem]) (by first | (simp; done) | (simp; omega)) y
  have hb1_1 : ∀ y : Since ((x.w.alloc (.cells #[.int .i64 f, .int .i64 t] 25)).alloc (.cells #[.int .i64 0, .int .i64 0, .slice none 0 0] 31)), y.w.cell? ⟨x.w.heap.size + 1, 1, none⟩ = some (.int .i64 0) := fun y => Since.cell (by simp [go_sem]) (by first | (simp; done) | (simp; omega)) y
  have hb1_2 : ∀ y : Since ((x.w.alloc (.cells #[.int .i64 f, .int .i64 t] 25)).alloc (.cells #[.int .i64 0, .int .i64 0, .slice none 0 0] 31)), y.w.cell? ⟨x.w.heap.size + 1, 2, none⟩ = some (.slice none 0 0) := fun y => Since.cell (by simp [go_sem]) (by first | (simp; done) | (simp; omega)) y
  have hf1 : ∀ (y : Since ((x.w.alloc (.cells #[.int .i64 f, .int .i64 t] 25)).alloc (.cells #[.int .i64 0, .int .i64 0, .slice none 0 0] 31))) (o : Nat), y.w.frozen? ⟨x.w.heap.size + 1, o, none⟩ = false := fun y o => Since.free (by simp [go_sem]) (by first | (simp; done) | (simp; omega)) y
  have hWup : ∃ z : Since w, ((x.w.alloc (.cells #[.int .i64 f, .int .i64 t] 25)).alloc (.cells #[.int .i64 0, .int .i64 0, .slice none 0 0] 31)) = z.w := Since.allocs x [.cells #[.int .i64 f, .int .i64 t] 25, .cells #[.int .i64 0, .int .i64 0, .slice none 0 0] 31]
  obtain ⟨y0, hy0⟩ := Since.refl ((x.w.alloc (.cells #[.int .i64 f, .int .i64 t] 25)).alloc (.cells #[.int .i64 0, .int .i64 0, .slice none 0 0] 31))
  have Hbx := Lib.hid (And.intro x.b.size (show x.w.heap.size + 2 = ((x.w.alloc (.cells #[.int .i64 f, .int .i64 t] 25)).alloc (.cells #[.int .i64 0, .int .i64 0, .slice none 0 0] 31)).heap.size from by simp))
  generalize hW : ((x.w.alloc (.cells #[.int .i64 f, .int .i64 t] 25)).alloc (.cells #[.int .i64 0, .int .i64 0, .slice none 0 0] 31)) = W at *
  clear hW
  generalize x.w.heap.size = bx at *
  have Hup := Lib.hid (Since.up hWup)
  rw [hy0]
  clear hy0
  replace HZ := Lib.hid (HZ.out.to hWup)
  replace HR := Lib.hid (HR.out.to hWup)
  clear hWup hf0
  have H1 := Lib.hid (HC.out W y0 HZ.out HR.out)
  clear HC
  go_upto_region 2 with (go_at_call 21; ((with_reducible refine H1.out.mono ?_); rintro _ _ ⟨a1, c1, y1, rfl, rfl, r1, r2, r3, r4⟩))
  have HR1 := Lib.hid r1; have HR2 := Lib.hid r2; have HR3 := Lib.hid r3; have HR4 := Lib.hid r4
  clear r1 r2 r3 r4 H1 HZ HR
  have hx0 : (y1.w.alloc (.cells #[.int .i64 T2.r, .int .i64 T2.c, .slice a1 T2.l.length c1] 31)).cell? ⟨y1.w.heap.size, 0, none⟩ = some (.int .i64 T2.r) := by simp [go_sem]
  have hx1 : (y1.w.alloc (.cells #[.int .i64 T2.r, .int .i64 T2.c, .slice a1 T2.l.length c1] 31)).cell? ⟨y1.w.heap.size, 1, none⟩ = some (.int .i64 T2.c) := by simp [go_sem]
  have hx2 : (y1.w.alloc (.cells #[.int .i64 T2.r, .int .i64 T2.c, .slice a1 T2.l.length c1] 31)).cell? ⟨y1.w.heap.size, 2, none⟩ = some (.slice a1 T2.l.length c1) := by simp [go_sem]
  have hxf : ∀ o, (y1.w.alloc (.cells #[.int .i64 T2.r, .int .i64 T2.c, .slice a1 T2.l.length c1] 31)).frozen? ⟨y1.w.heap.size, o, none⟩ = false := fun o => by simp [go_sem]
  have hlt0 : y1.w.heap.size < (y1.w.alloc (.cells #[.int .i64 T2.r, .int .i64 T2.c, .slice a1 T2.l.length c1] 31)).heap.size := by simp
  have hst0 : ∃ zz : Since y1.w, (y1.w.alloc (.cells #[.int .i64 T2.r, .int .i64 T2.c, .slice a1 T2.l.length c1] 31)) = zz.w := IsSince.alloc (IsSince.self _) _
  have hsz0 := y1.b.size
  obtain ⟨y2, e2⟩ := IsSince.alloc (IsSince.of y1) (.cells #[.int .i64 T2.r, .int .i64 T2.c, .slice a1 T2.l.length c1] 31)
  rw [e2] at hx0 hx1 hx2 hxf hlt0 hst0 ⊢
  (replace HR1 := Lib.hid (HR1.out.to hst0); replace HR4 := Lib.hid (fun b hb => (by obtain ⟨g, e, h4⟩ := HR4.out b hb; exact ⟨g, e, h4.to hst0⟩) : ∀ b, a1 = some b → ∃ g, b = ⟨g, 0, none⟩ ∧ Nums _ g T2.l.length (at0 T2.l)))
  clear e2 hst0
  generalize y1.w.heap.size = gt at *
  have Hhx0 : ∀ q : Since y2.w, q.w.cell? ⟨gt, 0, none⟩ = some (.int .i64 T2.r) := fun q => Since.cell hx0 (by omega) q
  have Hhx1 : ∀ q : Since y2.w, q.w.cell? ⟨gt, 1, none⟩ = some (.int .i64 T2.c) := fun q => Since.cell hx1 (by omega) q
  have Hhx2 : ∀ q : Since y2.w, q.w.cell? ⟨gt, 2, none⟩ = some (.slice a1 T2.l.length c1) := fun q => Since.cell hx2 (by omega) q
  have Hhxf : ∀ (q : Since y2.w) (o : Nat), q.w.frozen? ⟨gt, o, none⟩ = false := fun q o => Since.free (hxf o) (by omega) q
  have Hhxg := Lib.hid (And.intro hsz0 hlt0)
  clear hlt0 hsz0
  by_cases h1 : E2 = 0
  · by_cases h2 : each = 0
    · have hE : E = 1 := by rw [HE.out, if_neg (by simpa using h1), if_pos h2]
      have hT : T = tab0 := by rw [HT.out, if_neg (by rw [hE]; decide)]
      have HP := Lib.hid (fun y : Since w => show TabRes w T E (.returned (.tuple #[.agg #[.int .i64 0, .int .i64 0, .slice none 0 0], .int .i64 1])) y.w from by rw [hE, hT]; exact tabres_no y)
      clear hE hT HE HT
      go_wp2_with fail
      have hsm : ∀ j, j < 3 → (y2.w.cell? ⟨bx + 1, j, none⟩).isSome = true := fun j hj => by
        match j, hj with
        | 0, _ => rw [hb1_0 y2]; rfl
        | 1, _ => rw [hb1_1 y2]; rfl
        | 2, _ => rw [hb1_2 y2]; rfl
      obtain ⟨Z, hz, hc⟩ := set_many y2 (g := bx + 1) [.int .i64 0, .int .i64 0, .slice none 0 0] hsm (Hup.out y2) (by have := Hbx.out; omega)
      simp only [World.setCells, Nat.reduceAdd] at hz
      rw [hz]
      have hc0 := hc 0 _ rfl
      have hc1 := hc 1 _ rfl
      have hc2 := hc 2 _ rfl
      exact bodyPost_ret (v := .tuple #[.agg #[.int .i64 0, .int .i64 0, .slice none 0 0], .int .i64 1]) (by simp [results, Tryd.results30, go_sem, hc0, hc1, hc2]) rfl (HP.out Z)
    · have hE : E = 0 := by rw [HE.out, if_neg (by simpa using h1), if_neg h2]
      have hT : T = T2 := by rw [HT.out, if_pos hE]
      have HEQ := Lib.hid (And.intro hE hT)
      clear hE hT HE HT
      go_wp2_with fail
      have hg : ∀ b, a1 = some b → b.block ≠ bx + 1 := fun b hb => by have := HR3.out b hb; have := Hbx.out; omega
      have s1 := ((HR1.out.set ⟨bx + 1, 0, none⟩ (.int .i64 T2.r) hg).set ⟨bx + 1, 1, none⟩ (.int .i64 T2.c) hg).set ⟨bx + 1, 2, none⟩ (.slice a1 T2.l.length c1) hg
      have s4 : ∀ b, a1 = some b → ∃ g, b = ⟨g, 0, none⟩ ∧ Nums (((y2.w.setCell ⟨bx + 1, 0, none⟩ (.int .i64 T2.r)).setCell ⟨bx + 1, 1, none⟩ (.int .i64 T2.c)).setCell ⟨bx + 1, 2, none⟩ (.slice a1 T2.l.length c1)) g T2.l.length (at0 T2.l) := fun b hb => by
        obtain ⟨g, e, h4⟩ := HR4.out b hb
        have hne : bx + 1 ≠ g := by have := hg b hb; rw [e] at this; exact Ne.symm this
        exact ⟨g, e, ((h4.setOther ⟨bx + 1, 0, none⟩ hne _).setOther ⟨bx + 1, 1, none⟩ hne _).setOther ⟨bx + 1, 2, none⟩ hne _⟩
      have HS1 := Lib.hid s1; have HS4 := Lib.hid s4
      clear s1 s4 hg
      have hsm : ∀ j, j < 3 → (y2.w.cell? ⟨bx + 1, j, none⟩).isSome = true := fun j hj => by
        match j, hj with
        | 0, _ => rw [hb1_0 y2]; rfl
        | 1, _ => rw [hb1_1 y2]; rfl
        | 2, _ => rw [hb1_2 y2]; rfl
      obtain ⟨Z, hz, hc⟩ := set_many y2 (g := bx + 1) [.int .i64 T2.r, .int .i64 T2.c, .slice a1 T2.l.length c1] hsm (Hup.out y2) (by have := Hbx.out; omega)
      simp only [World.setCells, Nat.reduceAdd] at hz
      rw [hz]
      have hc0 := hc 0 _ rfl
      have hc1 := hc 1 _ rfl
      have hc2 := hc 2 _ rfl
      exact bodyPost_ret (v := .tuple #[.agg #[.int .i64 T2.r, .int .i64 T2.c, .slice a1 T2.l.length c1], .int .i64 0]) (by simp [results, Tryd.results30, go_sem, hc0, hc1, hc2]) rfl (by
        rw [HEQ.out.1, HEQ.out.2]
        exact ⟨a1, c1, Z, rfl, rfl, hz ▸ HS1.out, HR2.out, fun b hb => by have := HR3.out b hb; have := Hbx.out; omega, hz ▸ HS4.out⟩)
  · have hE : E = E2 := by rw [HE.out, if_pos h1]
    have hT : T = tab0 := by rw [HT.out, if_neg (by rw [hE]; exact h1)]
    have HP := Lib.hid (fun y : Since w => show TabRes w T E (.returned (.tuple #[.agg #[.int .i64 0, .int .i64 0, .slice none 0 0], .int .i64 E2])) y.w from by rw [hE, hT]; exact tabres_no y)
    clear hE hT HE HT
    go_wp2_with fail
    have hsm : ∀ j, j < 3 → (y2.w.cell? ⟨bx + 1, j, none⟩).isSome = true := fun j hj => by
      match j, hj with
      | 0, _ => rw [hb1_0 y2]; rfl
      | 1, _ => rw [hb1_1 y2]; rfl
      | 2, _ => rw [hb1_2 y2]; rfl
    obtain ⟨Z, hz, hc⟩ := set_many y2 (g := bx + 1) [.int .i64 0, .int .i64 0, .slice none 0 0] hsm (Hup.out y2) (by have := Hbx.out; omega)
    simp only [World.setCells, Nat.reduceAdd] at hz
    rw [hz]
    have hc0 := hc 0 _ rfl
    have hc1 := hc 1 _ rfl
    have hc2 := hc 2 _ rfl
    exact bodyPost_ret (v := .tuple #[.agg #[.int .i64 0, .int .i64 0, .slice none 0 0], .int .i64 E2]) (by simp [results, Tryd.results30, go_sem, hc0, hc1, hc2]) rfl (HP.out Z)
end Go.Proofs.YtdkcclngionihaaDoor
/- Releases, the program: sums of rows and columns, walked. -/
namespace Go.Proofs.YtdkcclngionihaaDoor
open Go.RowKit

theorem cntL_few (R : List Ride) (each f t : Int) : (cntL R each f t).length ≤ R.length := by
  rw [cntL_eq]; exact List.length_filter_le _ _
theorem at0_map (f : Nat → Int) (n i : Nat) (hi : i < n) : at0 ((List.range n).map f) i = f i := by
  unfold at0
  simp [List.getD_eq_getElem?_getD, hi]
theorem sumF_const (c : Int) : ∀ n, sumF (fun _ => c) n = c * (n : Int)
  | 0 => by simp [sumF]
  | n + 1 => by simp only [sumF]; rw [sumF_const c n, Int.natCast_add, Int.mul_add]; simp
theorem tab_good {zs : List Int} {size : Int} {R : List Ride} {f t each : Int} (h : tabE zs size R f t each = 0) (hl : R.length ≤ 1024) :
    ∃ n : Nat, size = (n : Int) ∧ tabV zs size R f t each = ⟨n, n, cells zs size (cntL R each f t)⟩ ∧ SG n n (cells zs size (cntL R each f t)) := by
  have hs : ¬ (size < 1 ∨ 8 < size ∨ f < 0 ∨ t < f ∨ 4294944000 < t) := fun hb => by
    unfold tabE at h; rw [if_pos hb] at h; cases h
  have hV : tabV zs size R f t each = ⟨size, size, cells zs size (cntL R each f t)⟩ := if_pos h
  obtain ⟨n, rfl⟩ : ∃ n : Nat, size = (n : Int) := ⟨size.toNat, by omega⟩
  have hn : (cells zs (n : Int) (cntL R each f t)).length = n * n := by
    unfold cells
    rw [List.length_map, List.length_range, ← Int.natCast_mul, Int.toNat_natCast]
  have hc : ∀ i, i < n * n → at0 (cells zs (n : Int) (cntL R each f t)) i = celN zs (n : Int) (cntL R each f t) i := fun i hi => by
    unfold cells
    rw [at0_map _ _ _ (by rw [← Int.natCast_mul, Int.toNat_natCast]; exact hi)]
  have hb : ∀ i, i < n * n → 0 ≤ at0 (cells zs (n : Int) (cntL R each f t)) i ∧ at0 (cells zs (n : Int) (cntL R each f t)) i ≤ 1024 := fun i hi => by
    rw [hc i hi]
    have h1 := celN_range zs (n : Int) (cntL R each f t) i
    have h2 := cntL_few R each f t
    omega
  refine ⟨n, rfl, hV, ⟨by omega, by omega⟩, ⟨by omega, by omega⟩, hn, fun i hi => (hb i (by omega)).1, ?_⟩
  rw [hn]
  have h3 := sumF_le (f := at0 (cells zs (n : Int) (cntL R each f t))) (g := fun _ => 1024) (n * n) (fun i hi => (hb i hi).2)
  rw [sumF_const] at h3
  have h4 : n * n ≤ 8 * 8 := Nat.mul_le_mul (by omega) (by omega)
  omega
/-- the sums of the first k cells -/
def rowF (C : Nat) (l : List Int) (k r : Nat) : Int := sumF (fun i => if i / C = r then at0 l i else 0) k
def colF (C : Nat) (l : List Int) (k c : Nat) : Int := sumF (fun i => if i % C = c then at0 l i else 0) k
def rowL (R C : Nat) (l : List Int) (k : Nat) : List Int := (List.range R).map (rowF C l k)
def colL (C : Nat) (l : List Int) (k : Nat) : List Int := (List.range C).map (colF C l k)
theorem list_bump {n q : Nat} {f g : Nat → Int} (_hq : q < n) (v : Int) (hv : g q = v) (ho : ∀ r, r < n → r ≠ q → g r = f r) : ((List.range n).map f).set q v = (List.range n).map g := by
  refine List.ext_getElem (by simp) fun i h1 h2 => ?_
  have hi : i < n := by simpa using h2
  rw [List.getElem_set]
  by_cases e : q = i
  · subst e; rw [if_pos rfl]; simp [hv]
  · rw [if_neg e]; simp [ho i hi (Ne.symm e)]
theorem rowL_step {R C : Nat} {l : List Int} {k : Nat} (hk : k / C < R) : (rowL R C l k).set (k / C) (at0 (rowL R C l k) (k / C) + at0 l k) = rowL R C l (k + 1) := by
  unfold rowL
  rw [at0_map _ _ _ hk]
  refine list_bump hk _ ?_ fun r hr hne => ?_
  · unfold rowF; simp only [sumF]; rw [if_pos trivial]
  · unfold rowF; simp only [sumF]; rw [if_neg (Ne.symm hne)]; omega
theorem colL_step {C : Nat} {l : List Int} {k : Nat} (hk : k % C < C) : (colL C l k).set (k % C) (at0 (colL C l k) (k % C) + at0 l k) = colL C l (k + 1) := by
  unfold colL
  rw [at0_map _ _ _ hk]
  refine list_bump hk _ ?_ fun r hr hne => ?_
  · unfold colF; simp only [sumF]; rw [if_pos trivial]
  · unfold colF; simp only [sumF]; rw [if_neg (Ne.symm hne)]; omega
theorem part_in {l : List Int} (hz : ∀ i, i < l.length → 0 ≤ at0 l i) (hs : sumF (at0 l) l.length ≤ 65536) (p : Nat → Prop) [DecidablePred p] {k : Nat} (hk : k ≤ l.length) : 0 ≤ sumF (fun i => if p i then at0 l i else 0) k ∧ sumF (fun i => if p i then at0 l i else 0) k ≤ 65536 := by
  constructor
  · have := sumF_le (f := fun _ => 0) (g := fun i => if p i then at0 l i else 0) k (fun i hi => by have := hz i (by omega); show (0 : Int) ≤ _; split <;> omega)
    rwa [sumF_zero] at this
  · have h1 := sumF_le (f := fun i => if p i then at0 l i else 0) (g := at0 l) k (fun i hi => by have := hz i (by omega); show _ ≤ _; split <;> omega)
    have h2 := (sumF_mono l.length hz k hk).2
    omega
theorem BoxIs.atI {w : World} {g : Nat} {F : List Int} (h : BoxIs w g (F.map (.int .i64))) {i : Nat} (hi : i < F.length) : w.cell? ⟨g, i, none⟩ = some (.int .i64 (at0 F i)) :=
  h.c i _ (by rw [List.getElem?_map, List.getElem?_eq_getElem hi]; simp [at0, List.getD_eq_getElem?_getD, List.getElem?_eq_getElem hi])
theorem BoxIs.setI {w : World} {g : Nat} {F : List Int} (h : BoxIs w g (F.map (.int .i64))) {i : Nat} (hi : i < F.length) (v : Int) : BoxIs (w.setCell ⟨g, i, none⟩ (.int .i64 v)) g ((F.set i v).map (.int .i64)) := by
  rw [List.map_set]
  exact h.setj (by rw [List.length_map]; exact hi) _
/-- what Exact has in memory -/
structure XS (w : World) (gt gr gL gR gC : Nat) (tv rv : List Value) (m : Nat) (cf : Nat → Int) (rows cols : List Int) (ah : Option Addr) (h : List Bool) : Prop where
  t : BoxIs w gt tv
  r : BoxIs w gr rv
  l : Nums w gL m cf
  a : BoxIs w gR (rows.map (.int .i64))
  b : BoxIs w gC (cols.map (.int .i64))
  h : BlRow w ah h
/-- where it lies -/
structure XD (B : World) (gt gr gL gR gC : Nat) (ah : Option Addr) : Prop where
  b : B.heap.size ≤ gL ∧ B.heap.size ≤ gR ∧ B.heap.size ≤ gC
  t : gt ≠ gL ∧ gt ≠ gR ∧ gt ≠ gC
  r : gr ≠ gL ∧ gr ≠ gR ∧ gr ≠ gC
  n : gL ≠ gR ∧ gL ≠ gC ∧ gR ≠ gC
  h : ∀ b, ah = some b → b.block ≠ gL ∧ b.block ≠ gR ∧ b.block ≠ gC
section
variable {w : World} {gt gr gL gR gC : Nat} {tv rv : List Value} {m : Nat} {cf : Nat → Int} {rows cols : List Int} {ah : Option Addr} {h : List Bool}
theorem XS.to {W : World} (s : XS w gt gr gL gR gC tv rv m cf rows cols ah h) (hW : ∃ z : Since w, W = z.w) : XS W gt gr gL gR gC tv rv m cf rows cols ah h :=
  ⟨s.t.to hW, s.r.to hW, s.l.to hW, s.a.to hW, s.b.to hW, s.h.to hW⟩
theorem XS.setR {B : World} (s : XS w gt gr gL gR gC tv rv m cf rows cols ah h) (d : XD B gt gr gL gR gC ah) {q : Nat} (hq : q < rows.length) (v : Int) : XS (w.setCell ⟨gR, q, none⟩ (.int .i64 v)) gt gr gL gR gC tv rv m cf (rows.set q v) cols ah h :=
  ⟨s.t.far _ _ d.t.2.1, s.r.far _ _ d.r.2.1, s.l.setOther _ (Ne.symm d.n.1) _, s.a.setI hq v, s.b.far _ _ (Ne.symm d.n.2.2), s.h.set _ _ fun b hb => (d.h b hb).2.1⟩
theorem XS.setC {B : World} (s : XS w gt gr gL gR gC tv rv m cf rows cols ah h) (d : XD B gt gr gL gR gC ah) {q : Nat} (hq : q < cols.length) (v : Int) : XS (w.setCell ⟨gC, q, none⟩ (.int .i64 v)) gt gr gL gR gC tv rv m cf rows (cols.set q v) ah h :=
  ⟨s.t.far _ _ d.t.2.2, s.r.far _ _ d.r.2.2, s.l.setOther _ (Ne.symm d.n.2.1) _, s.a.far _ _ d.n.2.2, s.b.setI hq v, s.h.set _ _ fun b hb => (d.h b hb).2.2⟩
theorem XS.setL {B : World} (s : XS w gt gr gL gR gC tv rv m cf rows cols ah h) (d : XD B gt gr gL gR gC ah) {q : Nat} (hq : q < m) (v : Int) {cf' : Nat → Int} (hv : cf' q = v) (ho : ∀ j, j < m → j ≠ q → cf' j = cf j) : XS (w.setCell ⟨gL, q, none⟩ (.int .i64 v)) gt gr gL gR gC tv rv m cf' rows cols ah h :=
  ⟨s.t.far _ _ d.t.1, s.r.far _ _ d.r.1, s.l.set hq v hv ho, s.a.far _ _ (Ne.symm d.n.1), s.b.far _ _ (Ne.symm d.n.2.1), s.h.set _ _ fun b hb => (d.h b hb).1⟩
end
set_option linter.unusedSimpArgs false in
set_option maxRecDepth 100000 in
set_option maxHeartbeats 8000000 in
theorem count_calls (B : World) (x : Since B) (n : Nat) (i : Nat) (gt gr gL gR gC m : Nat) (u0 u1 u2 u3 u4 u5 u6 u9 : Value) (cL : Nat) (cf : Nat → Int) (rows cols : List Int) (ah : Option Addr) (h : List Bool)
    (hs : XS x.w gt gr gL gR gC [.int .i64 (n : Int), .int .i64 (n : Int), .slice (some ⟨gL, 0, none⟩) m cL] [u0, u1, u2, u3, u4, u5, u6, .slice (some ⟨gR, 0, none⟩) n n, .slice (some ⟨gC, 0, none⟩) n n, u9] m cf rows cols ah h) (hd : XD B gt gr gL gR gC ah)
    (hi : i < m) (hn : 1 ≤ n ∧ n ≤ 8) (hq : i / n < n) (hr : rows.length = n) (hc : cols.length = n) (h1 : 0 ≤ cf i ∧ cf i ≤ 65536) (h2 : ∀ k, k < n → 0 ≤ at0 rows k ∧ at0 rows k ≤ 65536) (h3 : ∀ k, k < n → 0 ≤ at0 cols k ∧ at0 cols k ≤ 65536) :
    Calls Tryd.prog 32 #[.int .i64 (i : Int), .pointer (some ⟨gr, 0, none⟩), .pointer (some ⟨gt, 0, none⟩)] x.w fun o w' => ∃ y : Since B, o = .returned (.tuple #[]) ∧ w' = y.w ∧ XS y.w gt gr gL gR gC [.int .i64 (n : Int), .int .i64 (n : Int), .slice (some ⟨gL, 0, none⟩) m cL] [u0, u1, u2, u3, u4, u5, u6, .slice (some ⟨gR, 0, none⟩) n n, .slice (some ⟨gC, 0, none⟩) n n, u9] m cf (rows.set (i / n) (at0 rows (i / n) + cf i)) (cols.set (i % n) (at0 cols (i % n) + cf i)) ah h := by
  have hq2 : i % n < n := Nat.mod_lt _ (by omega)
  have e1 : (i : Int) / (n : Int) = ((i / n : Nat) : Int) := (Int.natCast_ediv _ _).symm
  have e2 : (i : Int) % (n : Int) = ((i % n : Nat) : Int) := (Int.natCast_emod _ _).symm
  have e3 : Int.tmod (i : Int) (n : Int) = ((i % n : Nat) : Int) := (Int.tmod_eq_emod_of_nonneg (by omega)).trans e2
  have Hs := Lib.hid hs
  have Hd := Lib.hid hd
  have b2 := h2 _ hq
  have b3 := h3 _ hq2
  have Hr := Lib.hid (show i / n < rows.length by omega)
  have Hc := Lib.hid (show i % n < cols.length by omega)
  have HgR := Lib.hid hd.b.2.1
  have HgC := Lib.hid hd.b.2.2
  clear hs hd h2 h3 hr hc
  obtain ⟨q, hqe⟩ : ∃ q, q = i / n := ⟨_, rfl⟩
  obtain ⟨p, hpe⟩ : ∃ p, p = i % n := ⟨_, rfl⟩
  simp only [← hqe, ← hpe] at *
  clear hqe hpe
  have hi0 : (0 : Int) ≤ (i : Int) := by omega
  have him : (i : Int) < (m : Int) := by omega
  have hq0 : (0 : Int) ≤ (q : Int) := by omega
  have hqn : (q : Int) < (n : Int) := by omega
  have hp0 : (0 : Int) ≤ (p : Int) := by omega
  have hpn : (p : Int) < (n : Int) := by omega
  have hnz : ¬ n = 0 := by omega
  have wq : IntKind.i64.wrap (q : Int) = (q : Int) := IntWalk.i64_in _ (by omega)
  have wp' : IntKind.i64.wrap (p : Int) = (p : Int) := IntWalk.i64_in _ (by omega)
  go_enter Tryd.func32, Tryd.ntmps32
  have HX := Lib.hid Hs.out
  have ws : IntKind.i64.wrap (at0 rows q + cf i) = at0 rows q + cf i := IntWalk.i64_in _ (by omega)
  have ws2 : IntKind.i64.wrap (at0 cols p + cf i) = at0 cols p + cf i := IntWalk.i64_in _ (by omega)
  have i7 := fun w' (h : IsSince x.w w') => IsSince.cell (Since.cell (HX.out.r.c 7 _ rfl) HX.out.r.lt) h
  have j1 := fun w' (h : IsSince x.w w') => IsSince.cell (Since.cell (HX.out.t.c 1 _ rfl) HX.out.t.lt) h
  have j2 := fun w' (h : IsSince x.w w') => IsSince.cell (Since.cell (HX.out.t.c 2 _ rfl) HX.out.t.lt) h
  have l0 := fun w' (h : IsSince x.w w') => IsSince.cell (Since.cell (HX.out.l.c i hi) HX.out.l.lt) h
  have g0 := fun w' (h : IsSince x.w w') => IsSince.cell (Since.cell (HX.out.a.atI Hr.out) HX.out.a.lt) h
  have q1 : x.w.drew.cell? ⟨gR, q, none⟩ = some (.int .i64 (at0 rows q)) := HX.out.a.atI Hr.out
  have qf : x.w.drew.frozen? ⟨gR, q, none⟩ = false := HX.out.a.f q
  go_upto_region 0 with fail
  refine wp_region_M (fun w' => IsSince x.w w') 15 (by kernel_rfl) (IsSince.drew' (IsSince.self _)) (fun hS => ?_)
  refine wpAnyM_takeU (i := 0) (v := ?_) rfl (by kernel_rfl) (by kernel_rfl) (by kernel_rfl) (by kernel_rfl) (fun _ _ _ h => h) hS (Or.inl ⟨by rfl, ?_⟩) ?_
  rotate_left
  · (intro w hSw; (try dsimp only at hSw); go_split_ands; go_simp; try (with_reducible rfl))
  (try simp only [Act.put, List.setIfInBounds_toArray, List.set_cons_zero, List.set_cons_succ])
  refine wpAnyM_takeU (i := 1) (v := ?_) rfl (by kernel_rfl) (by kernel_rfl) (by kernel_rfl) (by kernel_rfl) (fun _ _ _ h => h) hS (Or.inl ⟨by rfl, ?_⟩) ?_
  rotate_left
  · (intro w hSw; (try dsimp only at hSw); go_split_ands; go_simp; try (with_reducible rfl))
  (try simp only [Act.put, List.setIfInBounds_toArray, List.set_cons_zero, List.set_cons_succ])
  refine wpAnyM_takeU (i := 2) (v := ?_) rfl (by kernel_rfl) (by kernel_rfl) (by kernel_rfl) (by kernel_rfl) (fun _ _ _ h => h) hS (Or.inl ⟨by rfl, ?_⟩) ?_
  rotate_left
  · (intro w hSw; (try dsimp only at hSw); go_split_ands; go_simp; try (with_reducible rfl))
  (try simp only [Act.put, List.setIfInBounds_toArray, List.set_cons_zero, List.set_cons_succ])
  refine wpAnyM_takeU (i := 3) (v := ?_) rfl (by kernel_rfl) (by kernel_rfl) (by kernel_rfl) (by kernel_rfl) (fun _ _ _ h => h) hS (Or.inl ⟨by rfl, ?_⟩) ?_
  rotate_left
  · (intro w hSw; (try dsimp only at hSw); go_split_ands; go_simp; try (with_reducible rfl))
  (try simp only [Act.put, List.setIfInBounds_toArray, List.set_cons_zero, List.set_cons_succ])
  refine wpAnyM_takeU (i := 4) (v := ?_) rfl (by kernel_rfl) (by kernel_rfl) (by kernel_rfl) (by kernel_rfl) (fun _ _ _ h => h) hS (Or.inl ⟨by rfl, ?_⟩) ?_
  rotate_left
  · (intro w hSw; (try dsimp only at hSw); go_split_ands; go_simp; try (with_reducible rfl))
  (try simp only [Act.put, List.setIfInBounds_toArray, List.set_cons_zero, List.set_cons_succ])
  refine wpAnyM_takeU (i := 5) (v := ?_) rfl (by kernel_rfl) (by kernel_rfl) (by kernel_rfl) (by kernel_rfl) (fun _ _ _ h => h) hS (Or.inl ⟨by rfl, ?_⟩) ?_
  rotate_left
  · (intro w hSw; (try dsimp only at hSw); go_split_ands; go_simp; try (with_reducible rfl))
  (try simp only [Act.put, List.setIfInBounds_toArray, List.set_cons_zero, List.set_cons_succ])
  refine wpAnyM_takeU (i := 6) (v := ?_) rfl (by kernel_rfl) (by kernel_rfl) (by kernel_rfl) (by kernel_rfl) (fun _ _ _ h => h) hS (Or.inl ⟨by rfl, ?_⟩) ?_
  rotate_left
  · (intro w hSw; (try dsimp only at hSw); go_split_ands; go_simp; try (with_reducible rfl))
  (try simp only [Act.put, List.setIfInBounds_toArray, List.set_cons_zero, List.set_cons_succ])
  refine wpAnyM_takeU (i := 7) (v := ?_) rfl (by kernel_rfl) (by kernel_rfl) (by kernel_rfl) (by kernel_rfl) (fun _ _ _ h => h) hS (Or.inl ⟨by rfl, ?_⟩) ?_
  rotate_left
  · (intro w hSw; (try dsimp only at hSw); go_split_ands; go_simp; try (with_reducible rfl))
  (try simp only [Act.put, List.setIfInBounds_toArray, List.set_cons_zero, List.set_cons_succ])
  refine wpAnyM_takeU (i := 8) (v := ?_) rfl (by kernel_rfl) (by kernel_rfl) (by kernel_rfl) (by kernel_rfl) (fun _ _ _ h => h) hS (Or.inl ⟨by rfl, ?_⟩) ?_
  rotate_left
  · (intro w hSw; (try dsimp only at hSw); go_split_ands; go_simp; try (with_reducible rfl))
  (try simp only [Act.put, List.setIfInBounds_toArray, List.set_cons_zero, List.set_cons_succ])
  refine wpAnyM_takeU (i := 9) (v := ?_) rfl (by kernel_rfl) (by kernel_rfl) (by kernel_rfl) (by kernel_rfl) (fun _ _ _ h => h) hS (Or.inl ⟨by rfl, ?_⟩) ?_
  rotate_left
  · (intro w hSw; (try dsimp only at hSw); go_split_ands; go_simp; try (with_reducible rfl))
  (try simp only [Act.put, List.setIfInBounds_toArray, List.set_cons_zero, List.set_cons_succ])
  refine wpAnyM_takeU (i := 10) (v := ?_) rfl (by kernel_rfl) (by kernel_rfl) (by kernel_rfl) (by kernel_rfl) (fun _ _ _ h => h) hS (Or.inl ⟨by rfl, ?_⟩) ?_
  rotate_left
  · (intro w hSw; (try dsimp only at hSw); go_split_ands; go_simp; try (with_reducible rfl))
  (try simp only [Act.put, List.setIfInBounds_toArray, List.set_cons_zero, List.set_cons_succ])
  refine wpAnyM_takeU (i := 11) (v := ?_) rfl (by kernel_rfl) (by kernel_rfl) (by kernel_rfl) (by kernel_rfl) (fun _ _ _ h => h) hS (Or.inl ⟨by rfl, ?_⟩) ?_
  rotate_left
  · (intro w hSw; (try dsimp only at hSw); go_split_ands; go_simp; try (with_reducible rfl))
  (try simp only [Act.put, List.setIfInBounds_toArray, List.set_cons_zero, List.set_cons_succ])
  refine wpAnyM_takeU (i := 12) (v := ?_) rfl (by kernel_rfl) (by kernel_rfl) (by kernel_rfl) (by kernel_rfl) (fun _ _ _ h => h) hS (Or.inl ⟨by rfl, ?_⟩) ?_
  rotate_left
  · (intro w hSw; (try dsimp only at hSw); go_split_ands; go_simp; try (with_reducible rfl))
  (try simp only [Act.put, List.setIfInBounds_toArray, List.set_cons_zero, List.set_cons_succ])
  refine wpAnyM_takeU (i := 13) (v := ?_) rfl (by kernel_rfl) (by kernel_rfl) (by kernel_rfl) (by kernel_rfl) (fun _ _ _ h => h) hS (Or.inl ⟨by rfl, ?_⟩) ?_
  rotate_left
  · (intro w hSw; (try dsimp only at hSw); go_split_ands; go_simp; try (with_reducible rfl))
  (try simp only [Act.put, List.setIfInBounds_toArray, List.set_cons_zero, List.set_cons_succ])
  refine wpAnyM_takeU (i := 14) (v := ?_) rfl (by kernel_rfl) (by kernel_rfl) (by kernel_rfl) (by kernel_rfl) (fun _ _ _ h => h) hS (Or.inl ⟨by rfl, ?_⟩) ?_
  rotate_left
  · (intro w hSw; (try dsimp only at hSw); go_split_ands; go_simp; try (with_reducible rfl))
  (try simp only [Act.put, List.setIfInBounds_toArray, List.set_cons_zero, List.set_cons_succ])
  refine wpAnyM_one (i := 15) (by kernel_rfl) rfl (fun K hK => ?_)
  go_simp
  refine hK.out _ _ (Or.inl rfl) (fun _ => ?_)
  clear hK K hS
  (try simp only [Act.put, List.setIfInBounds_toArray, List.set_cons_zero, List.set_cons_succ])
  refine wpAnyM_done (by kernel_rfl) ?_
  clear i7 j1 j2 l0 g0 q1 qf
  obtain ⟨y, hy⟩ : ∃ y : Since B, (x.w.setCell ⟨gR, q, none⟩ (.int .i64 (at0 rows q + cf i))).drew = y.w := IsSince.drew' (IsSince.set (IsSince.of x) _ HgR.out _)
  have hx := (HX.out.setR Hd.out Hr.out (at0 rows q + cf i)).to (IsSince.drew' (IsSince.self _))
  rw [hy] at hx ⊢
  clear hy HX
  have HX := Lib.hid hx
  clear hx
  go_upto_region 1 with fail
  have i8 := fun w' (h : IsSince y.w w') => IsSince.cell (Since.cell (HX.out.r.c 8 _ rfl) HX.out.r.lt) h
  have j1 := fun w' (h : IsSince y.w w') => IsSince.cell (Since.cell (HX.out.t.c 1 _ rfl) HX.out.t.lt) h
  have j2 := fun w' (h : IsSince y.w w') => IsSince.cell (Since.cell (HX.out.t.c 2 _ rfl) HX.out.t.lt) h
  have l0 := fun w' (h : IsSince y.w w') => IsSince.cell (Since.cell (HX.out.l.c i hi) HX.out.l.lt) h
  have g0 := fun w' (h : IsSince y.w w') => IsSince.cell (Since.cell (HX.out.b.atI Hc.out) HX.out.b.lt) h
  have q1 : y.w.drew.cell? ⟨gC, p, none⟩ = some (.int .i64 (at0 cols p)) := HX.out.b.atI Hc.out
  have qf : y.w.drew.frozen? ⟨gC, p, none⟩ = false := HX.out.b.f p
  refine wp_region_M (fun w' => IsSince y.w w') 15 (by kernel_rfl) (IsSince.drew' (IsSince.self _)) (fun hS => ?_)
  refine wpAnyM_takeU (i := 0) (v := ?_) rfl (by kernel_rfl) (by kernel_rfl) (by kernel_rfl) (by kernel_rfl) (fun _ _ _ h => h) hS (Or.inl ⟨by rfl, ?_⟩) ?_
  rotate_left
  · (intro w hSw; (try dsimp only at hSw); go_split_ands; go_simp; try (with_reducible rfl))
  (try simp only [Act.put, List.setIfInBounds_toArray, List.set_cons_zero, List.set_cons_succ])
  refine wpAnyM_takeU (i := 1) (v := ?_) rfl (by kernel_rfl) (by kernel_rfl) (by kernel_rfl) (by kernel_rfl) (fun _ _ _ h => h) hS (Or.inl ⟨by rfl, ?_⟩) ?_
  rotate_left
  · (intro w hSw; (try dsimp only at hSw); go_split_ands; go_simp; try (with_reducible rfl))
  (try simp only [Act.put, List.setIfInBounds_toArray, List.set_cons_zero, List.set_cons_succ])
  refine wpAnyM_takeU (i := 2) (v := ?_) rfl (by kernel_rfl) (by kernel_rfl) (by kernel_rfl) (by kernel_rfl) (fun _ _ _ h => h) hS (Or.inl ⟨by rfl, ?_⟩) ?_
  rotate_left
  · (intro w hSw; (try dsimp only at hSw); go_split_ands; go_simp; try (with_reducible rfl))
  (try simp only [Act.put, List.setIfInBounds_toArray, List.set_cons_zero, List.set_cons_succ])
  refine wpAnyM_takeU (i := 3) (v := ?_) rfl (by kernel_rfl) (by kernel_rfl) (by kernel_rfl) (by kernel_rfl) (fun _ _ _ h => h) hS (Or.inl ⟨by rfl, ?_⟩) ?_
  rotate_left
  · (intro w hSw; (try dsimp only at hSw); go_split_ands; go_simp; try (with_reducible rfl))
  (try simp only [Act.put, List.setIfInBounds_toArray, List.set_cons_zero, List.set_cons_succ])
  refine wpAnyM_takeU (i := 4) (v := ?_) rfl (by kernel_rfl) (by kernel_rfl) (by kernel_rfl) (by kernel_rfl) (fun _ _ _ h => h) hS (Or.inl ⟨by rfl, ?_⟩) ?_
  rotate_left
  · (intro w hSw; (try dsimp only at hSw); go_split_ands; go_simp; try (with_reducible rfl))
  (try simp only [Act.put, List.setIfInBounds_toArray, List.set_cons_zero, List.set_cons_succ])
  refine wpAnyM_takeU (i := 5) (v := ?_) rfl (by kernel_rfl) (by kernel_rfl) (by kernel_rfl) (by kernel_rfl) (fun _ _ _ h => h) hS (Or.inl ⟨by rfl, ?_⟩) ?_
  rotate_left
  · (intro w hSw; (try dsimp only at hSw); go_split_ands; go_simp; try (with_reducible rfl))
  (try simp only [Act.put, List.setIfInBounds_toArray, List.set_cons_zero, List.set_cons_succ])
  refine wpAnyM_takeU (i := 6) (v := ?_) rfl (by kernel_rfl) (by kernel_rfl) (by kernel_rfl) (by kernel_rfl) (fun _ _ _ h => h) hS (Or.inl ⟨by rfl, ?_⟩) ?_
  rotate_left
  · (intro w hSw; (try dsimp only at hSw); go_split_ands; go_simp; try (with_reducible rfl))
  (try simp only [Act.put, List.setIfInBounds_toArray, List.set_cons_zero, List.set_cons_succ])
  refine wpAnyM_takeU (i := 7) (v := ?_) rfl (by kernel_rfl) (by kernel_rfl) (by kernel_rfl) (by kernel_rfl) (fun _ _ _ h => h) hS (Or.inl ⟨by rfl, ?_⟩) ?_
  rotate_left
  · (intro w hSw; (try dsimp only at hSw); go_split_ands; go_simp; try (with_reducible rfl))
  (try simp only [Act.put, List.setIfInBounds_toArray, List.set_cons_zero, List.set_cons_succ])
  refine wpAnyM_takeU (i := 8) (v := ?_) rfl (by kernel_rfl) (by kernel_rfl) (by kernel_rfl) (by kernel_rfl) (fun _ _ _ h => h) hS (Or.inl ⟨by rfl, ?_⟩) ?_
  rotate_left
  · (intro w hSw; (try dsimp only at hSw); go_split_ands; go_simp; try (with_reducible rfl))
  (try simp only [Act.put, List.setIfInBounds_toArray, List.set_cons_zero, List.set_cons_succ])
  refine wpAnyM_takeU (i := 9) (v := ?_) rfl (by kernel_rfl) (by kernel_rfl) (by kernel_rfl) (by kernel_rfl) (fun _ _ _ h => h) hS (Or.inl ⟨by rfl, ?_⟩) ?_
  rotate_left
  · (intro w hSw; (try dsimp only at hSw); go_split_ands; go_simp; try (with_reducible rfl))
  (try simp only [Act.put, List.setIfInBounds_toArray, List.set_cons_zero, List.set_cons_succ])
  refine wpAnyM_takeU (i := 10) (v := ?_) rfl (by kernel_rfl) (by kernel_rfl) (by kernel_rfl) (by kernel_rfl) (fun _ _ _ h => h) hS (Or.inl ⟨by rfl, ?_⟩) ?_
  rotate_left
  · (intro w hSw; (try dsimp only at hSw); go_split_ands; go_simp; try (with_reducible rfl))
  (try simp only [Act.put, List.setIfInBounds_toArray, List.set_cons_zero, List.set_cons_succ])
  refine wpAnyM_takeU (i := 11) (v := ?_) rfl (by kernel_rfl) (by kernel_rfl) (by kernel_rfl) (by kernel_rfl) (fun _ _ _ h => h) hS (Or.inl ⟨by rfl, ?_⟩) ?_
  rotate_left
  · (intro w hSw; (try dsimp only at hSw); go_split_ands; go_simp; try (with_reducible rfl))
  (try simp only [Act.put, List.setIfInBounds_toArray, List.set_cons_zero, List.set_cons_succ])
  refine wpAnyM_takeU (i := 12) (v := ?_) rfl (by kernel_rfl) (by kernel_rfl) (by kernel_rfl) (by kernel_rfl) (fun _ _ _ h => h) hS (Or.inl ⟨by rfl, ?_⟩) ?_
  rotate_left
  · (intro w hSw; (try dsimp only at hSw); go_split_ands; go_simp; try (with_reducible rfl))
  (try simp only [Act.put, List.setIfInBounds_toArray, List.set_cons_zero, List.set_cons_succ])
  refine wpAnyM_takeU (i := 13) (v := ?_) rfl (by kernel_rfl) (by kernel_rfl) (by kernel_rfl) (by kernel_rfl) (fun _ _ _ h => h) hS (Or.inl ⟨by rfl, ?_⟩) ?_
  rotate_left
  · (intro w hSw; (try dsimp only at hSw); go_split_ands; go_simp; try (with_reducible rfl))
  (try simp only [Act.put, List.setIfInBounds_toArray, List.set_cons_zero, List.set_cons_succ])
  refine wpAnyM_takeU (i := 14) (v := ?_) rfl (by kernel_rfl) (by kernel_rfl) (by kernel_rfl) (by kernel_rfl) (fun _ _ _ h => h) hS (Or.inl ⟨by rfl, ?_⟩) ?_
  rotate_left
  · (intro w hSw; (try dsimp only at hSw); go_split_ands; go_simp; try (with_reducible rfl))
  (try simp only [Act.put, List.setIfInBounds_toArray, List.set_cons_zero, List.set_cons_succ])
  refine wpAnyM_one (i := 15) (by kernel_rfl) rfl (fun K hK => ?_)
  go_simp
  refine hK.out _ _ (Or.inl rfl) (fun _ => ?_)
  clear hK K hS
  (try simp only [Act.put, List.setIfInBounds_toArray, List.set_cons_zero, List.set_cons_succ])
  refine wpAnyM_done (by kernel_rfl) ?_
  clear i8 j1 j2 l0 g0 q1 qf
  obtain ⟨z, hz⟩ : ∃ z : Since B, (y.w.setCell ⟨gC, p, none⟩ (.int .i64 (at0 cols p + cf i))).drew = z.w := IsSince.drew' (IsSince.set (IsSince.of y) _ HgC.out _)
  have hx := (HX.out.setC Hd.out Hc.out (at0 cols p + cf i)).to (IsSince.drew' (IsSince.self _))
  rw [hz] at hx ⊢
  clear hz HX
  have HX := Lib.hid hx
  clear hx
  go_wp2_with fail
  refine bodyPost_end (v := .tuple #[]) (by simp [results, Tryd.results32, go_sem]) rfl ?_
  exact (by first | exact ⟨rfl, z, rfl, HX.out⟩ | exact ⟨z, rfl, rfl, HX.out⟩)
end Go.Proofs.YtdkcclngionihaaDoor
