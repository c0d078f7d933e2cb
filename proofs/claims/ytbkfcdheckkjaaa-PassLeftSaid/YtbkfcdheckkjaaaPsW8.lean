/- The walks of passes, eighth part: Use and Left. -/
import Derived.Test.YtbkfcdheckkjaaaPsW7
set_option linter.all false
namespace Go.Proofs.Ytbkfcdheckkjaaa
open Go.RowKit

/-- what a list that Use returns is -/
structure UseOk (lp : List Pass) (R : List Ride) (us : List Int) : Prop where
  ok : usesE lp R = 0 → us.length = R.length ∧ IsUse lp R (at0 us)
  no : usesE lp R ≠ 0 → us = []
theorem UseOk.unique {lp : List Pass} {R : List Ride} {us vs : List Int} (h : UseOk lp R us) (k : UseOk lp R vs) : us = vs := by
  by_cases he : usesE lp R = 0
  · obtain ⟨h1, h2⟩ := h.ok he
    obtain ⟨k1, k2⟩ := k.ok he
    refine List.ext_getElem (by omega) fun i hi hj => ?_
    have := use_unique h2 k2 i (by omega)
    unfold at0 at this
    rw [List.getD_eq_getElem?_getD, List.getD_eq_getElem?_getD, List.getElem?_eq_getElem hi, List.getElem?_eq_getElem hj] at this
    exact this
  · rw [h.no he, k.no he]
theorem at0_range (u : Nat → Int) (n i : Nat) (hi : i < n) : at0 ((List.range n).map u) i = u i := by
  unfold at0
  rw [List.getD_eq_getElem?_getD, List.getElem?_map, List.getElem?_range hi]; rfl
theorem IsUse.congr {lp : List Pass} {R : List Ride} {u v : Nat → Int} (h : IsUse lp R u) (he : ∀ i, i < R.length → u i = v i) : IsUse lp R v := fun i hi => by
  rw [← he i hi, h i hi]
  exact firstP_congr fun k _ => cnt_congr (fun j hj _ => he j hj) _
theorem UseOk.of {lp : List Pass} {R : List Ride} {u : Nat → Int} (he : usesE lp R = 0) (h : IsUse lp R u) : UseOk lp R ((List.range R.length).map u) :=
  ⟨fun _ => ⟨by simp, h.congr fun i hi => (at0_range u _ i hi).symm⟩, fun hn => (hn he).elim⟩
theorem Row.congr {w : World} {a : Option Addr} {n : Nat} {f f' : Nat → Value} (h : Row w a n f) (he : ∀ i, i < n → f i = f' i) : Row w a n f' := fun i hi => by
  obtain ⟨b, off, ha, hb, hc⟩ := h i hi
  exact ⟨b, off, ha, hb, by rw [hc, he i hi]⟩
theorem rideE_rng {r : Ride} (h : rideE r = 0) : rangedB r = true := by
  unfold rideE at h
  cases hr : rangedB r
  · rw [hr] at h; simp at h
  · rfl
theorem rangedB_head {r : Ride} (h : rangedB r = true) : 1 ≤ r.id ∧ r.id ≤ 1000000 ∧ 0 ≤ r.rd ∧ r.rd ≤ 127 ∧ 0 ≤ r.s0 ∧ r.s0 ≤ r.s1 ∧ r.s1 ≤ 4294943999 ∧ 0 ≤ r.e0 ∧ r.e0 ≤ r.e1 ∧ r.e1 ≤ 4294943999 := by
  unfold rangedB headV at h
  simp only [Bool.and_eq_true, decide_eq_true_eq, vldS_iff] at h
  omega
theorem firstErr_zero {l : List Ride} (h : firstErr l = 0) : ∀ r ∈ l, rideE r = 0 := by
  intro r hr
  unfold firstErr at h
  cases hf : l.find? (fun r => rideE r != 0) with
  | none =>
    rw [List.find?_eq_none] at hf
    simpa using hf r hr
  | some x =>
    rw [hf] at h
    have := List.find?_some hf
    simp at this
    exact (this h).elim
theorem ridesE_zero {R : List Ride} (h : ridesE R = 0) : R.length ≤ 256 ∧ (R.map fun r : Ride => r.id).Nodup ∧ ∀ r ∈ R, rideE r = 0 := by
  unfold ridesE at h
  by_cases h1 : 256 < R.length
  · rw [if_pos h1] at h; cases h
  · rw [if_neg h1] at h
    by_cases h2 : firstErr R = 0
    · rw [if_neg (by simpa using h2)] at h
      rcases dupB_cases (R.map fun r : Ride => r.id) with ⟨hd, _⟩ | ⟨_, hn⟩
      · rw [hd] at h; simp at h
      · exact ⟨by omega, hn, firstErr_zero h2⟩
    · rw [if_pos h2] at h; exact (h2 h).elim
theorem usesE_zero {lp : List Pass} {R : List Ride} (h : usesE lp R = 0) : passE lp = 0 ∧ ridesE R = 0 := by
  unfold usesE at h
  by_cases h1 : passE lp = 0
  · rw [if_neg (by simpa using h1)] at h; exact ⟨h1, h⟩
  · rw [if_pos h1] at h; exact (h1 h).elim
theorem passE_zero {lp : List Pass} (h : passE lp = 0) : lp.length ≤ 64 ∧ (∀ p ∈ lp, goodP p = true) ∧ (lp.map (·.id)).Nodup := by
  unfold passE at h
  by_cases h1 : 64 < lp.length
  · rw [if_pos h1] at h; cases h
  · rw [if_neg h1] at h
    cases h2 : lp.all goodP
    · rw [h2] at h; simp at h
    · rw [h2] at h
      rcases dupB_cases (lp.map (·.id)) with ⟨hd, _⟩ | ⟨_, hn⟩
      · rw [hd] at h; simp at h
      · exact ⟨by omega, List.all_eq_true.1 h2, hn⟩
theorem rides_s0 {R : List Ride} (h : ridesE R = 0) : ∀ r ∈ R, 0 ≤ r.s0 ∧ r.s0 ≤ 4294943999 := fun r hr => by
  have := rangedB_head (rideE_rng ((ridesE_zero h).2.2 r hr)); omega
def UseRes (w : World) (lp : List Pass) (R : List Ride) (o : Ending) (w' : World) : Prop :=
  ∃ (a : Option Addr) (cap : Nat) (us : List Int) (y : Since w), o = .returned (.tuple #[.slice a us.length cap, .int .i64 (usesE lp R)]) ∧ w' = y.w ∧ IntRow y.w a us ∧ UseOk lp R us
set_option maxRecDepth 100000 in
set_option maxHeartbeats 4000000 in
theorem useX_calls (w : World) (x : Since w) (pa : Option Addr) (lp : List Pass) (pc : Nat) (a : Option Addr) (R : List Ride) (c : Nat) (hp : PassRow w pa lp) (hpl : lp.length ≤ 9223372036854775807) (h : RideRow w a R) (hl : R.length ≤ 9223372036854775807) :
    Calls Try.prog 13 #[.slice pa lp.length pc, .slice a R.length c] x.w (UseRes w lp R) := by
  have Hc := Lib.hid (fun y : Since w => checked_calls w y pa lp pc a R c hp hpl h hl)
  by_cases hz : usesE lp R = 0
  · obtain ⟨hz1, hz2⟩ := usesE_zero hz
    have Hu := Lib.hid (fun y : Since w => use_calls w y pa lp pc a R c hp (passE_zero hz1).1 h (ridesE_zero hz2).1 (ridesE_zero hz2).2.1 (rides_s0 hz2))
    have Hz := Lib.hid hz
    rw [hz] at Hc
    clear hp h hz hz1 hz2
    go_enter Try.func13, Try.ntmps13
    go_wp2_with fail
    refine (Hc.out _).mono ?_
    rintro _ _ ⟨rfl, y1, rfl⟩
    go_wp2_with fail
    refine (Hu.out _).mono ?_
    rintro _ _ ⟨a2, cap, y2, u, rfl, rfl, hU, hR⟩
    have HU := Lib.hid hU; have HR := Lib.hid hR
    clear hU hR
    go_wp2_with fail
    go_ret2
    refine ⟨a2, cap, (List.range R.length).map u, y2, ?_, rfl, ?_, UseOk.of Hz.out HU.out⟩
    · rw [Hz.out, List.length_map, List.length_range]; rfl
    · rw [IntRow, List.length_map, List.length_range]
      exact HR.out.congr fun i hi => by rw [at0_range u _ i hi]
  · have hzb : (usesE lp R != 0) = true := by simpa using hz
    have Hn := Lib.hid (show UseOk lp R [] from ⟨fun h => (hz h).elim, fun _ => rfl⟩)
    clear hp h hz
    have Hpost := Lib.hid (show ∀ (y : Since w), UseRes w lp R (.returned (.tuple #[.slice none 0 0, .int .i64 (usesE lp R)])) y.w from fun y => ⟨none, 0, [], y, rfl, rfl, fun i hi => by simp at hi, Hn.out⟩)
    generalize UseRes w lp R = PO at *
    generalize usesE lp R = ue at *
    go_enter Try.func13, Try.ntmps13
    go_wp2_with fail
    refine (Hc.out _).mono ?_
    rintro _ _ ⟨rfl, y1, rfl⟩
    go_wp2_with fail
    exact Hpost.out y1
end Go.Proofs.Ytbkfcdheckkjaaa
