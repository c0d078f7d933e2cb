/- The laws of passes, third part: the chapter's examples. -/
import Derived.Test.YtbkfcdheckkjaaaPsL2
import Derived.Test.YtbkfcdheckkjaaaMake
set_option linter.all false
namespace Go.Proofs.Ytbkfcdheckkjaaa
open Go.RowKit

theorem bare_e (r : Ride) : rideE r.bare = rideE r := rfl
theorem rAt_bare (R : List Ride) (i : Nat) : rAt (R.map Ride.bare) i = (rAt R i).bare := by
  unfold rAt
  rw [List.getD_eq_getElem?_getD, List.getD_eq_getElem?_getD, List.getElem?_map]
  cases R[i]? <;> rfl
theorem firstErr_bare (R : List Ride) : firstErr (R.map Ride.bare) = firstErr R := by
  unfold firstErr
  induction R with
  | nil => rfl
  | cons r R ih =>
    simp only [List.map_cons, List.find?_cons, bare_e]
    cases rideE r != 0
    · exact ih
    · rfl
theorem ridesE_bare (R : List Ride) : ridesE (R.map Ride.bare) = ridesE R := by
  unfold ridesE
  rw [firstErr_bare, List.length_map, List.map_map]; rfl
theorem usesE_bare (lp : List Pass) (R : List Ride) : usesE lp (R.map Ride.bare) = usesE lp R := by
  unfold usesE; rw [ridesE_bare]
theorem cnt_bare (R : List Ride) (u : Nat → Int) (x : Ride) (k : Int) : cnt (R.map Ride.bare) u x.bare k = cnt R u x k := by
  unfold cnt
  rw [List.length_map]
  congr 1
  refine List.filter_congr fun j _ => ?_
  rw [rAt_bare]; rfl
theorem isUse_bare {lp : List Pass} {R : List Ride} {u : Nat → Int} : IsUse lp (R.map Ride.bare) u ↔ IsUse lp R u := by
  unfold IsUse
  rw [List.length_map]
  refine forall_congr' fun i => forall_congr' fun hi => ?_
  rw [rAt_bare]
  have e : firstP lp (rAt R i).bare (cnt (R.map Ride.bare) u (rAt R i).bare) = firstP lp (rAt R i) (cnt R u (rAt R i)) := by
    have h1 : firstP lp (rAt R i).bare (cnt (R.map Ride.bare) u (rAt R i).bare) = firstP lp (rAt R i) (cnt (R.map Ride.bare) u (rAt R i).bare) := rfl
    rw [h1]
    exact firstP_congr fun k _ => cnt_bare R u (rAt R i) k
  rw [e]
theorem useOk_bare {lp : List Pass} {R : List Ride} {us : List Int} (h : UseOk lp R us) : UseOk lp (R.map Ride.bare) us :=
  ⟨fun hz => by rw [usesE_bare] at hz; exact ⟨by rw [List.length_map]; exact (h.ok hz).1, isUse_bare.2 (h.ok hz).2⟩, fun hz => h.no (by rw [usesE_bare] at hz; exact hz)⟩
theorem cntU_bare (R : List Ride) (u : Nat → Int) (k d : Int) : cntU (R.map Ride.bare) u k d = cntU R u k d := by
  unfold cntU cntTo
  rw [List.length_map]
  congr 1
  refine List.filter_congr fun j _ => ?_
  rw [rAt_bare]; rfl
theorem ex_e : usesE passesL ridesL = 0 := by decide +kernel
theorem ex_e2 : usesE passesL ridesL.reverse = 0 := by decide +kernel
instance (lp : List Pass) (R : List Ride) (u : Nat → Int) : Decidable (IsUse lp R u) := by unfold IsUse; infer_instance
theorem ex_u : UseOk passesL ridesL [0, 1, 1, -1] := ⟨fun _ => ⟨rfl, by decide +kernel⟩, fun h => (h ex_e).elim⟩
theorem ex_u2 : UseOk passesL ridesL.reverse [-1, 1, 1, 0] := ⟨fun _ => ⟨rfl, by decide +kernel⟩, fun h => (h ex_e2).elim⟩
theorem ex_use {R : List Ride} (hR : R.map Ride.bare = ridesL) : usesE passesL R = 0 ∧ ∀ us, UseOk passesL R us → us = [0, 1, 1, -1] :=
  ⟨by rw [← usesE_bare, hR, ex_e], fun us h => by have := useOk_bare h; rw [hR] at this; exact this.unique ex_u⟩
theorem ex_use2 {R : List Ride} (hR : R.map Ride.bare = ridesL) : usesE passesL R.reverse = 0 ∧ ∀ us, UseOk passesL R.reverse us → us = [-1, 1, 1, 0] := by
  have hR2 : R.reverse.map Ride.bare = ridesL.reverse := by rw [List.map_reverse, hR]
  exact ⟨by rw [← usesE_bare, hR2, ex_e2], fun us h => by have := useOk_bare h; rw [hR2] at this; exact this.unique ex_u2⟩
theorem ex_left {R : List Ride} (hR : R.map Ride.bare = ridesL) (d : Int) (v : Int) (hv : (d = 1 ∧ v = 0) ∨ (d = 2 ∧ v = 2) ∨ (d = 0 ∧ v = 0)) : leftE passesL R 1 d = 0 ∧ ∀ us, UseOk passesL R us → leftV passesL R us 1 d = v := by
  have he : leftE passesL R 1 d = 0 := by
    unfold leftE
    rw [(ex_use hR).1, if_neg (by simp), if_neg (by simp [passesL]), if_neg (by omega)]
  refine ⟨he, fun us h => ?_⟩
  rw [(ex_use hR).2 us h]
  unfold leftV
  rw [he, if_neg (by simp), ← cntU_bare, hR]
  rcases hv with ⟨rfl, rfl⟩ | ⟨rfl, rfl⟩ | ⟨rfl, rfl⟩ <;> decide +kernel
theorem passes_s (w : World) (y : Since w) : Calls Try.prog 22 #[] y.w fun o w' => ∃ (a : Option Addr) (c : Nat) (y' : Since w), o = .returned (.slice a 2 c) ∧ w' = y'.w ∧ (∃ z : Since y.w, y'.w = z.w) ∧ PassRow y'.w a passesL := by
  refine (passes_calls y.w (Since.self y.w)).mono ?_
  rintro _ w' ⟨a, c, z, rfl, rfl, h⟩
  obtain ⟨y', e⟩ := y.trans z
  exact ⟨a, c, y', rfl, e, ⟨z, e.symm⟩, e ▸ h⟩
theorem rides_s (w : World) (y : Since w) : Calls Try.prog 23 #[] y.w fun o w' => ∃ (a : Option Addr) (c : Nat) (R : List Ride) (y' : Since w), o = .returned (.slice a R.length c) ∧ w' = y'.w ∧ (∃ z : Since y.w, y'.w = z.w) ∧ RideRow y'.w a R ∧ R.map Ride.bare = ridesL := by
  refine (rides_calls y.w (Since.self y.w)).mono ?_
  rintro _ w' ⟨a, c, R, z, rfl, rfl, h, hR, _⟩
  obtain ⟨y', e⟩ := y.trans z
  exact ⟨a, c, R, y', rfl, e, ⟨z, e.symm⟩, e ▸ h, hR⟩
theorem ridesL_len {R : List Ride} (hR : R.map Ride.bare = ridesL) : R.length = 4 := by
  have := congrArg List.length hR
  rwa [List.length_map] at this
theorem turned_s (w : World) (y : Since w) (a : Option Addr) (R : List Ride) (c : Nat) (h : RideRow y.w a R) (hR : R.map Ride.bare = ridesL) :
    Calls Try.prog 24 #[.slice a R.length c] y.w fun o w' => ∃ (a : Option Addr) (c : Nat) (T : List Ride) (y' : Since w), o = .returned (.slice a T.length c) ∧ w' = y'.w ∧ (∃ z : Since y.w, y'.w = z.w) ∧ RideRow y'.w a T ∧ Hid (T = R.reverse) := by
  refine (turned_calls y.w (Since.self y.w) a R c h (by rw [ridesL_len hR]; decide)).mono ?_
  rintro _ w' ⟨a, c, z, rfl, rfl, h, _⟩
  obtain ⟨y', e⟩ := y.trans z
  exact ⟨a, c, R.reverse, y', rfl, e, ⟨z, e.symm⟩, e ▸ h, Lib.hid rfl⟩
theorem useX_s (w : World) (y : Since w) (pa : Option Addr) (lp : List Pass) (pc : Nat) (a : Option Addr) (R : List Ride) (c : Nat) (hp : PassRow y.w pa lp) (hpl : lp.length ≤ 9223372036854775807) (h : RideRow y.w a R) (hl : R.length ≤ 9223372036854775807) :
    Calls Try.prog 13 #[.slice pa lp.length pc, .slice a R.length c] y.w fun o w' => ∃ (a : Option Addr) (cap : Nat) (us : List Int) (y' : Since w), o = .returned (.tuple #[.slice a us.length cap, .int .i64 (usesE lp R)]) ∧ w' = y'.w ∧ (∃ z : Since y.w, y'.w = z.w) ∧ IntRow y'.w a us ∧ UseOk lp R us := by
  refine (useX_calls y.w (Since.self y.w) pa lp pc a R c hp hpl h hl).mono ?_
  rintro _ w' ⟨a, c, us, z, rfl, rfl, h, hU⟩
  obtain ⟨y', e⟩ := y.trans z
  exact ⟨a, c, us, y', rfl, e, ⟨z, e.symm⟩, e ▸ h, hU⟩
theorem ruse_s (w : World) (y : Since w) (pa : Option Addr) (lp : List Pass) (pc : Nat) (a : Option Addr) (R : List Ride) (c : Nat) (hp : PassRow y.w pa lp) (hpl : lp.length ≤ 9223372036854775807) (h : RideRow y.w a R) (hl : R.length ≤ 9223372036854775807) :
    Calls Try.prog 14 #[.slice pa lp.length pc, .slice a R.length c] y.w fun o w' => ∃ (a : Option Addr) (cap : Nat) (us : List Int) (y' : Since w), o = .returned (.tuple #[.slice a us.length cap, .int .i64 (usesE lp R)]) ∧ w' = y'.w ∧ (∃ z : Since y.w, y'.w = z.w) ∧ IntRow y'.w a us ∧ UseOk lp R us := by
  refine (ruse_calls y.w (Since.self y.w) pa lp pc a R c hp hpl h hl).mono ?_
  rintro _ w' ⟨a, c, us, z, rfl, rfl, h, hU⟩
  obtain ⟨y', e⟩ := y.trans z
  exact ⟨a, c, us, y', rfl, e, ⟨z, e.symm⟩, e ▸ h, hU⟩
theorem use1_s (w : World) (y : Since w) (pa : Option Addr) (pc : Nat) (a : Option Addr) (R : List Ride) (c : Nat) (hp : PassRow y.w pa passesL) (h : RideRow y.w a R) (hR : R.map Ride.bare = ridesL) :
    Calls Try.prog 13 #[.slice pa 2 pc, .slice a R.length c] y.w fun o w' => ∃ (a : Option Addr) (cap : Nat) (y' : Since w), o = .returned (.tuple #[.slice a 4 cap, .int .i64 0]) ∧ w' = y'.w ∧ (∃ z : Since y.w, y'.w = z.w) ∧ IntRow y'.w a [0, 1, 1, -1] := by
  have hc := useX_s w y pa passesL pc a R c hp (by decide) h (by rw [ridesL_len hR]; decide)
  refine hc.mono ?_
  rintro _ w' ⟨a, c, us, y', rfl, rfl, hz, h, hU⟩
  have := (ex_use hR).2 us hU
  subst this
  rw [(ex_use hR).1]
  exact ⟨a, c, y', rfl, rfl, hz, h⟩
theorem use2_s (w : World) (y : Since w) (pa : Option Addr) (pc : Nat) (a : Option Addr) (R : List Ride) (c : Nat) (T : List Ride) (hT : T = R.reverse) (hp : PassRow y.w pa passesL) (h : RideRow y.w a T) (hR : R.map Ride.bare = ridesL) :
    Calls Try.prog 13 #[.slice pa 2 pc, .slice a T.length c] y.w fun o w' => ∃ (a : Option Addr) (cap : Nat) (y' : Since w), o = .returned (.tuple #[.slice a 4 cap, .int .i64 0]) ∧ w' = y'.w ∧ (∃ z : Since y.w, y'.w = z.w) ∧ IntRow y'.w a [-1, 1, 1, 0] := by
  subst hT
  have hc := useX_s w y pa passesL pc a R.reverse c hp (by decide) h (by rw [List.length_reverse, ridesL_len hR]; decide)
  refine hc.mono ?_
  rintro _ w' ⟨a, c, us, y', rfl, rfl, hz, h, hU⟩
  have := (ex_use2 hR).2 us hU
  subst this
  rw [(ex_use2 hR).1]
  exact ⟨a, c, y', rfl, rfl, hz, h⟩
theorem left_s (w : World) (y : Since w) (pa : Option Addr) (pc : Nat) (a : Option Addr) (R : List Ride) (c : Nat) (d v : Int) (hv : (d = 1 ∧ v = 0) ∨ (d = 2 ∧ v = 2) ∨ (d = 0 ∧ v = 0)) (hp : PassRow y.w pa passesL) (h : RideRow y.w a R) (hR : R.map Ride.bare = ridesL) :
    Calls Try.prog 16 #[.slice pa 2 pc, .slice a R.length c, .int .i64 1, .int .i64 d] y.w fun o w' => o = .returned (.tuple #[.int .i64 v, .int .i64 0]) ∧ ∃ y' : Since w, w' = y'.w ∧ (∃ z : Since y.w, y'.w = z.w) := by
  have hc := left_calls y.w (Since.self y.w) pa passesL pc a R c 1 d hp (by decide) h (by rw [ridesL_len hR]; decide)
  refine hc.mono ?_
  rintro _ w' ⟨us, z, rfl, rfl, hU⟩
  obtain ⟨y', e⟩ := y.trans z
  exact ⟨by rw [(ex_left hR d v hv).1, (ex_left hR d v hv).2 us hU], y', e, z, e.symm⟩
theorem ints_s (w : World) (y : Since w) (a : Option Addr) (us : List Int) (c d : Nat) (e : TypeId) (m : List Int) (hm : m = us) (h : IntRow y.w a us) (hl : us.length ≤ 100000) :
    Calls Try.prog 15 #[.slice a us.length c, .slice (some ⟨y.w.heap.size, 0, none⟩) m.length d] (y.w.alloc (.cells (m.map (Value.int .i64)).toArray e)) fun o w' => o = .returned (.bool true) ∧ ∃ y' : Since w, w' = y'.w ∧ (∃ z : Since y.w, y'.w = z.w) := by
  subst hm
  have hst : ∃ z : Since y.w, y.w.alloc (.cells (m.map (Value.int .i64)).toArray e) = z.w := IsSince.alloc (IsSince.self _) _
  refine (ints_calls _ (Since.self _) a m c _ m d (h.to hst) (ints_new y.w m e) (by omega) (by omega)).mono ?_
  rintro _ w' ⟨rfl, z, rfl⟩
  obtain ⟨y1, e1⟩ := (⟨_, below_new _ _⟩ : Since y.w).trans z
  obtain ⟨y2, e2⟩ := y.trans y1
  exact ⟨by rw [decide_eq_true rfl], y2, by rw [← e2, ← e1], y1, e2.symm⟩
theorem ints1_s (w : World) (y : Since w) (a : Option Addr) (c d : Nat) (e : TypeId) (h : IntRow y.w a [0, 1, 1, -1]) :
    Calls Try.prog 15 #[.slice a 4 c, .slice (some ⟨y.w.heap.size, 0, none⟩) 4 d] (y.w.alloc (.cells #[.int .i64 0, .int .i64 1, .int .i64 1, .int .i64 (-1)] e)) fun o w' => o = .returned (.bool true) ∧ ∃ y' : Since w, w' = y'.w ∧ (∃ z : Since y.w, y'.w = z.w) := by
  have h1 := ints_s w y a [0, 1, 1, -1] c d e [0, 1, 1, -1] rfl h (by decide)
  simp only [List.map_cons, List.map_nil, List.length_cons, List.length_nil, Nat.zero_add, Nat.reduceAdd] at h1
  exact h1
theorem ints2_s (w : World) (y : Since w) (a : Option Addr) (c d : Nat) (e : TypeId) (h : IntRow y.w a [-1, 1, 1, 0]) :
    Calls Try.prog 15 #[.slice a 4 c, .slice (some ⟨y.w.heap.size, 0, none⟩) 4 d] (y.w.alloc (.cells #[.int .i64 (-1), .int .i64 1, .int .i64 1, .int .i64 0] e)) fun o w' => o = .returned (.bool true) ∧ ∃ y' : Since w, w' = y'.w ∧ (∃ z : Since y.w, y'.w = z.w) := by
  have h1 := ints_s w y a [-1, 1, 1, 0] c d e [-1, 1, 1, 0] rfl h (by decide)
  simp only [List.map_cons, List.map_nil, List.length_cons, List.length_nil, Nat.zero_add, Nat.reduceAdd] at h1
  exact h1
theorem make_pass (w : World) : (Instr.makeSlice 22 (.int .i64 1) (.int .i64 1)).run Try.prog w = .ok (.slice (some ⟨w.heap.size, 0, none⟩) 1 1) (w.alloc (.cells #[.int .i64 0, .int .i64 0, .int .i64 0, .int .i64 0, .int .i64 0, .int .i64 0] 49)) := by
  obtain ⟨i, hi, hz0, hsz, hby⟩ := sPass.e
  have hr := run_make (P := Try.prog) w 22 49 i _ sPass.t hi hz0 .i64 .i64 1 1 (by omega) (Int.le_refl _) (by rw [hby]; decide) (by decide)
  have hm : madeCells (Value.agg #[.int .i64 0, .int .i64 0, .int .i64 0, .int .i64 0, .int .i64 0, .int .i64 0]).cells (Int.toNat 1 * 6) = #[.int .i64 0, .int .i64 0, .int .i64 0, .int .i64 0, .int .i64 0, .int .i64 0] := by kernel_rfl
  rw [hsz, hm] at hr
  exact hr
theorem pcheck_s (w : World) (y : Since w) (d : Nat) (e : TypeId) :
    Calls Try.prog 10 #[.slice (some ⟨y.w.heap.size, 0, none⟩) 1 d] (y.w.alloc (.cells #[.int .i64 0, .int .i64 0, .int .i64 0, .int .i64 0, .int .i64 0, .int .i64 0] e)) fun o w' => o = .returned (.int .i64 1) ∧ ∃ y' : Since w, w' = y'.w := by
  have hE := els_new Pass.len y.w [⟨0, 0, 0, 0, 0, 0⟩] e
  have hc := pcheck_calls (y.w.alloc (.cells (flat Pass.cs [⟨0, 0, 0, 0, 0, 0⟩]).toArray e)) (Since.self _) (some ⟨y.w.heap.size, 0, none⟩) [⟨0, 0, 0, 0, 0, 0⟩] d hE (by decide)
  refine hc.mono ?_
  rintro _ w' ⟨rfl, z, rfl⟩
  obtain ⟨y1, e1⟩ := (⟨_, below_new _ _⟩ : Since y.w).trans z
  obtain ⟨y2, e2⟩ := y.trans y1
  exact ⟨ret_int (by decide +kernel), y2, by rw [← e2, ← e1]⟩
end Go.Proofs.Ytbkfcdheckkjaaa
