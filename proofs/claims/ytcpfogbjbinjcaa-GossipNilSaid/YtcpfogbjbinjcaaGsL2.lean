/- The laws of replicas, second part: awake. -/
import Derived.Test.YtcpfogbjbinjcaaGsL1
set_option linter.all false
namespace Go.Proofs.Ytcpfogbjbinjcaa
open Go.RowKit Go.ChangeMaps

theorem beat_s (w : World) (y : Since w) (d s a : Int) : Calls Try.prog 25 #[.int .i64 d, .int .i64 s, .int .i64 a] y.w fun o w' => o = .returned (.agg #[.int .i64 d, .int .i64 s, .int .i64 a, .int .i64 a, .int .i64 10, .int .i64 0, .int .i64 0, .int .i64 0, .int .i64 0]) ∧ ∃ y' : Since w, w' = y'.w ∧ (∃ z : Since y.w, y'.w = z.w) := by
  refine (beat_calls y.w (Since.self y.w) d s a).mono ?_
  rintro _ w' ⟨rfl, z, rfl⟩
  obtain ⟨y', e⟩ := y.trans z
  exact ⟨rfl, y', e, z, e.symm⟩
theorem addb_s (w : World) (y : Since w) (p bm : Nat) (n : Int) (l l' : List Ev) (d s a k : Int) (b : Bool) (hb : w.heap.size ≤ bm) (hR : RepAt y.w p bm n l) (h1 : freshB n l (beatE d s a) = b) (h2 : addE n l (beatE d s a) = k) (h3 : addL n l (beatE d s a) = l') :
    Calls Try.prog 16 #[.pointer (some ⟨p, 0, none⟩), .agg #[.int .i64 d, .int .i64 s, .int .i64 a, .int .i64 a, .int .i64 10, .int .i64 0, .int .i64 0, .int .i64 0, .int .i64 0]] y.w fun o w' => o = .returned (.tuple #[.bool b, .int .i64 k]) ∧ ∃ y' : Since w, w' = y'.w ∧ RepAt y'.w p bm n l' := by
  refine (add_s w y p bm n l (beatE d s a) hb hR).mono ?_
  rintro _ w' ⟨rfl, y', rfl, h, _⟩
  exact ⟨by rw [h1, h2], y', rfl, h3 ▸ h⟩
theorem int_row_new (w : World) (l : List Int) (e : TypeId) : IntRow (w.alloc (.cells (l.map (Value.int .i64)).toArray e)) (some ⟨w.heap.size, 0, none⟩) l := by
  intro i hi
  refine ⟨w.heap.size, 0, rfl, by simp, ?_⟩
  have := cell_new_at w (l.map (Value.int .i64)) e i (.int .i64 (at0 l i)) (by simp [at0, List.getD_eq_getElem?_getD, hi])
  rw [Addr.add_lit] at this
  exact this
theorem ev_row_new (w : World) (l : List Ev) (e : TypeId) : EvRow (w.alloc (.cells (flat Ev.cs l).toArray e)) (some ⟨w.heap.size, 0, none⟩) l := by
  intro i x hx
  refine ⟨w.heap.size, 0, rfl, by simp, fun j v hv => ?_⟩
  have := cell_new_at w (flat Ev.cs l) e (i * 9 + j) v (flat_at cs_len l i x j v hx hv)
  rw [Addr.add_lit] at this
  rw [show 0 + i * 9 + j = 0 + (i * 9 + j) by omega]
  exact this
theorem seen_s (w : World) (y : Since w) (p bm N : Nat) (l : List Ev) (hR : RepAt y.w p bm N l) (hI : Inv N l) (hN : N ≤ 256) :
    Calls Try.prog 23 #[.pointer (some ⟨p, 0, none⟩)] y.w fun o w' => ∃ (a : Option Addr) (cap : Nat) (y' : Since w), o = .returned (.slice a (seenL N l).length cap) ∧ w' = y'.w ∧ (∃ z : Since y.w, y'.w = z.w) ∧ IntRow y'.w a (seenL N l) := by
  refine (seen_calls y.w (Since.self y.w) p bm N l hR hI hN).mono ?_
  rintro _ w' ⟨a, cap, z, rfl, rfl, _, h, _, _⟩
  obtain ⟨y', e⟩ := y.trans z
  exact ⟨a, cap, y', rfl, e, ⟨z, e.symm⟩, e ▸ h⟩
theorem events_s (w : World) (y : Since w) (p bm : Nat) (n : Int) (l : List Ev) (hR : RepAt y.w p bm n l) (hI : Inv n l) :
    Calls Try.prog 19 #[.pointer (some ⟨p, 0, none⟩)] y.w fun o w' => ∃ (a : Option Addr) (cap : Nat) (y' : Since w), o = .returned (.slice a (sortE l).length cap) ∧ w' = y'.w ∧ (∃ z : Since y.w, y'.w = z.w) ∧ EvRow y'.w a (sortE l) := by
  refine (events_calls y.w (Since.self y.w) p bm n l hR hI).mono ?_
  rintro _ w' ⟨a, cap, z, rfl, rfl, _, h, _, _⟩
  obtain ⟨y', e⟩ := y.trans z
  exact ⟨a, cap, y', rfl, e, ⟨z, e.symm⟩, e ▸ h⟩
theorem isame_s (w : World) (y : Since w) (a : Option Addr) (l m : List Int) (c d : Nat) (e : TypeId) (hl : l.length ≤ 100000) (hm : m.length ≤ 100000) (hr : IntRow y.w a l) :
    Calls Try.prog 22 #[.slice a l.length c, .slice (some ⟨y.w.heap.size, 0, none⟩) m.length d] (y.w.alloc (.cells (m.map (Value.int .i64)).toArray e)) fun o w' => o = .returned (.bool (decide (l = m))) ∧ ∃ y' : Since w, w' = y'.w ∧ (∃ z : Since y.w, y'.w = z.w) := by
  have hst : ∃ z : Since y.w, y.w.alloc (.cells (m.map (Value.int .i64)).toArray e) = z.w := IsSince.alloc (IsSince.self _) _
  refine (same_calls _ (Since.self _) a _ l m c d (by omega) (by omega) (hr.to hst) (int_row_new y.w m e)).mono ?_
  rintro _ w' ⟨rfl, z, rfl⟩
  obtain ⟨y1, e1⟩ := (⟨_, below_new _ _⟩ : Since y.w).trans z
  obtain ⟨y2, e2⟩ := y.trans y1
  exact ⟨rfl, y2, by rw [← e2, ← e1], y1, e2.symm⟩
theorem evsame_s (w : World) (y : Since w) (a : Option Addr) (l m : List Ev) (c d : Nat) (e : TypeId) (hl : l.length ≤ 100000) (hm : m.length ≤ 100000) (hr : EvRow y.w a l) :
    Calls Try.prog 21 #[.slice a l.length c, .slice (some ⟨y.w.heap.size, 0, none⟩) m.length d] (y.w.alloc (.cells (flat Ev.cs m).toArray e)) fun o w' => o = .returned (.bool (decide (l = m))) ∧ ∃ y' : Since w, w' = y'.w ∧ (∃ z : Since y.w, y'.w = z.w) := by
  have hst : ∃ z : Since y.w, y.w.alloc (.cells (flat Ev.cs m).toArray e) = z.w := IsSince.alloc (IsSince.self _) _
  refine (esame_calls _ (Since.self _) a _ l m c d (by omega) (by omega) (hr.to hst) (ev_row_new y.w m e)).mono ?_
  rintro _ w' ⟨rfl, z, rfl⟩
  obtain ⟨y1, e1⟩ := (⟨_, below_new _ _⟩ : Since y.w).trans z
  obtain ⟨y2, e2⟩ := y.trans y1
  exact ⟨rfl, y2, by rw [← e2, ← e1], y1, e2.symm⟩
theorem since_s (w : World) (y : Since w) (p bm : Nat) (n : Int) (l : List Ev) (m : List Int) (d : Nat) (e : TypeId) (hR : RepAt y.w p bm n l) (hI : Inv n l) (hm : m.length ≤ 100000) :
    Calls Try.prog 32 #[.pointer (some ⟨p, 0, none⟩), .slice (some ⟨y.w.heap.size, 0, none⟩) m.length d] (y.w.alloc (.cells (m.map (Value.int .i64)).toArray e)) fun o w' => ∃ (a : Option Addr) (cap : Nat) (y' : Since w), o = .returned (.slice a (sinceL l m).length cap) ∧ w' = y'.w ∧ (∃ z : Since y.w, y'.w = z.w) ∧ EvRow y'.w a (sinceL l m) := by
  have hst : ∃ z : Since y.w, y.w.alloc (.cells (m.map (Value.int .i64)).toArray e) = z.w := IsSince.alloc (IsSince.self _) _
  refine (since_calls _ (Since.self _) p bm n l _ m d (hR.to hst) hI (int_row_new y.w m e) (by omega)).mono ?_
  rintro _ w' ⟨a, cap, z, rfl, rfl, _, h, _, _⟩
  obtain ⟨y1, e1⟩ := (⟨_, below_new _ _⟩ : Since y.w).trans z
  obtain ⟨y2, e2⟩ := y.trans y1
  exact ⟨a, cap, y2, rfl, by rw [← e2, ← e1], ⟨y1, e2.symm⟩, by rw [← e2, ← e1]; exact h⟩
def aw1 : Ev := beatE 0 2 50
def aw2 : Ev := beatE 0 1 40
def aw3 : Ev := beatE 1 1 45
theorem fl3 : (flat Ev.cs [aw2, aw3, aw1]).toArray = #[.int .i64 0, .int .i64 1, .int .i64 40, .int .i64 40, .int .i64 10, .int .i64 0, .int .i64 0, .int .i64 0, .int .i64 0, .int .i64 1, .int .i64 1, .int .i64 45, .int .i64 45, .int .i64 10, .int .i64 0, .int .i64 0, .int .i64 0, .int .i64 0, .int .i64 0, .int .i64 2, .int .i64 50, .int .i64 50, .int .i64 10, .int .i64 0, .int .i64 0, .int .i64 0, .int .i64 0] := rfl
theorem fl1 : (flat Ev.cs [aw1]).toArray = #[.int .i64 0, .int .i64 2, .int .i64 50, .int .i64 50, .int .i64 10, .int .i64 0, .int .i64 0, .int .i64 0, .int .i64 0] := rfl
theorem aw_sort : sortE [aw1, aw2, aw3] = [aw2, aw3, aw1] := (sortE_unique (by decide) (by decide)).symm
theorem aw_since : sinceL [aw1, aw2, aw3] [1, 5] = [aw1] := (sortE_unique (by decide) (by decide)).symm
theorem aw_seen : seenL 2 [aw1, aw2, aw3] = [2, 1] := by decide
theorem aw_hor : hor 2 [aw1, aw2, aw3] = 45 := by decide
theorem aw_hor1 : hor 2 [aw1] = 0 := by decide
theorem aw_inv : Inv 2 [aw1, aw2, aw3] := ⟨by decide, by decide, by decide, by decide, by decide⟩
theorem aw_inv1 : Inv 2 [aw1] := ⟨by decide, by decide, by decide, by decide, by decide⟩
set_option maxRecDepth 100000 in
set_option maxHeartbeats 8000000 in
theorem awake_calls (w : World) (x : Since w) : Calls Try.prog 12 #[] x.w fun o w' => o = .returned (.bool true) ∧ ∃ y : Since w, w' = y.w := by
  have hnew := new_calls w x 2
  have hN : NewPost w 2 = fun e w' => ∃ (p bm : Nat) (y : Since w), e = .returned (.tuple #[.pointer (some ⟨p, 0, none⟩), .int .i64 0]) ∧ w' = y.w ∧ w.heap.size ≤ p ∧ w.heap.size ≤ bm ∧ RepAt y.w p bm 2 [] := by funext e w'; unfold NewPost; rw [if_pos (by omega)]
  rw [hN] at hnew
  have Hnew := Lib.hid hnew
  clear hnew hN
  go_enter Try.func12, Try.ntmps12
  go_upto_region 4 with (go_at_call 13; refine Hnew.out.mono ?_; rintro _ _ ⟨p, bm, y0, rfl, rfl, hp, hb, hR⟩; have HR := Lib.hid hR; have Hb := Lib.hid hb; clear hR hb)
  go_upto_region 5 with (first | (go_at_call 25; refine (beat_s w _ _ _ _).mono ?_; rintro _ _ ⟨rfl, y1, rfl, hz⟩; replace HR := Lib.hid (HR.out.to hz); clear hz) | (go_at_call 16; refine (addb_s w _ p bm 2 [] [aw1] 0 2 50 0 true Hb.out HR.out (by decide) (by decide) (by decide)).mono ?_; rintro _ _ ⟨rfl, y1, rfl, hz⟩; replace HR := Lib.hid hz; clear hz))
  go_upto_region 6 with (go_at_call 24; refine (horizon_s w _ p bm 2 [aw1] HR.out aw_inv1 (by omega)).mono ?_; rintro _ _ ⟨rfl, y1, rfl, hz⟩; replace HR := Lib.hid (HR.out.to hz); clear hz)
  rw [aw_hor1]
  go_upto_region 7 with (first | (go_at_call 25; refine (beat_s w _ _ _ _).mono ?_; rintro _ _ ⟨rfl, y1, rfl, hz⟩; replace HR := Lib.hid (HR.out.to hz); clear hz) | (go_at_call 16; refine (addb_s w _ p bm 2 [aw1] [aw1, aw2] 0 1 40 0 true Hb.out HR.out (by decide) (by decide) (by decide)).mono ?_; rintro _ _ ⟨rfl, y1, rfl, hz⟩; replace HR := Lib.hid hz; clear hz))
  go_upto_region 8 with (first | (go_at_call 25; refine (beat_s w _ _ _ _).mono ?_; rintro _ _ ⟨rfl, y1, rfl, hz⟩; replace HR := Lib.hid (HR.out.to hz); clear hz) | (go_at_call 16; refine (addb_s w _ p bm 2 [aw1, aw2] [aw1, aw2, aw3] 1 1 45 0 true Hb.out HR.out (by decide) (by decide) (by decide)).mono ?_; rintro _ _ ⟨rfl, y1, rfl, hz⟩; replace HR := Lib.hid hz; clear hz))
  go_upto_region 9 with (first | (go_at_call 25; refine (beat_s w _ _ _ _).mono ?_; rintro _ _ ⟨rfl, y1, rfl, hz⟩; replace HR := Lib.hid (HR.out.to hz); clear hz) | (go_at_call 16; refine (addb_s w _ p bm 2 [aw1, aw2, aw3] [aw1, aw2, aw3] 1 1 45 0 false Hb.out HR.out (by decide) (by decide) (by decide)).mono ?_; rintro _ _ ⟨rfl, y1, rfl, hz⟩; replace HR := Lib.hid hz; clear hz))
  go_upto_region 10 with (first | (go_at_call 25; refine (beat_s w _ _ _ _).mono ?_; rintro _ _ ⟨rfl, y1, rfl, hz⟩; replace HR := Lib.hid (HR.out.to hz); clear hz) | (go_at_call 16; refine (addb_s w _ p bm 2 [aw1, aw2, aw3] [aw1, aw2, aw3] 0 2 51 21 false Hb.out HR.out (by decide) (by decide) (by decide)).mono ?_; rintro _ _ ⟨rfl, y1, rfl, hz⟩; replace HR := Lib.hid hz; clear hz))
  go_upto_region 11 with (first | (go_at_call 25; refine (beat_s w _ _ _ _).mono ?_; rintro _ _ ⟨rfl, y1, rfl, hz⟩; replace HR := Lib.hid (HR.out.to hz); clear hz) | (go_at_call 16; refine (addb_s w _ p bm 2 [aw1, aw2, aw3] [aw1, aw2, aw3] 0 3 49 9 false Hb.out HR.out (by decide) (by decide) (by decide)).mono ?_; rintro _ _ ⟨rfl, y1, rfl, hz⟩; replace HR := Lib.hid hz; clear hz))
  go_upto_region 12 with (first | (go_at_call 25; refine (beat_s w _ _ _ _).mono ?_; rintro _ _ ⟨rfl, y1, rfl, hz⟩; replace HR := Lib.hid (HR.out.to hz); clear hz) | (go_at_call 16; refine (addb_s w _ p bm 2 [aw1, aw2, aw3] [aw1, aw2, aw3] 2 1 60 7 false Hb.out HR.out (by decide) (by decide) (by decide)).mono ?_; rintro _ _ ⟨rfl, y1, rfl, hz⟩; replace HR := Lib.hid hz; clear hz))
  go_upto_region 14 with fail
  have hI := Lib.hid aw_inv
  have hi1 := aw_seen
  go_wp2_with (first
    | (go_at_call 23; refine (seen_s w _ p bm 2 _ HR.out hI.out (by omega)).mono ?_; rintro _ _ ⟨sa, sc, y1, rfl, rfl, hz, hrow⟩; replace HR := Lib.hid (HR.out.to hz); have Hrow := Lib.hid hrow; clear hz hrow)
    | (go_at_call 22; refine (isame_s w _ sa (seenL 2 [aw1, aw2, aw3]) [2, 1] sc 2 3 (by decide) (by decide) Hrow.out).mono ?_; rintro _ _ ⟨rfl, y1, rfl, hz⟩; replace HR := Lib.hid (HR.out.to hz); clear hz; rw [decide_eq_true aw_seen])
    | (go_at_call 24; refine (horizon_s w _ p bm 2 _ HR.out hI.out (by omega)).mono ?_; rintro _ _ ⟨rfl, y1, rfl, hz⟩; replace HR := Lib.hid (HR.out.to hz); clear hz; rw [aw_hor])
    | (go_at_call 19; refine (events_s w _ p bm 2 _ HR.out hI.out).mono ?_; rintro _ _ ⟨ea, ec, y1, rfl, rfl, hz, hrow⟩; replace HR := Lib.hid (HR.out.to hz); rw [aw_sort] at hrow; rw [aw_sort]; have Hels := Lib.hid hrow; clear hz hrow)
    | (go_at_call 25; refine (beat_s w _ _ _ _).mono ?_; rintro _ _ ⟨rfl, y1, rfl, hz⟩; replace HR := Lib.hid (HR.out.to hz); replace Hels := Lib.hid (Hels.out.to hz); clear hz)
    | (go_at_call 21; have h1 := evsame_s w y1 ea [aw2, aw3, aw1] [aw2, aw3, aw1] ec 3 33 (by decide) (by decide) Hels.out; rw [fl3, decide_eq_true (rfl : [aw2, aw3, aw1] = [aw2, aw3, aw1])] at h1; simp only [List.length_cons, List.length_nil, Nat.zero_add, Nat.reduceAdd] at h1; refine h1.mono ?_; clear h1; rintro _ _ ⟨rfl, y1, rfl, hz⟩; replace HR := Lib.hid (HR.out.to hz); replace Hels := Lib.hid (Hels.out.to hz); clear hz)
    | (go_at_call 32; refine (since_s w _ p bm 2 _ [1, 5] 2 3 HR.out hI.out (by decide)).mono ?_; rintro _ _ ⟨ea2, ec2, y1, rfl, rfl, hz, hrow⟩; replace HR := Lib.hid (HR.out.to hz); rw [aw_since] at hrow; rw [aw_since]; replace Hels := Lib.hid hrow; clear hz hrow)
    | (go_at_call 21; have h1 := evsame_s w y1 ea2 [aw1] [aw1] ec2 1 33 (by decide) (by decide) Hels.out; rw [fl1, decide_eq_true (rfl : [aw1] = [aw1])] at h1; simp only [List.length_cons, List.length_nil, Nat.zero_add, Nat.reduceAdd] at h1; refine h1.mono ?_; clear h1; rintro _ _ ⟨rfl, y1, rfl, hz⟩; replace HR := Lib.hid (HR.out.to hz); clear hz))
  go_ret
  exact ⟨rfl, _, rfl⟩
end Go.Proofs.Ytcpfogbjbinjcaa
