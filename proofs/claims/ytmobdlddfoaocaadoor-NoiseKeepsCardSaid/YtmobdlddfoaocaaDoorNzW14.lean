/- The walks of noise, fourteenth part: the examples. -/
import Derived.Test.YtmobdlddfoaocaaDoorNzW13
namespace Go.Proofs.YtmobdlddfoaocaaDoor
open Go.RowKit

def SmallPost (w : World) (e : Ending) (w' : World) : Prop := ∃ a cap, e = .returned (.agg #[.slice a 3 cap]) ∧ 3 ≤ cap ∧ ∃ y : Since w, w' = y.w ∧ IntRow y.w a [4, 2, 1]

theorem small_calls (w : World) (x : Since w) : Calls Tryd.prog 30 #[] x.w (SmallPost w) := by
  go_enter Tryd.func30, Tryd.ntmps30
  go_wp2_with fail
  refine bodyPost_ret (v := .agg #[.slice (some ⟨x.w.heap.size + 1, 0, none⟩) 3 3]) (by simp [results, Tryd.results30, go_sem]) rfl ?_
  obtain ⟨y, e⟩ := Since.allocs x [.cells #[.slice (some ⟨x.w.heap.size + 1, 0, none⟩) 3 3] 24, .cells #[.int .i64 4, .int .i64 2, .int .i64 1] 3]
  refine ⟨_, _, rfl, by decide, y, e, ?_⟩
  rw [← e]
  intro i hi
  refine ⟨_, _, rfl, by simp, ?_⟩
  have : i = 0 ∨ i = 1 ∨ i = 2 := by simp at hi; omega
  rcases this with rfl | rfl | rfl <;> simp [go_sem, at0]
theorem two_calls (w : World) (x : Since w) : Calls Tryd.prog 31 #[] x.w fun e w' => e = .returned (.agg #[.int .i64 2, .int .i64 1]) ∧ ∃ y : Since w, w' = y.w := by
  go_enter Tryd.func31, Tryd.ntmps31
  go_wp2_with fail
  exact bodyPost_ret (v := .agg #[.int .i64 2, .int .i64 1]) (by simp [results, Tryd.results31, go_sem]) rfl ⟨rfl, x.alloc _⟩

theorem good_small : Good [4, 2, 1] := by
  refine ⟨by decide, by decide, fun i hi => ?_⟩
  have : i = 0 ∨ i = 1 ∨ i = 2 := by simp at hi; omega
  rcases this with rfl | rfl | rfl <;> (unfold okAt; decide)
theorem bad_pair : ¬ Good [4, 5] := fun h => by
  have := h.2.2 1 (by decide)
  unfold okAt at this
  exact absurd (this.2.2 (by decide)) (by decide)
theorem wt_two : wt [4, 2, 1] (-2) = 1 := by decide +kernel
theorem wt_three : wt [4, 2, 1] 3 = 0 := by decide +kernel
theorem total_small : total [4, 2, 1] = 10 := by decide +kernel
theorem at_small : atV [4, 2, 1] 2 = -1 := atV_eq good_small ⟨31, by decide, by decide, by decide +kernel, by decide +kernel⟩
theorem at_small8 : atV [4, 2, 1] 8 = 1 := atV_eq good_small ⟨33, by decide, by decide, by decide +kernel, by decide +kernel⟩
theorem ex_small : exv [4, 2, 1] 2 1 1 = 1 := by decide +kernel
theorem mk_small : mkL 1000 1 3 = [16777216, 16778, 17] := by decide +kernel
theorem b_small : bI [15, 8] 10 = 1 := by decide +kernel
theorem bE_small : bE [15, 8] 10 = 0 := by decide +kernel
theorem bV_small : bV [15, 8] 10 = 8 := by decide +kernel
theorem us_small : us (total [4, 2, 1]) [15, 8] 1 = 2 := by rw [total_small]; decide +kernel
theorem out_small : outL [4, 2, 1] [50] [15, 8] 1 = [51] := by
  simp only [outL, List.range_succ, List.range_zero, List.nil_append, List.map_cons, List.map_nil, outv, us, List.drop_zero, total_small, bV_small, at_small8]
  decide
theorem addE_small : addE [4, 2, 1] [50] [15, 8] = 0 := by
  refine addE_ok good_small (by decide) (fun i hi => ?_) (fun k hk => ?_)
  · obtain rfl : i = 0 := by simp at hi; omega
    decide
  · obtain rfl : k = 0 := by simp at hk; omega
    show bE (List.drop 0 [15, 8]) (total [4, 2, 1]) = 0
    rw [total_small]; exact bE_small

def MadePost (w : World) (e : Ending) (w' : World) : Prop := ∃ a cap, e = .returned (.tuple #[.agg #[.slice a 3 cap], .int .i64 0]) ∧ 3 ≤ cap ∧ ∃ y : Since w, w' = y.w ∧ IntRow y.w a [16777216, 16778, 17]
theorem made_ex {w : World} : Made w 2 1000 1 = MadePost w := by
  funext e w'
  unfold Made
  rw [if_pos (by decide)]
  unfold NewInts
  rw [show mkL 1000 1 (Int.toNat 2 + 1) = [16777216, 16778, 17] from mk_small]
  apply propext
  constructor
  · rintro ⟨_, rfl, a, cap, rfl, hc, y, rfl, hr⟩
    exact ⟨a, cap, rfl, hc, y, rfl, hr⟩
  · rintro ⟨a, cap, rfl, hc, y, rfl, hr⟩
    exact ⟨_, rfl, a, cap, rfl, hc, y, rfl, hr⟩
def AddPost (w : World) (e : Ending) (w' : World) : Prop := ∃ a cap, e = .returned (.tuple #[.slice a 1 cap, .int .i64 2, .int .i64 0]) ∧ 1 ≤ cap ∧ ∃ y : Since w, w' = y.w ∧ IntRow y.w a [51]
theorem added_ex {w : World} : Added w [4, 2, 1] [50] [15, 8] = AddPost w := by
  funext e w'
  unfold Added
  rw [if_pos addE_small]
  unfold NewInts
  rw [show us (total [4, 2, 1]) [15, 8] ([50] : List Int).length = 2 from us_small, show outL [4, 2, 1] [50] [15, 8] ([50] : List Int).length = [51] from out_small]
  apply propext
  constructor
  · rintro ⟨_, rfl, a, cap, rfl, hc, y, rfl, hr⟩
    exact ⟨a, cap, rfl, hc, y, rfl, hr⟩
  · rintro ⟨a, cap, rfl, hc, y, rfl, hr⟩
    exact ⟨_, rfl, a, cap, rfl, hc, y, rfl, hr⟩
theorem len3 : ([4, 2, 1] : List Int).length = 3 := rfl
set_option maxHeartbeats 2000000 in
theorem awake_calls (w : World) (x : Since w) (hs : Signs w) : Calls Tryd.prog 13 #[] x.w fun e w' => e = .returned (.bool true) ∧ ∃ y : Since w, w' = y.w := by
  have Hs := Lib.hid hs; clear hs
  go_enter Tryd.func13, Tryd.ntmps13
  go_wp2_with fail
  refine (small_calls w x).mono ?_
  rintro _ _ ⟨a1, c1, rfl, hc1, y, rfl, hr1⟩
  go_wp2_with fail
  have hcall := total_calls y.w (Since.self y.w) a1 [4, 2, 1] c1 hc1 (by decide) hr1
  simp only [totalF_good good_small, total_small, check_good good_small, len3] at hcall
  refine hcall.mono ?_
  clear hcall
  rintro _ _ ⟨rfl, hlift⟩
  obtain ⟨y, rfl⟩ := y.lift hlift
  clear hr1
  go_wp2_with fail
  refine (small_calls w y).mono ?_
  rintro _ _ ⟨a2, c2, rfl, hc2, y, rfl, hr2⟩
  go_wp2_with fail
  have hcall := at_calls y.w (Since.self y.w) (Hs.out.to ⟨y, rfl⟩) a2 [4, 2, 1] c2 2 hc2 (by decide) hr2
  simp only [(at_in good_small (x := 2) (by decide) (by rw [total_small]; decide)).1, (at_in good_small (x := 2) (by decide) (by rw [total_small]; decide)).2, at_small, len3] at hcall
  refine hcall.mono ?_
  clear hcall
  rintro _ _ ⟨rfl, hlift⟩
  obtain ⟨y, rfl⟩ := y.lift hlift
  clear hr2
  go_wp2_with fail
  refine (small_calls w y).mono ?_
  rintro _ _ ⟨a3, c3, rfl, hc3, y, rfl, hr3⟩
  go_wp2_with fail
  have h2 := two_calls y.w (Since.self y.w)
  refine h2.mono ?_
  clear h2
  rintro _ _ ⟨rfl, hlift⟩
  replace hr3 := hr3.to hlift
  obtain ⟨y, rfl⟩ := y.lift hlift
  go_wp2_with fail
  have hcall := excess_calls y.w (Since.self y.w) (Hs.out.to ⟨y, rfl⟩) a3 [4, 2, 1] c3 2 1 1 (by decide) hr3
  simp only [(ex_in (l := [4, 2, 1]) (num := 2) (den := 1) (s := 1) ⟨good_small, by decide, by decide, by decide⟩).1, (ex_in (l := [4, 2, 1]) (num := 2) (den := 1) (s := 1) ⟨good_small, by decide, by decide, by decide⟩).2, ex_small, len3] at hcall
  refine hcall.mono ?_
  clear hcall
  rintro _ _ ⟨rfl, hlift⟩
  obtain ⟨y, rfl⟩ := y.lift hlift
  clear hr3
  go_wp2_with fail
  have h4 := make_calls y.w (Since.self y.w) 2 1000 1
  rw [made_ex] at h4
  refine h4.mono ?_
  clear h4
  rintro _ _ ⟨a4, c4, rfl, hc4, z, rfl, hr4⟩
  obtain ⟨y, e⟩ := y.trans z
  rw [e] at hr4 ⊢
  clear e z
  go_wp2_with fail
  have hbox : (y.w.alloc (.cells #[.slice a4 3 c4] 24)).cell? ⟨y.w.heap.size, 0, none⟩ = some (.slice a4 3 c4) := by simp [go_sem]
  have hlt : y.w.heap.size < (y.w.alloc (.cells #[.slice a4 3 c4] 24)).heap.size := by simp
  replace hr4 := hr4.to (W := y.w.alloc (.cells #[.slice a4 3 c4] 24)) ⟨⟨_, below_new _ _⟩, rfl⟩
  obtain ⟨y5, e5⟩ := y.alloc (.cells #[.slice a4 3 c4] 24)
  rw [e5] at hbox hr4 hlt ⊢
  generalize y.w.heap.size = g at *
  have Hx := Lib.hid hbox; have Hlt := Lib.hid hlt
  clear hbox hlt e5
  refine (small_calls y5.w (Since.self y5.w)).mono ?_
  rintro _ _ ⟨a6, c6, rfl, hc6, q, rfl, hr6⟩
  go_wp2_with fail
  obtain ⟨z1, e1⟩ := q.alloc (.cells #[.int .i64 50] 3)
  obtain ⟨z2, e2⟩ := z1.alloc (.cells #[.int .u64 15, .int .u64 8] 55)
  have r1 : IntRow (q.w.alloc (.cells #[.int .i64 50] 3)) (some ⟨q.w.heap.size, 0, none⟩) [50] := ints_new q.w [50] 3
  have r2 : Row (z1.w.alloc (.cells #[.int .u64 15, .int .u64 8] 55)) (some ⟨z1.w.heap.size, 0, none⟩) 2 fun i => .int .u64 (at0 [15, 8] i) := row_new z1.w [.int .u64 15, .int .u64 8] 55 2 _ fun i hi => by
    have : i = 0 ∨ i = 1 := by omega
    rcases this with rfl | rfl <;> rfl
  have hz1 : z1.w.heap.size = q.w.heap.size + 1 := by rw [← e1]; simp
  replace hr6 := hr6.to (W := q.w.alloc (.cells #[.int .i64 50] 3)) ⟨⟨_, below_new _ _⟩, rfl⟩
  rw [e1] at r1 hr6 ⊢
  replace hr6 := hr6.to (W := z1.w.alloc (.cells #[.int .u64 15, .int .u64 8] 55)) ⟨⟨_, below_new _ _⟩, rfl⟩
  replace r1 := r1.to (W := z1.w.alloc (.cells #[.int .u64 15, .int .u64 8] 55)) ⟨⟨_, below_new _ _⟩, rfl⟩
  rw [e2] at r1 r2 hr6 ⊢
  rw [hz1] at r2
  clear e1 e2 hz1 z1
  have hadd := add_calls z2.w (Since.self z2.w) ((Hs.out.to ⟨y5, rfl⟩).to ⟨z2, rfl⟩) a6 _ _ [4, 2, 1] [50] [15, 8] c6 1 2 hc6 (by decide) (by decide) (by decide) (by decide) hr6 r1 r2 (fun i => by unfold at0; rcases i with _ | _ | i <;> simp)
  rw [added_ex] at hadd
  refine hadd.mono ?_
  clear hadd hr6 r1 r2
  rintro _ _ ⟨a8, c8, rfl, hc8, z, rfl, hr8⟩
  obtain ⟨y8, e8⟩ := z2.trans z
  rw [e8] at hr8 ⊢
  clear e8 z
  have hr4' := hr4.to (W := y8.w) ⟨y8, rfl⟩
  have hbx : ∀ q : Since y8.w, q.w.cell? ⟨g, 0, none⟩ = some (.slice a4 3 c4) := fun q => by obtain ⟨z, e⟩ := y8.trans q; rw [e]; exact Since.cell Hx.out Hlt.out z
  have Hs8 := Lib.hid ((Hs.out.to ⟨y5, rfl⟩).to ⟨y8, rfl⟩)
  obtain ⟨q0, hq0⟩ := Since.refl y8.w
  go_wp2_with fail
  refine (small_calls y8.w q0).mono ?_
  rintro _ _ ⟨a9, c9, rfl, hc9, q, rfl, hr9⟩
  go_wp2_with fail
  have hcall := weight_calls q.w (Since.self q.w) (Hs8.out.to ⟨q, rfl⟩) a9 [4, 2, 1] c9 (-2) ⟨by decide, by decide⟩ (by decide) hr9
  simp only [weight_good good_small, wt_two, len3] at hcall
  refine hcall.mono ?_
  clear hcall
  rintro _ _ ⟨rfl, hlift⟩
  obtain ⟨q, rfl⟩ := q.lift hlift
  clear hr9
  go_wp2_with fail
  refine (small_calls y8.w q).mono ?_
  rintro _ _ ⟨a10, c10, rfl, hc10, q, rfl, hr10⟩
  go_wp2_with fail
  have hcall := weight_calls q.w (Since.self q.w) (Hs8.out.to ⟨q, rfl⟩) a10 [4, 2, 1] c10 3 ⟨by decide, by decide⟩ (by decide) hr10
  simp only [weight_good good_small, wt_three, len3] at hcall
  refine hcall.mono ?_
  clear hcall
  rintro _ _ ⟨rfl, hlift⟩
  obtain ⟨q, rfl⟩ := q.lift hlift
  clear hr10
  go_wp2_with fail
  have r3 : IntRow (q.w.alloc (.cells #[.int .i64 16777216, .int .i64 16778, .int .i64 17] 3)) (some ⟨q.w.heap.size, 0, none⟩) [16777216, 16778, 17] := ints_new q.w [16777216, 16778, 17] 3
  obtain ⟨z3, e3⟩ := q.alloc (.cells #[.int .i64 16777216, .int .i64 16778, .int .i64 17] 3)
  rw [e3] at r3 ⊢
  refine (same_calls z3.w (Since.self z3.w) a4 _ [16777216, 16778, 17] [16777216, 16778, 17] c4 3 (by decide) (by decide) (hr4'.to ⟨z3, rfl⟩) r3).mono ?_
  rw [decide_eq_true (rfl : ([16777216, 16778, 17] : List Int) = [16777216, 16778, 17])]
  clear r3 e3
  rintro _ _ ⟨rfl, hlift⟩
  obtain ⟨q, rfl⟩ := z3.lift hlift
  go_wp2_with fail
  have r4 : IntRow (q.w.alloc (.cells #[.int .i64 51] 3)) (some ⟨q.w.heap.size, 0, none⟩) [51] := ints_new q.w [51] 3
  obtain ⟨z4, e4⟩ := q.alloc (.cells #[.int .i64 51] 3)
  rw [e4] at r4 ⊢
  refine (same_calls z4.w (Since.self z4.w) a8 _ [51] [51] c8 1 (by decide) (by decide) (hr8.to ⟨z4, rfl⟩) r4).mono ?_
  rw [decide_eq_true (rfl : ([51] : List Int) = [51])]
  clear r4 e4
  rintro _ _ ⟨rfl, hlift⟩
  obtain ⟨q, rfl⟩ := z4.lift hlift
  go_wp2_with fail
  have r5 : IntRow (q.w.alloc (.cells #[.int .i64 4, .int .i64 5] 3)) (some ⟨q.w.heap.size, 0, none⟩) [4, 5] := ints_new q.w [4, 5] 3
  obtain ⟨z5, e5⟩ := q.alloc (.cells #[.int .i64 4, .int .i64 5] 3)
  rw [e5] at r5 ⊢
  refine (check_calls z5.w (Since.self z5.w) _ [4, 5] 2 (by decide) r5).mono ?_
  rw [check_bad bad_pair]
  clear r5 e5
  rintro _ _ ⟨rfl, hlift⟩
  obtain ⟨q, rfl⟩ := z5.lift hlift
  go_wp2_with fail
  go_ret
  exact ⟨rfl, by obtain ⟨z, e⟩ := y8.trans q; rw [e]; exact y5.trans z⟩
end Go.Proofs.YtmobdlddfoaocaaDoor
