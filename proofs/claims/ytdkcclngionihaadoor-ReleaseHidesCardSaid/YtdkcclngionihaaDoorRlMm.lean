/- The examples of the chapter of releases, walked. Written by mkl3.py. -/
import Derived.Test.YtdkcclngionihaaDoorRlMl
set_option linter.all false
namespace Go.Proofs.YtdkcclngionihaaDoor
open Go.RowKit

theorem row_alloc {w : World} {a : Option Addr} {l : List Int} (h : IntRow w a l) (o : Obj) : IntRow (w.alloc o) a l := h.to (IsSince.alloc (IsSince.self _) _)
theorem rides_alloc {w : World} {a : Option Addr} {R : List Ride} (h : RideRow w a R) (o : Obj) : RideRow (w.alloc o) a R := h.to (IsSince.alloc (IsSince.self _) _)
theorem ints4 {w : World} {g : Nat} {a b c d : Int} (lt : g < w.heap.size) (h0 : w.cell? ⟨g, 0, none⟩ = some (.int .i64 a)) (h1 : w.cell? ⟨g, 1, none⟩ = some (.int .i64 b)) (h2 : w.cell? ⟨g, 2, none⟩ = some (.int .i64 c)) (h3 : w.cell? ⟨g, 3, none⟩ = some (.int .i64 d)) : IntRow w (some ⟨g, 0, none⟩) [a, b, c, d] := by
  intro i hi
  have : i = 0 ∨ i = 1 ∨ i = 2 ∨ i = 3 := by simp at hi; omega
  rcases this with rfl | rfl | rfl | rfl
  · exact ⟨g, 0, rfl, lt, h0⟩
  · exact ⟨g, 0, rfl, lt, h1⟩
  · exact ⟨g, 0, rfl, lt, h2⟩
  · exact ⟨g, 0, rfl, lt, h3⟩
theorem ints3 {w : World} {g : Nat} {a b c : Int} (lt : g < w.heap.size) (h0 : w.cell? ⟨g, 0, none⟩ = some (.int .i64 a)) (h1 : w.cell? ⟨g, 1, none⟩ = some (.int .i64 b)) (h2 : w.cell? ⟨g, 2, none⟩ = some (.int .i64 c)) : IntRow w (some ⟨g, 0, none⟩) [a, b, c] := by
  intro i hi
  have : i = 0 ∨ i = 1 ∨ i = 2 := by simp at hi; omega
  rcases this with rfl | rfl | rfl
  · exact ⟨g, 0, rfl, lt, h0⟩
  · exact ⟨g, 0, rfl, lt, h1⟩
  · exact ⟨g, 0, rfl, lt, h2⟩
theorem tbd1 (w : World) (vs us ts : List Value) (T U V : TypeId) : BoxIs (((w.alloc (.cells vs.toArray T)).alloc (.cells us.toArray U)).alloc (.cells ts.toArray V)).drew w.heap.size vs := (((BoxIs.new w vs T).up _).up _).drew
theorem tbd2 (w : World) (vs us ts : List Value) (T U V : TypeId) : BoxIs (((w.alloc (.cells vs.toArray T)).alloc (.cells us.toArray U)).alloc (.cells ts.toArray V)).drew (w.heap.size + 1) us := by
  have b2 := ((BoxIs.new (w.alloc (.cells vs.toArray T)) us U).up (.cells ts.toArray V)).drew
  rwa [show (w.alloc (.cells vs.toArray T)).heap.size = w.heap.size + 1 by simp] at b2
theorem tbd3 (w : World) (vs us ts : List Value) (T U V : TypeId) : BoxIs (((w.alloc (.cells vs.toArray T)).alloc (.cells us.toArray U)).alloc (.cells ts.toArray V)).drew (w.heap.size + 1 + 1) ts := by
  have b3 := (BoxIs.new ((w.alloc (.cells vs.toArray T)).alloc (.cells us.toArray U)) ts V).drew
  rwa [show ((w.alloc (.cells vs.toArray T)).alloc (.cells us.toArray U)).heap.size = w.heap.size + 1 + 1 by simp] at b3
theorem box_base {W v z : World} {vs : List Value} (_hA : BoxIs z v.heap.size vs) (hv : IsSince W v) : W.heap.size ≤ v.heap.size := hv.size
theorem since_ten {W w : World} {g : Nat} (h : IsSince W w) (hg : W.heap.size ≤ g) (v0 v1 v2 v3 v4 v5 v6 v7 v8 v9 : Value) : IsSince W ((((((((((w.setCell ⟨g, 0, none⟩ v0).setCell ⟨g, 1, none⟩ v1).setCell ⟨g, 2, none⟩ v2).setCell ⟨g, 3, none⟩ v3).setCell ⟨g, 4, none⟩ v4).setCell ⟨g, 5, none⟩ v5).setCell ⟨g, 6, none⟩ v6).setCell ⟨g, 7, none⟩ v7).setCell ⟨g, 8, none⟩ v8).setCell ⟨g, 9, none⟩ v9) :=
  IsSince.set (IsSince.set (IsSince.set (IsSince.set (IsSince.set (IsSince.set (IsSince.set (IsSince.set (IsSince.set (IsSince.set h _ hg _) _ hg _) _ hg _) _ hg _) _ hg _) _ hg _) _ hg _) _ hg _) _ hg _) _ hg _
set_option linter.unusedSimpArgs false in
set_option maxRecDepth 100000 in
set_option maxHeartbeats 32000000 in
theorem awake_calls (w : World) (x : Since w) (hs : Signs w) : Calls Tryd.prog 11 #[] x.w fun o w' => o = .returned (.bool true) ∧ ∃ y : Since w, w' = y.w := by
  have Hsg := Lib.hid hs
  clear hs
  go_enter Tryd.func11, Tryd.ntmps11
  go_upto_region 2 with fail
  have hw0 : (x.w.alloc (.cells #[.int .i64 0, .int .i64 86400] 25)).cell? ⟨x.w.heap.size, 0, none⟩ = some (.int .i64 0) := by simp [go_sem]
  have hw1 : (x.w.alloc (.cells #[.int .i64 0, .int .i64 86400] 25)).cell? ⟨x.w.heap.size, 1, none⟩ = some (.int .i64 86400) := by simp [go_sem]
  have hwf : ∀ o, (x.w.alloc (.cells #[.int .i64 0, .int .i64 86400] 25)).frozen? ⟨x.w.heap.size, o, none⟩ = false := fun o => by simp [go_sem]
  have hlt0 : x.w.heap.size < (x.w.alloc (.cells #[.int .i64 0, .int .i64 86400] 25)).heap.size := by simp
  have hst0 : ∃ zz : Since x.w, (x.w.alloc (.cells #[.int .i64 0, .int .i64 86400] 25)) = zz.w := IsSince.alloc (IsSince.self _) _
  have hsz0 := x.b.size
  obtain ⟨y1, e2⟩ := IsSince.alloc (IsSince.of x) (.cells #[.int .i64 0, .int .i64 86400] 25)
  rw [e2] at hw0 hw1 hwf hlt0 hst0 ⊢
  skip
  clear e2 hst0
  generalize x.w.heap.size = gw at *
  have Hhw0 : ∀ q : Since y1.w, q.w.cell? ⟨gw, 0, none⟩ = some (.int .i64 0) := fun q => Since.cell hw0 (by omega) q
  have Hhw1 : ∀ q : Since y1.w, q.w.cell? ⟨gw, 1, none⟩ = some (.int .i64 86400) := fun q => Since.cell hw1 (by omega) q
  have Hhwf : ∀ (q : Since y1.w) (o : Nat), q.w.frozen? ⟨gw, o, none⟩ = false := fun q o => Since.free (hwf o) (by omega) q
  have Hhwg := Lib.hid (And.intro hsz0 hlt0)
  clear hlt0 hsz0
  clear hw0 hw1 hwf Hhwf Hhwg
  have w0 := fun w' (h : IsSince y1.w w') => IsSince.cell Hhw0 h
  have w1 := fun w' (h : IsSince y1.w w') => IsSince.cell Hhw1 h
  go_cut [2, 3] (fun s2 s3 wr => ∃ (g : Nat) (a1 a2 a3 a4 a5 : Option Addr) (c1 c2 c3 c4 c5 : Nat) (y5 : Since y1.w), s2 = .pointer (some ⟨g, 0, none⟩) ∧ s3 = .int .i64 0 ∧ wr = y5.w ∧ RelBox y5.w g exA a1 a2 a3 a4 a5 c1 c2 c3 c4 c5 ∧ RelRows y5.w exA a1 a2 a3 a4 a5)
  case first =>
    go_region_held3 (fun w' => IsSince y1.w w') (with_reducible first | assumption | exact IsSince.drew' (IsSince.self _) | exact IsSince.of _ | with_reducible exact since_ten (IsSince.of _) hgA _ _ _ _ _ _ _ _ _ _ | exact IsSince.alloc (IsSince.of _) _ | exact IsSince.alloc (IsSince.drew' (IsSince.self _)) _ | exact IsSince.drew' (IsSince.alloc (IsSince.self _) _) | exact IsSince.alloc (by assumption) _) (first | (go_at_call 28; (with_reducible refine (zones_s y1.w _ (by assumption)).mono ?_); rintro _ _ ⟨az, cz, z1, rfl, rfl, hz1, hz⟩; first | (with_reducible have hA := BoxIs.to (BoxIs.new _ [.int .i64 0, .int .i64 0, .int .i64 0, .int .i64 0, .int .i64 0, .slice none 0 0, .slice none 0 0, .slice none 0 0, .slice none 0 0, .slice none 0 0] 36) hz1; have hgA := box_base (W := y1.w) hA (by first | exact IsSince.of _ | exact IsSince.self _ | exact IsSince.drew' (IsSince.self _))) | (with_reducible have hA := BoxIs.to (BoxIs.new _ [.int .i64 0, .int .i64 0, .int .i64 0, .int .i64 0, .int .i64 0, .slice none 0 0, .slice none 0 0, .slice none 0 0, .slice none 0 0, .slice none 0 0] 36).drew hz1; have hgA := box_base (W := y1.w) hA (by first | exact IsSince.of _ | exact IsSince.self _ | exact IsSince.drew' (IsSince.self _))) | skip) | (go_at_call 29; (with_reducible refine (four_s y1.w _ (by assumption)).mono ?_); rintro _ _ ⟨ar, cr, R, z2, rfl, rfl, hz2, hr, hR⟩; (first | with_reducible replace hz := hz.to hz2 | replace hz := hz.to (IsSince.trans (IsSince.alloc (IsSince.self z1.w) _) hz2)); first | (with_reducible have hA := BoxIs.to (BoxIs.new _ [.int .i64 0, .int .i64 0, .int .i64 0, .int .i64 0, .int .i64 0, .slice none 0 0, .slice none 0 0, .slice none 0 0, .slice none 0 0, .slice none 0 0] 36) hz2; have hgA := box_base (W := y1.w) hA (by first | exact IsSince.of _ | exact IsSince.self _ | exact IsSince.drew' (IsSince.self _))) | replace hA := hA.to hz2 | skip) | (go_at_call 12; (with_reducible refine (exact_s y1.w _ (by assumption) az cz ar R cr 3 0 0 exA (by first | with_reducible exact hz | exact row_alloc hz _) (by first | with_reducible exact hr | exact rides_alloc hr _) hR ex_a.1 ex_a.2 _ _ _ _ _ rfl rfl rfl rfl rfl).mono ?_); rintro _ _ ⟨a1, a2, a3, a4, a5, c1, c2, c3, c4, c5, z3, rfl, rfl, hz3, hrows, hf⟩; first | (with_reducible have hne := fun b hb => Nat.ne_of_gt (Nat.lt_of_lt_of_le (BoxIs.new _ [.int .i64 0, .int .i64 0, .int .i64 0, .int .i64 0, .int .i64 0, .slice none 0 0, .slice none 0 0, .slice none 0 0, .slice none 0 0, .slice none 0 0] 36).lt (hf b hb)); (with_reducible have hA := BoxIs.to (BoxIs.new _ [.int .i64 0, .int .i64 0, .int .i64 0, .int .i64 0, .int .i64 0, .slice none 0 0, .slice none 0 0, .slice none 0 0, .slice none 0 0, .slice none 0 0] 36) hz3; have hgA := box_base (W := y1.w) hA (by first | exact IsSince.of _ | exact IsSince.self _ | exact IsSince.drew' (IsSince.self _))); have hA0 := hA.c 0 _ rfl; have hA1 := hA.c 1 _ rfl; have hA2 := hA.c 2 _ rfl; have hA3 := hA.c 3 _ rfl; have hA4 := hA.c 4 _ rfl; have hA5 := hA.c 5 _ rfl; have hA6 := hA.c 6 _ rfl; have hA7 := hA.c 7 _ rfl; have hA8 := hA.c 8 _ rfl; have hA9 := hA.c 9 _ rfl; have hAf := hA.f) | (have hne := fun b hb => Nat.ne_of_gt (Nat.lt_of_lt_of_le hA.lt (hf b hb)); replace hA := hA.to hz3; have hA0 := hA.c 0 _ rfl; have hA1 := hA.c 1 _ rfl; have hA2 := hA.c 2 _ rfl; have hA3 := hA.c 3 _ rfl; have hA4 := hA.c 4 _ rfl; have hA5 := hA.c 5 _ rfl; have hA6 := hA.c 6 _ rfl; have hA7 := hA.c 7 _ rfl; have hA8 := hA.c 8 _ rfl; have hA9 := hA.c 9 _ rfl; have hAf := hA.f) | skip))
    all_goals (go_wp2_with fail)
    all_goals go_meet
    all_goals
      first
        | (obtain ⟨y5, h5, hb, hrw⟩ := rel_late z3 hrows 36 (c1 := c1) (c2 := c2) (c3 := c3) (c4 := c4) (c5 := c5)
           with_reducible exact ⟨_, _, _, _, _, _, _, _, _, _, _, y5, rfl, rfl, h5, hb, hrw⟩)
        | (obtain ⟨y5, h5, hb, hrw⟩ := rel_early z3 hA hgA rfl hrows hne (c1 := c1) (c2 := c2) (c3 := c3) (c4 := c4) (c5 := c5)
           simp only [World.setCells, Nat.reduceAdd] at h5
           with_reducible exact ⟨_, _, _, _, _, _, _, _, _, _, _, y5, rfl, rfl, h5, hb, hrw⟩)
  case rest =>
  obtain ⟨gp, a1p, a2p, a3p, a4p, a5p, c1p, c2p, c3p, c4p, c5p, y2, rfl, rfl, rfl, hbp, hrp⟩ := hcut
  have HBp := Lib.hid hbp; have HRp := Lib.hid hrp
  clear hbp hrp w0 w1
  replace Hhw0 := Since.cellTo ⟨y2, rfl⟩ Hhw0
  replace Hhw1 := Since.cellTo ⟨y2, rfl⟩ Hhw1
  go_upto_region 3 with fail
  have w0 := fun w' (h : IsSince y2.w w') => IsSince.cell Hhw0 h
  have w1 := fun w' (h : IsSince y2.w w') => IsSince.cell Hhw1 h
  go_cut [4, 5] (fun s2 s3 wr => ∃ (g : Nat) (a1 a2 a3 a4 a5 : Option Addr) (c1 c2 c3 c4 c5 : Nat) (y5 : Since y2.w), s2 = .pointer (some ⟨g, 0, none⟩) ∧ s3 = .int .i64 0 ∧ wr = y5.w ∧ RelBox y5.w g exB a1 a2 a3 a4 a5 c1 c2 c3 c4 c5 ∧ RelRows y5.w exB a1 a2 a3 a4 a5)
  case first =>
    go_region_held3 (fun w' => IsSince y2.w w') (with_reducible first | assumption | exact IsSince.drew' (IsSince.self _) | exact IsSince.of _ | with_reducible exact since_ten (IsSince.of _) hgA _ _ _ _ _ _ _ _ _ _ | exact IsSince.alloc (IsSince.of _) _ | exact IsSince.alloc (IsSince.drew' (IsSince.self _)) _ | exact IsSince.drew' (IsSince.alloc (IsSince.self _) _) | exact IsSince.alloc (by assumption) _) (first | (go_at_call 28; (with_reducible refine (zones_s y2.w _ (by assumption)).mono ?_); rintro _ _ ⟨az, cz, z1, rfl, rfl, hz1, hz⟩; first | (with_reducible have hA := BoxIs.to (BoxIs.new _ [.int .i64 0, .int .i64 0, .int .i64 0, .int .i64 0, .int .i64 0, .slice none 0 0, .slice none 0 0, .slice none 0 0, .slice none 0 0, .slice none 0 0] 36) hz1; have hgA := box_base (W := y2.w) hA (by first | exact IsSince.of _ | exact IsSince.self _ | exact IsSince.drew' (IsSince.self _))) | (with_reducible have hA := BoxIs.to (BoxIs.new _ [.int .i64 0, .int .i64 0, .int .i64 0, .int .i64 0, .int .i64 0, .slice none 0 0, .slice none 0 0, .slice none 0 0, .slice none 0 0, .slice none 0 0] 36).drew hz1; have hgA := box_base (W := y2.w) hA (by first | exact IsSince.of _ | exact IsSince.self _ | exact IsSince.drew' (IsSince.self _))) | skip) | (go_at_call 29; (with_reducible refine (four_s y2.w _ (by assumption)).mono ?_); rintro _ _ ⟨ar, cr, R, z2, rfl, rfl, hz2, hr, hR⟩; (first | with_reducible replace hz := hz.to hz2 | replace hz := hz.to (IsSince.trans (IsSince.alloc (IsSince.self z1.w) _) hz2)); first | (with_reducible have hA := BoxIs.to (BoxIs.new _ [.int .i64 0, .int .i64 0, .int .i64 0, .int .i64 0, .int .i64 0, .slice none 0 0, .slice none 0 0, .slice none 0 0, .slice none 0 0, .slice none 0 0] 36) hz2; have hgA := box_base (W := y2.w) hA (by first | exact IsSince.of _ | exact IsSince.self _ | exact IsSince.drew' (IsSince.self _))) | replace hA := hA.to hz2 | skip) | (go_at_call 12; (with_reducible refine (exact_s y2.w _ (by assumption) az cz ar R cr 5 0 0 exB (by first | with_reducible exact hz | exact row_alloc hz _) (by first | with_reducible exact hr | exact rides_alloc hr _) hR ex_b.1 ex_b.2 _ _ _ _ _ rfl rfl rfl rfl rfl).mono ?_); rintro _ _ ⟨a1, a2, a3, a4, a5, c1, c2, c3, c4, c5, z3, rfl, rfl, hz3, hrows, hf⟩; first | (with_reducible have hne := fun b hb => Nat.ne_of_gt (Nat.lt_of_lt_of_le (BoxIs.new _ [.int .i64 0, .int .i64 0, .int .i64 0, .int .i64 0, .int .i64 0, .slice none 0 0, .slice none 0 0, .slice none 0 0, .slice none 0 0, .slice none 0 0] 36).lt (hf b hb)); (with_reducible have hA := BoxIs.to (BoxIs.new _ [.int .i64 0, .int .i64 0, .int .i64 0, .int .i64 0, .int .i64 0, .slice none 0 0, .slice none 0 0, .slice none 0 0, .slice none 0 0, .slice none 0 0] 36) hz3; have hgA := box_base (W := y2.w) hA (by first | exact IsSince.of _ | exact IsSince.self _ | exact IsSince.drew' (IsSince.self _))); have hA0 := hA.c 0 _ rfl; have hA1 := hA.c 1 _ rfl; have hA2 := hA.c 2 _ rfl; have hA3 := hA.c 3 _ rfl; have hA4 := hA.c 4 _ rfl; have hA5 := hA.c 5 _ rfl; have hA6 := hA.c 6 _ rfl; have hA7 := hA.c 7 _ rfl; have hA8 := hA.c 8 _ rfl; have hA9 := hA.c 9 _ rfl; have hAf := hA.f) | (have hne := fun b hb => Nat.ne_of_gt (Nat.lt_of_lt_of_le hA.lt (hf b hb)); replace hA := hA.to hz3; have hA0 := hA.c 0 _ rfl; have hA1 := hA.c 1 _ rfl; have hA2 := hA.c 2 _ rfl; have hA3 := hA.c 3 _ rfl; have hA4 := hA.c 4 _ rfl; have hA5 := hA.c 5 _ rfl; have hA6 := hA.c 6 _ rfl; have hA7 := hA.c 7 _ rfl; have hA8 := hA.c 8 _ rfl; have hA9 := hA.c 9 _ rfl; have hAf := hA.f) | skip))
    all_goals (go_wp2_with fail)
    all_goals go_meet
    all_goals
      first
        | (obtain ⟨y5, h5, hb, hrw⟩ := rel_late z3 hrows 36 (c1 := c1) (c2 := c2) (c3 := c3) (c4 := c4) (c5 := c5)
           with_reducible exact ⟨_, _, _, _, _, _, _, _, _, _, _, y5, rfl, rfl, h5, hb, hrw⟩)
        | (obtain ⟨y5, h5, hb, hrw⟩ := rel_early z3 hA hgA rfl hrows hne (c1 := c1) (c2 := c2) (c3 := c3) (c4 := c4) (c5 := c5)
           simp only [World.setCells, Nat.reduceAdd] at h5
           with_reducible exact ⟨_, _, _, _, _, _, _, _, _, _, _, y5, rfl, rfl, h5, hb, hrw⟩)
  case rest =>
  obtain ⟨gq, a1q, a2q, a3q, a4q, a5q, c1q, c2q, c3q, c4q, c5q, y3, rfl, rfl, rfl, hbq, hrq⟩ := hcut
  have HBq := Lib.hid hbq; have HRq := Lib.hid hrq
  clear hbq hrq w0 w1
  replace Hhw0 := Since.cellTo ⟨y3, rfl⟩ Hhw0
  replace Hhw1 := Since.cellTo ⟨y3, rfl⟩ Hhw1
  go_upto_region 4 with fail
  have w0 := fun w' (h : IsSince y3.w w') => IsSince.cell Hhw0 h
  have w1 := fun w' (h : IsSince y3.w w') => IsSince.cell Hhw1 h
  go_cut [6, 7] (fun s2 s3 wr => ∃ (g : Nat) (a1 a2 a3 a4 a5 : Option Addr) (c1 c2 c3 c4 c5 : Nat) (y5 : Since y3.w), s2 = .pointer (some ⟨g, 0, none⟩) ∧ s3 = .int .i64 10 ∧ wr = y5.w ∧ RelBox y5.w g rel0 a1 a2 a3 a4 a5 c1 c2 c3 c4 c5 ∧ RelRows y5.w rel0 a1 a2 a3 a4 a5)
  case first =>
    go_region_held3 (fun w' => IsSince y3.w w') (with_reducible first | assumption | exact IsSince.drew' (IsSince.self _) | exact IsSince.of _ | with_reducible exact since_ten (IsSince.of _) hgA _ _ _ _ _ _ _ _ _ _ | exact IsSince.alloc (IsSince.of _) _ | exact IsSince.alloc (IsSince.drew' (IsSince.self _)) _ | exact IsSince.drew' (IsSince.alloc (IsSince.self _) _) | exact IsSince.alloc (by assumption) _) (first | (go_at_call 28; (with_reducible refine (zones_s y3.w _ (by assumption)).mono ?_); rintro _ _ ⟨az, cz, z1, rfl, rfl, hz1, hz⟩; first | (with_reducible have hA := BoxIs.to (BoxIs.new _ [.int .i64 0, .int .i64 0, .int .i64 0, .int .i64 0, .int .i64 0, .slice none 0 0, .slice none 0 0, .slice none 0 0, .slice none 0 0, .slice none 0 0] 36) hz1; have hgA := box_base (W := y3.w) hA (by first | exact IsSince.of _ | exact IsSince.self _ | exact IsSince.drew' (IsSince.self _))) | (with_reducible have hA := BoxIs.to (BoxIs.new _ [.int .i64 0, .int .i64 0, .int .i64 0, .int .i64 0, .int .i64 0, .slice none 0 0, .slice none 0 0, .slice none 0 0, .slice none 0 0, .slice none 0 0] 36).drew hz1; have hgA := box_base (W := y3.w) hA (by first | exact IsSince.of _ | exact IsSince.self _ | exact IsSince.drew' (IsSince.self _))) | skip) | (go_at_call 29; (with_reducible refine (four_s y3.w _ (by assumption)).mono ?_); rintro _ _ ⟨ar, cr, R, z2, rfl, rfl, hz2, hr, hR⟩; (first | with_reducible replace hz := hz.to hz2 | replace hz := hz.to (IsSince.trans (IsSince.alloc (IsSince.self z1.w) _) hz2)); first | (with_reducible have hA := BoxIs.to (BoxIs.new _ [.int .i64 0, .int .i64 0, .int .i64 0, .int .i64 0, .int .i64 0, .slice none 0 0, .slice none 0 0, .slice none 0 0, .slice none 0 0, .slice none 0 0] 36) hz2; have hgA := box_base (W := y3.w) hA (by first | exact IsSince.of _ | exact IsSince.self _ | exact IsSince.drew' (IsSince.self _))) | replace hA := hA.to hz2 | skip) | (go_at_call 12; (with_reducible refine (exact_s y3.w _ (by assumption) az cz ar R cr 5 1 10 rel0 (by first | with_reducible exact hz | exact row_alloc hz _) (by first | with_reducible exact hr | exact rides_alloc hr _) hR ex_g.1 ex_g.2 _ _ _ _ _ rfl rfl rfl rfl rfl).mono ?_); rintro _ _ ⟨a1, a2, a3, a4, a5, c1, c2, c3, c4, c5, z3, rfl, rfl, hz3, hrows, hf⟩; first | (with_reducible have hne := fun b hb => Nat.ne_of_gt (Nat.lt_of_lt_of_le (BoxIs.new _ [.int .i64 0, .int .i64 0, .int .i64 0, .int .i64 0, .int .i64 0, .slice none 0 0, .slice none 0 0, .slice none 0 0, .slice none 0 0, .slice none 0 0] 36).lt (hf b hb)); (with_reducible have hA := BoxIs.to (BoxIs.new _ [.int .i64 0, .int .i64 0, .int .i64 0, .int .i64 0, .int .i64 0, .slice none 0 0, .slice none 0 0, .slice none 0 0, .slice none 0 0, .slice none 0 0] 36) hz3; have hgA := box_base (W := y3.w) hA (by first | exact IsSince.of _ | exact IsSince.self _ | exact IsSince.drew' (IsSince.self _))); have hA0 := hA.c 0 _ rfl; have hA1 := hA.c 1 _ rfl; have hA2 := hA.c 2 _ rfl; have hA3 := hA.c 3 _ rfl; have hA4 := hA.c 4 _ rfl; have hA5 := hA.c 5 _ rfl; have hA6 := hA.c 6 _ rfl; have hA7 := hA.c 7 _ rfl; have hA8 := hA.c 8 _ rfl; have hA9 := hA.c 9 _ rfl; have hAf := hA.f) | (have hne := fun b hb => Nat.ne_of_gt (Nat.lt_of_lt_of_le hA.lt (hf b hb)); replace hA := hA.to hz3; have hA0 := hA.c 0 _ rfl; have hA1 := hA.c 1 _ rfl; have hA2 := hA.c 2 _ rfl; have hA3 := hA.c 3 _ rfl; have hA4 := hA.c 4 _ rfl; have hA5 := hA.c 5 _ rfl; have hA6 := hA.c 6 _ rfl; have hA7 := hA.c 7 _ rfl; have hA8 := hA.c 8 _ rfl; have hA9 := hA.c 9 _ rfl; have hAf := hA.f) | skip))
    all_goals (go_wp2_with fail)
    all_goals go_meet
    all_goals
      first
        | (obtain ⟨y5, h5, hb, hrw⟩ := rel_late z3 hrows 36 (c1 := c1) (c2 := c2) (c3 := c3) (c4 := c4) (c5 := c5)
           with_reducible exact ⟨_, _, _, _, _, _, _, _, _, _, _, y5, rfl, rfl, h5, hb, hrw⟩)
        | (obtain ⟨y5, h5, hb, hrw⟩ := rel_early z3 hA hgA rfl hrows hne (c1 := c1) (c2 := c2) (c3 := c3) (c4 := c4) (c5 := c5)
           simp only [World.setCells, Nat.reduceAdd] at h5
           with_reducible exact ⟨_, _, _, _, _, _, _, _, _, _, _, y5, rfl, rfl, h5, hb, hrw⟩)
  case rest =>
  obtain ⟨gr, a1r, a2r, a3r, a4r, a5r, c1r, c2r, c3r, c4r, c5r, y4, rfl, rfl, rfl, hbr, hrr⟩ := hcut
  have HBr := Lib.hid hbr; have HRr := Lib.hid hrr
  clear hbr hrr w0 w1
  replace Hhw0 := Since.cellTo ⟨y4, rfl⟩ Hhw0
  replace Hhw1 := Since.cellTo ⟨y4, rfl⟩ Hhw1
  have HA := Lib.hid (show BoxIs y4.w gp [.int .i64 0, .int .i64 86400, .int .i64 2, .int .i64 2, .int .i64 2, .slice a1p 4 c1p, .slice a2p 4 c2p, .slice a3p 2 c3p, .slice a4p 2 c4p, .slice a5p 0 c5p] from (BoxIs.since HBp.out y3).since y4)
  have HAr := Lib.hid (RelRows.to (RelRows.to HRp.out ⟨y3, rfl⟩) ⟨y4, rfl⟩)
  have HB := Lib.hid (show BoxIs y4.w gq [.int .i64 0, .int .i64 86400, .int .i64 2, .int .i64 2, .int .i64 2, .slice a1q 4 c1q, .slice a2q 4 c2q, .slice a3q 2 c3q, .slice a4q 2 c4q, .slice a5q 0 c5q] from BoxIs.since HBq.out y4)
  have HBrr := Lib.hid (RelRows.to HRq.out ⟨y4, rfl⟩)
  have Hsg4 := Lib.hid (Signs.to (Signs.to (Signs.to (Signs.to Hsg.out ⟨y1, rfl⟩) ⟨y2, rfl⟩) ⟨y3, rfl⟩) ⟨y4, rfl⟩)
  clear HBp HRp HBq HRq HRr HBr
  have HBr := HBrr
  clear HBrr
  have HUp := Lib.hid (fun q : Since y4.w => show ∃ z : Since w, q.w = z.w from by
    obtain ⟨z0, e0⟩ := y4.trans q
    obtain ⟨z1, e1⟩ := y3.trans z0
    obtain ⟨z2, e2⟩ := y2.trans z1
    obtain ⟨z3, e3⟩ := y1.trans z2
    exact ⟨z3, e0.trans (e1.trans (e2.trans e3))⟩)
  obtain ⟨y5, hy5⟩ := Since.refl y4.w
  rw [hy5]
  clear hy5
  go_upto_region 6 with fail
  have hx0_0 : (((y5.w.alloc (.cells #[.int .i64 1, .int .i64 4, .int .i64 0, .int .i64 0] 3)).alloc (.cells #[.int .i64 4, .int .i64 2, .int .i64 1] 3)).alloc (.cells #[.int .i64 0, .int .i64 86400, .int .i64 2, .int .i64 2, .int .i64 2, .slice (some ⟨y5.w.heap.size, 0, none⟩) 4 4, .slice none 0 0, .slice none 0 0, .slice none 0 0, .slice (some ⟨y5.w.heap.size + 1, 0, none⟩) 3 3] 36)).cell? ⟨y5.w.heap.size, 0, none⟩ = some (.int .i64 1) := by simp [go_sem]
  have hx0_1 : (((y5.w.alloc (.cells #[.int .i64 1, .int .i64 4, .int .i64 0, .int .i64 0] 3)).alloc (.cells #[.int .i64 4, .int .i64 2, .int .i64 1] 3)).alloc (.cells #[.int .i64 0, .int .i64 86400, .int .i64 2, .int .i64 2, .int .i64 2, .slice (some ⟨y5.w.heap.size, 0, none⟩) 4 4, .slice none 0 0, .slice none 0 0, .slice none 0 0, .slice (some ⟨y5.w.heap.size + 1, 0, none⟩) 3 3] 36)).cell? ⟨y5.w.heap.size, 1, none⟩ = some (.int .i64 4) := by simp [go_sem]
  have hx0_2 : (((y5.w.alloc (.cells #[.int .i64 1, .int .i64 4, .int .i64 0, .int .i64 0] 3)).alloc (.cells #[.int .i64 4, .int .i64 2, .int .i64 1] 3)).alloc (.cells #[.int .i64 0, .int .i64 86400, .int .i64 2, .int .i64 2, .int .i64 2, .slice (some ⟨y5.w.heap.size, 0, none⟩) 4 4, .slice none 0 0, .slice none 0 0, .slice none 0 0, .slice (some ⟨y5.w.heap.size + 1, 0, none⟩) 3 3] 36)).cell? ⟨y5.w.heap.size, 2, none⟩ = some (.int .i64 0) := by simp [go_sem]
  have hx0_3 : (((y5.w.alloc (.cells #[.int .i64 1, .int .i64 4, .int .i64 0, .int .i64 0] 3)).alloc (.cells #[.int .i64 4, .int .i64 2, .int .i64 1] 3)).alloc (.cells #[.int .i64 0, .int .i64 86400, .int .i64 2, .int .i64 2, .int .i64 2, .slice (some ⟨y5.w.heap.size, 0, none⟩) 4 4, .slice none 0 0, .slice none 0 0, .slice none 0 0, .slice (some ⟨y5.w.heap.size + 1, 0, none⟩) 3 3] 36)).cell? ⟨y5.w.heap.size, 3, none⟩ = some (.int .i64 0) := by simp [go_sem]
  have hx1_0 : (((y5.w.alloc (.cells #[.int .i64 1, .int .i64 4, .int .i64 0, .int .i64 0] 3)).alloc (.cells #[.int .i64 4, .int .i64 2, .int .i64 1] 3)).alloc (.cells #[.int .i64 0, .int .i64 86400, .int .i64 2, .int .i64 2, .int .i64 2, .slice (some ⟨y5.w.heap.size, 0, none⟩) 4 4, .slice none 0 0, .slice none 0 0, .slice none 0 0, .slice (some ⟨y5.w.heap.size + 1, 0, none⟩) 3 3] 36)).cell? ⟨y5.w.heap.size + 1, 0, none⟩ = some (.int .i64 4) := by simp [go_sem]
  have hx1_1 : (((y5.w.alloc (.cells #[.int .i64 1, .int .i64 4, .int .i64 0, .int .i64 0] 3)).alloc (.cells #[.int .i64 4, .int .i64 2, .int .i64 1] 3)).alloc (.cells #[.int .i64 0, .int .i64 86400, .int .i64 2, .int .i64 2, .int .i64 2, .slice (some ⟨y5.w.heap.size, 0, none⟩) 4 4, .slice none 0 0, .slice none 0 0, .slice none 0 0, .slice (some ⟨y5.w.heap.size + 1, 0, none⟩) 3 3] 36)).cell? ⟨y5.w.heap.size + 1, 1, none⟩ = some (.int .i64 2) := by simp [go_sem]
  have hx1_2 : (((y5.w.alloc (.cells #[.int .i64 1, .int .i64 4, .int .i64 0, .int .i64 0] 3)).alloc (.cells #[.int .i64 4, .int .i64 2, .int .i64 1] 3)).alloc (.cells #[.int .i64 0, .int .i64 86400, .int .i64 2, .int .i64 2, .int .i64 2, .slice (some ⟨y5.w.heap.size, 0, none⟩) 4 4, .slice none 0 0, .slice none 0 0, .slice none 0 0, .slice (some ⟨y5.w.heap.size + 1, 0, none⟩) 3 3] 36)).cell? ⟨y5.w.heap.size + 1, 2, none⟩ = some (.int .i64 1) := by simp [go_sem]
  have hx2_0 : (((y5.w.alloc (.cells #[.int .i64 1, .int .i64 4, .int .i64 0, .int .i64 0] 3)).alloc (.cells #[.int .i64 4, .int .i64 2, .int .i64 1] 3)).alloc (.cells #[.int .i64 0, .int .i64 86400, .int .i64 2, .int .i64 2, .int .i64 2, .slice (some ⟨y5.w.heap.size, 0, none⟩) 4 4, .slice none 0 0, .slice none 0 0, .slice none 0 0, .slice (some ⟨y5.w.heap.size + 1, 0, none⟩) 3 3] 36)).cell? ⟨y5.w.heap.size + 2, 0, none⟩ = some (.int .i64 0) := by simp [go_sem]
  have hx2_1 : (((y5.w.alloc (.cells #[.int .i64 1, .int .i64 4, .int .i64 0, .int .i64 0] 3)).alloc (.cells #[.int .i64 4, .int .i64 2, .int .i64 1] 3)).alloc (.cells #[.int .i64 0, .int .i64 86400, .int .i64 2, .int .i64 2, .int .i64 2, .slice (some ⟨y5.w.heap.size, 0, none⟩) 4 4, .slice none 0 0, .slice none 0 0, .slice none 0 0, .slice (some ⟨y5.w.heap.size + 1, 0, none⟩) 3 3] 36)).cell? ⟨y5.w.heap.size + 2, 1, none⟩ = some (.int .i64 86400) := by simp [go_sem]
  have hx2_2 : (((y5.w.alloc (.cells #[.int .i64 1, .int .i64 4, .int .i64 0, .int .i64 0] 3)).alloc (.cells #[.int .i64 4, .int .i64 2, .int .i64 1] 3)).alloc (.cells #[.int .i64 0, .int .i64 86400, .int .i64 2, .int .i64 2, .int .i64 2, .slice (some ⟨y5.w.heap.size, 0, none⟩) 4 4, .slice none 0 0, .slice none 0 0, .slice none 0 0, .slice (some ⟨y5.w.heap.size + 1, 0, none⟩) 3 3] 36)).cell? ⟨y5.w.heap.size + 2, 2, none⟩ = some (.int .i64 2) := by simp [go_sem]
  have hx2_3 : (((y5.w.alloc (.cells #[.int .i64 1, .int .i64 4, .int .i64 0, .int .i64 0] 3)).alloc (.cells #[.int .i64 4, .int .i64 2, .int .i64 1] 3)).alloc (.cells #[.int .i64 0, .int .i64 86400, .int .i64 2, .int .i64 2, .int .i64 2, .slice (some ⟨y5.w.heap.size, 0, none⟩) 4 4, .slice none 0 0, .slice none 0 0, .slice none 0 0, .slice (some ⟨y5.w.heap.size + 1, 0, none⟩) 3 3] 36)).cell? ⟨y5.w.heap.size + 2, 3, none⟩ = some (.int .i64 2) := by simp [go_sem]
  have hx2_4 : (((y5.w.alloc (.cells #[.int .i64 1, .int .i64 4, .int .i64 0, .int .i64 0] 3)).alloc (.cells #[.int .i64 4, .int .i64 2, .int .i64 1] 3)).alloc (.cells #[.int .i64 0, .int .i64 86400, .int .i64 2, .int .i64 2, .int .i64 2, .slice (some ⟨y5.w.heap.size, 0, none⟩) 4 4, .slice none 0 0, .slice none 0 0, .slice none 0 0, .slice (some ⟨y5.w.heap.size + 1, 0, none⟩) 3 3] 36)).cell? ⟨y5.w.heap.size + 2, 4, none⟩ = some (.int .i64 2) := by simp [go_sem]
  have hx2_5 : (((y5.w.alloc (.cells #[.int .i64 1, .int .i64 4, .int .i64 0, .int .i64 0] 3)).alloc (.cells #[.int .i64 4, .int .i64 2, .int .i64 1] 3)).alloc (.cells #[.int .i64 0, .int .i64 86400, .int .i64 2, .int .i64 2, .int .i64 2, .slice (some ⟨y5.w.heap.size, 0, none⟩) 4 4, .slice none 0 0, .slice none 0 0, .slice none 0 0, .slice (some ⟨y5.w.heap.size + 1, 0, none⟩) 3 3] 36)).cell? ⟨y5.w.heap.size + 2, 5, none⟩ = some (.slice (some ⟨y5.w.heap.size, 0, none⟩) 4 4) := by simp [go_sem]
  have hx2_6 : (((y5.w.alloc (.cells #[.int .i64 1, .int .i64 4, .int .i64 0, .int .i64 0] 3)).alloc (.cells #[.int .i64 4, .int .i64 2, .int .i64 1] 3)).alloc (.cells #[.int .i64 0, .int .i64 86400, .int .i64 2, .int .i64 2, .int .i64 2, .slice (some ⟨y5.w.heap.size, 0, none⟩) 4 4, .slice none 0 0, .slice none 0 0, .slice none 0 0, .slice (some ⟨y5.w.heap.size + 1, 0, none⟩) 3 3] 36)).cell? ⟨y5.w.heap.size + 2, 6, none⟩ = some (.slice none 0 0) := by simp [go_sem]
  have hx2_7 : (((y5.w.alloc (.cells #[.int .i64 1, .int .i64 4, .int .i64 0, .int .i64 0] 3)).alloc (.cells #[.int .i64 4, .int .i64 2, .int .i64 1] 3)).alloc (.cells #[.int .i64 0, .int .i64 86400, .int .i64 2, .int .i64 2, .int .i64 2, .slice (some ⟨y5.w.heap.size, 0, none⟩) 4 4, .slice none 0 0, .slice none 0 0, .slice none 0 0, .slice (some ⟨y5.w.heap.size + 1, 0, none⟩) 3 3] 36)).cell? ⟨y5.w.heap.size + 2, 7, none⟩ = some (.slice none 0 0) := by simp [go_sem]
  have hx2_8 : (((y5.w.alloc (.cells #[.int .i64 1, .int .i64 4, .int .i64 0, .int .i64 0] 3)).alloc (.cells #[.int .i64 4, .int .i64 2, .int .i64 1] 3)).alloc (.cells #[.int .i64 0, .int .i64 86400, .int .i64 2, .int .i64 2, .int .i64 2, .slice (some ⟨y5.w.heap.size, 0, none⟩) 4 4, .slice none 0 0, .slice none 0 0, .slice none 0 0, .slice (some ⟨y5.w.heap.size + 1, 0, none⟩) 3 3] 36)).cell? ⟨y5.w.heap.size + 2, 8, none⟩ = some (.slice none 0 0) := by simp [go_sem]
  have hx2_9 : (((y5.w.alloc (.cells #[.int .i64 1, .int .i64 4, .int .i64 0, .int .i64 0] 3)).alloc (.cells #[.int .i64 4, .int .i64 2, .int .i64 1] 3)).alloc (.cells #[.int .i64 0, .int .i64 86400, .int .i64 2, .int .i64 2, .int .i64 2, .slice (some ⟨y5.w.heap.size, 0, none⟩) 4 4, .slice none 0 0, .slice none 0 0, .slice none 0 0, .slice (some ⟨y5.w.heap.size + 1, 0, none⟩) 3 3] 36)).cell? ⟨y5.w.heap.size + 2, 9, none⟩ = some (.slice (some ⟨y5.w.heap.size + 1, 0, none⟩) 3 3) := by simp [go_sem]
  have hx0_f : ∀ o, (((y5.w.alloc (.cells #[.int .i64 1, .int .i64 4, .int .i64 0, .int .i64 0] 3)).alloc (.cells #[.int .i64 4, .int .i64 2, .int .i64 1] 3)).alloc (.cells #[.int .i64 0, .int .i64 86400, .int .i64 2, .int .i64 2, .int .i64 2, .slice (some ⟨y5.w.heap.size, 0, none⟩) 4 4, .slice none 0 0, .slice none 0 0, .slice none 0 0, .slice (some ⟨y5.w.heap.size + 1, 0, none⟩) 3 3] 36)).frozen? ⟨y5.w.heap.size, o, none⟩ = false := fun o => by simp [go_sem]
  have hx1_f : ∀ o, (((y5.w.alloc (.cells #[.int .i64 1, .int .i64 4, .int .i64 0, .int .i64 0] 3)).alloc (.cells #[.int .i64 4, .int .i64 2, .int .i64 1] 3)).alloc (.cells #[.int .i64 0, .int .i64 86400, .int .i64 2, .int .i64 2, .int .i64 2, .slice (some ⟨y5.w.heap.size, 0, none⟩) 4 4, .slice none 0 0, .slice none 0 0, .slice none 0 0, .slice (some ⟨y5.w.heap.size + 1, 0, none⟩) 3 3] 36)).frozen? ⟨y5.w.heap.size + 1, o, none⟩ = false := fun o => by simp [go_sem]
  have hx2_f : ∀ o, (((y5.w.alloc (.cells #[.int .i64 1, .int .i64 4, .int .i64 0, .int .i64 0] 3)).alloc (.cells #[.int .i64 4, .int .i64 2, .int .i64 1] 3)).alloc (.cells #[.int .i64 0, .int .i64 86400, .int .i64 2, .int .i64 2, .int .i64 2, .slice (some ⟨y5.w.heap.size, 0, none⟩) 4 4, .slice none 0 0, .slice none 0 0, .slice none 0 0, .slice (some ⟨y5.w.heap.size + 1, 0, none⟩) 3 3] 36)).frozen? ⟨y5.w.heap.size + 2, o, none⟩ = false := fun o => by simp [go_sem]
  have hlt0 : y5.w.heap.size + 2 < (((y5.w.alloc (.cells #[.int .i64 1, .int .i64 4, .int .i64 0, .int .i64 0] 3)).alloc (.cells #[.int .i64 4, .int .i64 2, .int .i64 1] 3)).alloc (.cells #[.int .i64 0, .int .i64 86400, .int .i64 2, .int .i64 2, .int .i64 2, .slice (some ⟨y5.w.heap.size, 0, none⟩) 4 4, .slice none 0 0, .slice none 0 0, .slice none 0 0, .slice (some ⟨y5.w.heap.size + 1, 0, none⟩) 3 3] 36)).heap.size := by simp
  have hst0 : ∃ zz : Since y5.w, (((y5.w.alloc (.cells #[.int .i64 1, .int .i64 4, .int .i64 0, .int .i64 0] 3)).alloc (.cells #[.int .i64 4, .int .i64 2, .int .i64 1] 3)).alloc (.cells #[.int .i64 0, .int .i64 86400, .int .i64 2, .int .i64 2, .int .i64 2, .slice (some ⟨y5.w.heap.size, 0, none⟩) 4 4, .slice none 0 0, .slice none 0 0, .slice none 0 0, .slice (some ⟨y5.w.heap.size + 1, 0, none⟩) 3 3] 36)) = zz.w := IsSince.alloc (IsSince.alloc (IsSince.alloc (IsSince.self _) _) _) _
  have hsz0 := y5.b.size
  obtain ⟨y6, e2⟩ := IsSince.alloc (IsSince.alloc (IsSince.alloc (IsSince.of y5) (.cells #[.int .i64 1, .int .i64 4, .int .i64 0, .int .i64 0] 3)) (.cells #[.int .i64 4, .int .i64 2, .int .i64 1] 3)) (.cells #[.int .i64 0, .int .i64 86400, .int .i64 2, .int .i64 2, .int .i64 2, .slice (some ⟨y5.w.heap.size, 0, none⟩) 4 4, .slice none 0 0, .slice none 0 0, .slice none 0 0, .slice (some ⟨y5.w.heap.size + 1, 0, none⟩) 3 3] 36)
  rw [e2] at hx0_0 hx0_1 hx0_2 hx0_3 hx1_0 hx1_1 hx1_2 hx2_0 hx2_1 hx2_2 hx2_3 hx2_4 hx2_5 hx2_6 hx2_7 hx2_8 hx2_9 hx0_f hx1_f hx2_f hlt0 hst0 ⊢
  skip
  clear e2 hst0
  generalize y5.w.heap.size = gx at *
  have Hhx0_0 : ∀ q : Since y6.w, q.w.cell? ⟨gx, 0, none⟩ = some (.int .i64 1) := fun q => Since.cell hx0_0 (by omega) q
  have Hhx0_1 : ∀ q : Since y6.w, q.w.cell? ⟨gx, 1, none⟩ = some (.int .i64 4) := fun q => Since.cell hx0_1 (by omega) q
  have Hhx0_2 : ∀ q : Since y6.w, q.w.cell? ⟨gx, 2, none⟩ = some (.int .i64 0) := fun q => Since.cell hx0_2 (by omega) q
  have Hhx0_3 : ∀ q : Since y6.w, q.w.cell? ⟨gx, 3, none⟩ = some (.int .i64 0) := fun q => Since.cell hx0_3 (by omega) q
  have Hhx1_0 : ∀ q : Since y6.w, q.w.cell? ⟨gx + 1, 0, none⟩ = some (.int .i64 4) := fun q => Since.cell hx1_0 (by omega) q
  have Hhx1_1 : ∀ q : Since y6.w, q.w.cell? ⟨gx + 1, 1, none⟩ = some (.int .i64 2) := fun q => Since.cell hx1_1 (by omega) q
  have Hhx1_2 : ∀ q : Since y6.w, q.w.cell? ⟨gx + 1, 2, none⟩ = some (.int .i64 1) := fun q => Since.cell hx1_2 (by omega) q
  have Hhx2_0 : ∀ q : Since y6.w, q.w.cell? ⟨gx + 2, 0, none⟩ = some (.int .i64 0) := fun q => Since.cell hx2_0 (by omega) q
  have Hhx2_1 : ∀ q : Since y6.w, q.w.cell? ⟨gx + 2, 1, none⟩ = some (.int .i64 86400) := fun q => Since.cell hx2_1 (by omega) q
  have Hhx2_2 : ∀ q : Since y6.w, q.w.cell? ⟨gx + 2, 2, none⟩ = some (.int .i64 2) := fun q => Since.cell hx2_2 (by omega) q
  have Hhx2_3 : ∀ q : Since y6.w, q.w.cell? ⟨gx + 2, 3, none⟩ = some (.int .i64 2) := fun q => Since.cell hx2_3 (by omega) q
  have Hhx2_4 : ∀ q : Since y6.w, q.w.cell? ⟨gx + 2, 4, none⟩ = some (.int .i64 2) := fun q => Since.cell hx2_4 (by omega) q
  have Hhx2_5 : ∀ q : Since y6.w, q.w.cell? ⟨gx + 2, 5, none⟩ = some (.slice (some ⟨gx, 0, none⟩) 4 4) := fun q => Since.cell hx2_5 (by omega) q
  have Hhx2_6 : ∀ q : Since y6.w, q.w.cell? ⟨gx + 2, 6, none⟩ = some (.slice none 0 0) := fun q => Since.cell hx2_6 (by omega) q
  have Hhx2_7 : ∀ q : Since y6.w, q.w.cell? ⟨gx + 2, 7, none⟩ = some (.slice none 0 0) := fun q => Since.cell hx2_7 (by omega) q
  have Hhx2_8 : ∀ q : Since y6.w, q.w.cell? ⟨gx + 2, 8, none⟩ = some (.slice none 0 0) := fun q => Since.cell hx2_8 (by omega) q
  have Hhx2_9 : ∀ q : Since y6.w, q.w.cell? ⟨gx + 2, 9, none⟩ = some (.slice (some ⟨gx + 1, 0, none⟩) 3 3) := fun q => Since.cell hx2_9 (by omega) q
  have Hhx0_f : ∀ (q : Since y6.w) (o : Nat), q.w.frozen? ⟨gx, o, none⟩ = false := fun q o => Since.free (hx0_f o) (by omega) q
  have Hhx1_f : ∀ (q : Since y6.w) (o : Nat), q.w.frozen? ⟨gx + 1, o, none⟩ = false := fun q o => Since.free (hx1_f o) (by omega) q
  have Hhx2_f : ∀ (q : Since y6.w) (o : Nat), q.w.frozen? ⟨gx + 2, o, none⟩ = false := fun q o => Since.free (hx2_f o) (by omega) q
  have Hhxg := Lib.hid (And.intro hsz0 hlt0)
  clear hlt0 hsz0
  have HX := Lib.hid (And.intro (ints4 (by have := Hhxg.out.2; omega) hx0_0 hx0_1 hx0_2 hx0_3) (ints3 (by have := Hhxg.out.2; omega) hx1_0 hx1_1 hx1_2))
  clear hx0_0 hx0_1 hx0_2 hx0_3 hx1_0 hx1_1 hx1_2 hx2_0 hx2_1 hx2_2 hx2_3 hx2_4 hx2_5 hx2_6 hx2_7 hx2_8 hx2_9 hx0_f hx1_f hx2_f Hhx0_f Hhx1_f Hhx2_f Hhx0_0 Hhx0_1 Hhx0_2 Hhx0_3 Hhx1_0 Hhx1_1 Hhx1_2 Hhxg
  go_upto_region 7 with fail
  have ht0_0 : ((y6.w.alloc (.cells #[.int .i64 0, .int .i64 4, .int .i64 0, .int .i64 0] 3)).alloc (.cells #[.int .i64 2, .int .i64 2, .slice (some ⟨y6.w.heap.size, 0, none⟩) 4 4] 31)).cell? ⟨y6.w.heap.size, 0, none⟩ = some (.int .i64 0) := by simp [go_sem]
  have ht0_1 : ((y6.w.alloc (.cells #[.int .i64 0, .int .i64 4, .int .i64 0, .int .i64 0] 3)).alloc (.cells #[.int .i64 2, .int .i64 2, .slice (some ⟨y6.w.heap.size, 0, none⟩) 4 4] 31)).cell? ⟨y6.w.heap.size, 1, none⟩ = some (.int .i64 4) := by simp [go_sem]
  have ht0_2 : ((y6.w.alloc (.cells #[.int .i64 0, .int .i64 4, .int .i64 0, .int .i64 0] 3)).alloc (.cells #[.int .i64 2, .int .i64 2, .slice (some ⟨y6.w.heap.size, 0, none⟩) 4 4] 31)).cell? ⟨y6.w.heap.size, 2, none⟩ = some (.int .i64 0) := by simp [go_sem]
  have ht0_3 : ((y6.w.alloc (.cells #[.int .i64 0, .int .i64 4, .int .i64 0, .int .i64 0] 3)).alloc (.cells #[.int .i64 2, .int .i64 2, .slice (some ⟨y6.w.heap.size, 0, none⟩) 4 4] 31)).cell? ⟨y6.w.heap.size, 3, none⟩ = some (.int .i64 0) := by simp [go_sem]
  have ht1_0 : ((y6.w.alloc (.cells #[.int .i64 0, .int .i64 4, .int .i64 0, .int .i64 0] 3)).alloc (.cells #[.int .i64 2, .int .i64 2, .slice (some ⟨y6.w.heap.size, 0, none⟩) 4 4] 31)).cell? ⟨y6.w.heap.size + 1, 0, none⟩ = some (.int .i64 2) := by simp [go_sem]
  have ht1_1 : ((y6.w.alloc (.cells #[.int .i64 0, .int .i64 4, .int .i64 0, .int .i64 0] 3)).alloc (.cells #[.int .i64 2, .int .i64 2, .slice (some ⟨y6.w.heap.size, 0, none⟩) 4 4] 31)).cell? ⟨y6.w.heap.size + 1, 1, none⟩ = some (.int .i64 2) := by simp [go_sem]
  have ht1_2 : ((y6.w.alloc (.cells #[.int .i64 0, .int .i64 4, .int .i64 0, .int .i64 0] 3)).alloc (.cells #[.int .i64 2, .int .i64 2, .slice (some ⟨y6.w.heap.size, 0, none⟩) 4 4] 31)).cell? ⟨y6.w.heap.size + 1, 2, none⟩ = some (.slice (some ⟨y6.w.heap.size, 0, none⟩) 4 4) := by simp [go_sem]
  have ht0_f : ∀ o, ((y6.w.alloc (.cells #[.int .i64 0, .int .i64 4, .int .i64 0, .int .i64 0] 3)).alloc (.cells #[.int .i64 2, .int .i64 2, .slice (some ⟨y6.w.heap.size, 0, none⟩) 4 4] 31)).frozen? ⟨y6.w.heap.size, o, none⟩ = false := fun o => by simp [go_sem]
  have ht1_f : ∀ o, ((y6.w.alloc (.cells #[.int .i64 0, .int .i64 4, .int .i64 0, .int .i64 0] 3)).alloc (.cells #[.int .i64 2, .int .i64 2, .slice (some ⟨y6.w.heap.size, 0, none⟩) 4 4] 31)).frozen? ⟨y6.w.heap.size + 1, o, none⟩ = false := fun o => by simp [go_sem]
  have hlt0 : y6.w.heap.size + 1 < ((y6.w.alloc (.cells #[.int .i64 0, .int .i64 4, .int .i64 0, .int .i64 0] 3)).alloc (.cells #[.int .i64 2, .int .i64 2, .slice (some ⟨y6.w.heap.size, 0, none⟩) 4 4] 31)).heap.size := by simp
  have hst0 : ∃ zz : Since y6.w, ((y6.w.alloc (.cells #[.int .i64 0, .int .i64 4, .int .i64 0, .int .i64 0] 3)).alloc (.cells #[.int .i64 2, .int .i64 2, .slice (some ⟨y6.w.heap.size, 0, none⟩) 4 4] 31)) = zz.w := IsSince.alloc (IsSince.alloc (IsSince.self _) _) _
  have hsz0 := y6.b.size
  obtain ⟨y7, e2⟩ := IsSince.alloc (IsSince.alloc (IsSince.of y6) (.cells #[.int .i64 0, .int .i64 4, .int .i64 0, .int .i64 0] 3)) (.cells #[.int .i64 2, .int .i64 2, .slice (some ⟨y6.w.heap.size, 0, none⟩) 4 4] 31)
  rw [e2] at ht0_0 ht0_1 ht0_2 ht0_3 ht1_0 ht1_1 ht1_2 ht0_f ht1_f hlt0 hst0 ⊢
  (replace HX := Lib.hid (And.intro (HX.out.1.to hst0) (HX.out.2.to hst0)); replace Hhx2_0 := Since.cellTo hst0 Hhx2_0; replace Hhx2_1 := Since.cellTo hst0 Hhx2_1; replace Hhx2_2 := Since.cellTo hst0 Hhx2_2; replace Hhx2_3 := Since.cellTo hst0 Hhx2_3; replace Hhx2_4 := Since.cellTo hst0 Hhx2_4; replace Hhx2_5 := Since.cellTo hst0 Hhx2_5; replace Hhx2_6 := Since.cellTo hst0 Hhx2_6; replace Hhx2_7 := Since.cellTo hst0 Hhx2_7; replace Hhx2_8 := Since.cellTo hst0 Hhx2_8; replace Hhx2_9 := Since.cellTo hst0 Hhx2_9)
  clear e2 hst0
  generalize y6.w.heap.size = gt at *
  have Hht0_0 : ∀ q : Since y7.w, q.w.cell? ⟨gt, 0, none⟩ = some (.int .i64 0) := fun q => Since.cell ht0_0 (by omega) q
  have Hht0_1 : ∀ q : Since y7.w, q.w.cell? ⟨gt, 1, none⟩ = some (.int .i64 4) := fun q => Since.cell ht0_1 (by omega) q
  have Hht0_2 : ∀ q : Since y7.w, q.w.cell? ⟨gt, 2, none⟩ = some (.int .i64 0) := fun q => Since.cell ht0_2 (by omega) q
  have Hht0_3 : ∀ q : Since y7.w, q.w.cell? ⟨gt, 3, none⟩ = some (.int .i64 0) := fun q => Since.cell ht0_3 (by omega) q
  have Hht1_0 : ∀ q : Since y7.w, q.w.cell? ⟨gt + 1, 0, none⟩ = some (.int .i64 2) := fun q => Since.cell ht1_0 (by omega) q
  have Hht1_1 : ∀ q : Since y7.w, q.w.cell? ⟨gt + 1, 1, none⟩ = some (.int .i64 2) := fun q => Since.cell ht1_1 (by omega) q
  have Hht1_2 : ∀ q : Since y7.w, q.w.cell? ⟨gt + 1, 2, none⟩ = some (.slice (some ⟨gt, 0, none⟩) 4 4) := fun q => Since.cell ht1_2 (by omega) q
  have Hht0_f : ∀ (q : Since y7.w) (o : Nat), q.w.frozen? ⟨gt, o, none⟩ = false := fun q o => Since.free (ht0_f o) (by omega) q
  have Hht1_f : ∀ (q : Since y7.w) (o : Nat), q.w.frozen? ⟨gt + 1, o, none⟩ = false := fun q o => Since.free (ht1_f o) (by omega) q
  have Hhtg := Lib.hid (And.intro hsz0 hlt0)
  clear hlt0 hsz0
  have HT := Lib.hid (ints4 (by have := Hhtg.out.2; omega) ht0_0 ht0_1 ht0_2 ht0_3)
  clear ht0_0 ht0_1 ht0_2 ht0_3 ht1_0 ht1_1 ht1_2 ht0_f ht1_f Hht0_f Hht1_f Hht0_0 Hht0_1 Hht0_2 Hht0_3 Hhtg
  go_upto_region 8 with fail
  have hu0_0 : ((y7.w.alloc (.cells #[.int .i64 0, .int .i64 5, .int .i64 0, .int .i64 0] 3)).alloc (.cells #[.int .i64 2, .int .i64 2, .slice (some ⟨y7.w.heap.size, 0, none⟩) 4 4] 31)).cell? ⟨y7.w.heap.size, 0, none⟩ = some (.int .i64 0) := by simp [go_sem]
  have hu0_1 : ((y7.w.alloc (.cells #[.int .i64 0, .int .i64 5, .int .i64 0, .int .i64 0] 3)).alloc (.cells #[.int .i64 2, .int .i64 2, .slice (some ⟨y7.w.heap.size, 0, none⟩) 4 4] 31)).cell? ⟨y7.w.heap.size, 1, none⟩ = some (.int .i64 5) := by simp [go_sem]
  have hu0_2 : ((y7.w.alloc (.cells #[.int .i64 0, .int .i64 5, .int .i64 0, .int .i64 0] 3)).alloc (.cells #[.int .i64 2, .int .i64 2, .slice (some ⟨y7.w.heap.size, 0, none⟩) 4 4] 31)).cell? ⟨y7.w.heap.size, 2, none⟩ = some (.int .i64 0) := by simp [go_sem]
  have hu0_3 : ((y7.w.alloc (.cells #[.int .i64 0, .int .i64 5, .int .i64 0, .int .i64 0] 3)).alloc (.cells #[.int .i64 2, .int .i64 2, .slice (some ⟨y7.w.heap.size, 0, none⟩) 4 4] 31)).cell? ⟨y7.w.heap.size, 3, none⟩ = some (.int .i64 0) := by simp [go_sem]
  have hu1_0 : ((y7.w.alloc (.cells #[.int .i64 0, .int .i64 5, .int .i64 0, .int .i64 0] 3)).alloc (.cells #[.int .i64 2, .int .i64 2, .slice (some ⟨y7.w.heap.size, 0, none⟩) 4 4] 31)).cell? ⟨y7.w.heap.size + 1, 0, none⟩ = some (.int .i64 2) := by simp [go_sem]
  have hu1_1 : ((y7.w.alloc (.cells #[.int .i64 0, .int .i64 5, .int .i64 0, .int .i64 0] 3)).alloc (.cells #[.int .i64 2, .int .i64 2, .slice (some ⟨y7.w.heap.size, 0, none⟩) 4 4] 31)).cell? ⟨y7.w.heap.size + 1, 1, none⟩ = some (.int .i64 2) := by simp [go_sem]
  have hu1_2 : ((y7.w.alloc (.cells #[.int .i64 0, .int .i64 5, .int .i64 0, .int .i64 0] 3)).alloc (.cells #[.int .i64 2, .int .i64 2, .slice (some ⟨y7.w.heap.size, 0, none⟩) 4 4] 31)).cell? ⟨y7.w.heap.size + 1, 2, none⟩ = some (.slice (some ⟨y7.w.heap.size, 0, none⟩) 4 4) := by simp [go_sem]
  have hu0_f : ∀ o, ((y7.w.alloc (.cells #[.int .i64 0, .int .i64 5, .int .i64 0, .int .i64 0] 3)).alloc (.cells #[.int .i64 2, .int .i64 2, .slice (some ⟨y7.w.heap.size, 0, none⟩) 4 4] 31)).frozen? ⟨y7.w.heap.size, o, none⟩ = false := fun o => by simp [go_sem]
  have hu1_f : ∀ o, ((y7.w.alloc (.cells #[.int .i64 0, .int .i64 5, .int .i64 0, .int .i64 0] 3)).alloc (.cells #[.int .i64 2, .int .i64 2, .slice (some ⟨y7.w.heap.size, 0, none⟩) 4 4] 31)).frozen? ⟨y7.w.heap.size + 1, o, none⟩ = false := fun o => by simp [go_sem]
  have hlt0 : y7.w.heap.size + 1 < ((y7.w.alloc (.cells #[.int .i64 0, .int .i64 5, .int .i64 0, .int .i64 0] 3)).alloc (.cells #[.int .i64 2, .int .i64 2, .slice (some ⟨y7.w.heap.size, 0, none⟩) 4 4] 31)).heap.size := by simp
  have hst0 : ∃ zz : Since y7.w, ((y7.w.alloc (.cells #[.int .i64 0, .int .i64 5, .int .i64 0, .int .i64 0] 3)).alloc (.cells #[.int .i64 2, .int .i64 2, .slice (some ⟨y7.w.heap.size, 0, none⟩) 4 4] 31)) = zz.w := IsSince.alloc (IsSince.alloc (IsSince.self _) _) _
  have hsz0 := y7.b.size
  obtain ⟨y8, e2⟩ := IsSince.alloc (IsSince.alloc (IsSince.of y7) (.cells #[.int .i64 0, .int .i64 5, .int .i64 0, .int .i64 0] 3)) (.cells #[.int .i64 2, .int .i64 2, .slice (some ⟨y7.w.heap.size, 0, none⟩) 4 4] 31)
  rw [e2] at hu0_0 hu0_1 hu0_2 hu0_3 hu1_0 hu1_1 hu1_2 hu0_f hu1_f hlt0 hst0 ⊢
  (replace HX := Lib.hid (And.intro (HX.out.1.to hst0) (HX.out.2.to hst0)); replace HT := Lib.hid (HT.out.to hst0); replace Hhx2_0 := Since.cellTo hst0 Hhx2_0; replace Hhx2_1 := Since.cellTo hst0 Hhx2_1; replace Hhx2_2 := Since.cellTo hst0 Hhx2_2; replace Hhx2_3 := Since.cellTo hst0 Hhx2_3; replace Hhx2_4 := Since.cellTo hst0 Hhx2_4; replace Hhx2_5 := Since.cellTo hst0 Hhx2_5; replace Hhx2_6 := Since.cellTo hst0 Hhx2_6; replace Hhx2_7 := Since.cellTo hst0 Hhx2_7; replace Hhx2_8 := Since.cellTo hst0 Hhx2_8; replace Hhx2_9 := Since.cellTo hst0 Hhx2_9; replace Hht1_0 := Since.cellTo hst0 Hht1_0; replace Hht1_1 := Since.cellTo hst0 Hht1_1; replace Hht1_2 := Since.cellTo hst0 Hht1_2)
  clear e2 hst0
  generalize y7.w.heap.size = gu at *
  have Hhu0_0 : ∀ q : Since y8.w, q.w.cell? ⟨gu, 0, none⟩ = some (.int .i64 0) := fun q => Since.cell hu0_0 (by omega) q
  have Hhu0_1 : ∀ q : Since y8.w, q.w.cell? ⟨gu, 1, none⟩ = some (.int .i64 5) := fun q => Since.cell hu0_1 (by omega) q
  have Hhu0_2 : ∀ q : Since y8.w, q.w.cell? ⟨gu, 2, none⟩ = some (.int .i64 0) := fun q => Since.cell hu0_2 (by omega) q
  have Hhu0_3 : ∀ q : Since y8.w, q.w.cell? ⟨gu, 3, none⟩ = some (.int .i64 0) := fun q => Since.cell hu0_3 (by omega) q
  have Hhu1_0 : ∀ q : Since y8.w, q.w.cell? ⟨gu + 1, 0, none⟩ = some (.int .i64 2) := fun q => Since.cell hu1_0 (by omega) q
  have Hhu1_1 : ∀ q : Since y8.w, q.w.cell? ⟨gu + 1, 1, none⟩ = some (.int .i64 2) := fun q => Since.cell hu1_1 (by omega) q
  have Hhu1_2 : ∀ q : Since y8.w, q.w.cell? ⟨gu + 1, 2, none⟩ = some (.slice (some ⟨gu, 0, none⟩) 4 4) := fun q => Since.cell hu1_2 (by omega) q
  have Hhu0_f : ∀ (q : Since y8.w) (o : Nat), q.w.frozen? ⟨gu, o, none⟩ = false := fun q o => Since.free (hu0_f o) (by omega) q
  have Hhu1_f : ∀ (q : Since y8.w) (o : Nat), q.w.frozen? ⟨gu + 1, o, none⟩ = false := fun q o => Since.free (hu1_f o) (by omega) q
  have Hhug := Lib.hid (And.intro hsz0 hlt0)
  clear hlt0 hsz0
  have HU := Lib.hid (ints4 (by have := Hhug.out.2; omega) hu0_0 hu0_1 hu0_2 hu0_3)
  clear hu0_0 hu0_1 hu0_2 hu0_3 hu1_0 hu1_1 hu1_2 hu0_f hu1_f Hhu0_f Hhu1_f Hhu0_0 Hhu0_1 Hhu0_2 Hhu0_3 Hhug
  have HX8 := Lib.hid (show IntRow y8.w (some ⟨gx, 0, none⟩) eXx.l ∧ IntRow y8.w (some ⟨gx + 1, 0, none⟩) exN from HX.out)
  have HT8 := Lib.hid (show IntRow y8.w (some ⟨gt, 0, none⟩) eTt.l from HT.out)
  have HU8 := Lib.hid (show IntRow y8.w (some ⟨gu, 0, none⟩) eUu.l from HU.out)
  clear HX HT HU
  replace Hhw0 := Since.cellTo ⟨y8, rfl⟩ Hhw0
  replace Hhw1 := Since.cellTo ⟨y8, rfl⟩ Hhw1
  have HA8 := Lib.hid (HA.out.since y8); have HAr8 := Lib.hid (RelRows.to HAr.out ⟨y8, rfl⟩)
  have HB8 := Lib.hid (HB.out.since y8); have HBr8 := Lib.hid (Since.row HBr.out.b y8)
  have Hsg8 := Lib.hid (Signs.to Hsg4.out ⟨y8, rfl⟩)
  have HUp8 := Lib.hid (fun q : Since y8.w => show ∃ z : Since w, q.w = z.w from by obtain ⟨z0, e0⟩ := y8.trans q; obtain ⟨z, e⟩ := HUp.out z0; exact ⟨z, e0.trans e⟩)
  clear HA HAr HB HBr Hsg4 HUp
  obtain ⟨y9, hy9⟩ := Since.refl y8.w
  rw [hy9]
  clear hy9
  have HC := Lib.hid (show Calls Tryd.prog 16 #[.agg #[.int .i64 0, .int .i64 86400, .int .i64 2, .int .i64 2, .int .i64 2, .slice (some ⟨gx, 0, none⟩) 4 4, .slice none 0 0, .slice none 0 0, .slice none 0 0, .slice (some ⟨gx + 1, 0, none⟩) 3 3], .agg #[.int .i64 2, .int .i64 2, .slice (some ⟨gt, 0, none⟩) 4 4]] y9.w (ChRes y8.w (chV eXx eTt exN) (chE eXx eTt exN)) from chances_calls y8.w y9 Hsg8.out 0 86400 2 eXx eTt exN _ none none none _ _ 4 0 0 0 0 0 0 3 4 HX8.out.1 HX8.out.2 HT8.out (by decide) (by decide) (by decide))
  rw [ex_chE.1, ex_chV] at HC
  go_upto_region 9 with (go_at_call 16; ((with_reducible refine HC.out.mono ?_); rintro _ _ ⟨ac, cc, y10, rfl, rfl, hc⟩))
  have HI := Lib.hid (show Calls Tryd.prog 18 #[.slice ac 4 cc, .slice (some ⟨y10.w.heap.size, 0, none⟩) 4 4] (y10.w.alloc (.cells #[.int .i64 2, .int .i64 4, .int .i64 4, .int .i64 4] 3)) (fun o w' => o = .returned (.bool true) ∧ ∃ y : Since y8.w, w' = y.w) from by
    obtain ⟨q, hq⟩ := y10.alloc (.cells #[.int .i64 2, .int .i64 4, .int .i64 4, .int .i64 4] 3)
    have h1 := hc.to (IsSince.alloc (IsSince.self _) (.cells #[.int .i64 2, .int .i64 4, .int .i64 4, .int .i64 4] 3))
    have h2 : IntRow (y10.w.alloc (.cells #[.int .i64 2, .int .i64 4, .int .i64 4, .int .i64 4] 3)) (some ⟨y10.w.heap.size, 0, none⟩) [2, 4, 4, 4] := ints_new y10.w [2, 4, 4, 4] 3
    rw [hq] at h1 h2 ⊢
    refine (rints_calls q.w (Since.self _) ac _ [2, 4, 4, 4] [2, 4, 4, 4] cc 4 (by decide) (by decide) h1 h2).mono ?_
    rintro _ _ ⟨rfl, z, rfl⟩
    obtain ⟨z2, e2⟩ := q.trans z
    exact ⟨by rw [decide_eq_true rfl], z2, e2⟩)
  clear hc HC
  go_upto_region 11 with (go_at_call 18; ((with_reducible refine HI.out.mono ?_); rintro _ _ ⟨rfl, y11, rfl⟩))
  clear HI
  have HS := Lib.hid (show ∀ (u : World) (gb g1 g2 : Nat), IsSince y11.w u → BoxIs u gb [.bool false, .bool false, .bool false, .bool false] → BoxIs u g1 [.int .i64 4, .int .i64 0] → BoxIs u g2 [.int .i64 0, .int .i64 4] → Calls Tryd.prog 14 #[.agg #[.int .i64 0, .int .i64 86400, .int .i64 2, .int .i64 2, .int .i64 2, .slice a1p 4 c1p, .slice a2p 4 c2p, .slice a3p 2 c3p, .slice a4p 2 c4p, .slice a5p 0 c5p], .agg #[.int .i64 0, .int .i64 86400, .int .i64 2, .int .i64 2, .int .i64 2, .slice (some ⟨gt, 0, none⟩) 4 4, .slice (some ⟨gb, 0, none⟩) 4 4, .slice (some ⟨g1, 0, none⟩) 2 2, .slice (some ⟨g2, 0, none⟩) 2 2, .slice none 0 0]] u (fun o w' => o = .returned (.bool true) ∧ ∃ y : Since y11.w, w' = y.w) from fun u gb g1 g2 hu h1 h2 h3 => by
    obtain ⟨q, rfl⟩ := hu
    have hr := (HAr8.out.to ⟨y11, rfl⟩).to ⟨q, rfl⟩
    have ht := (HT8.out.to ⟨y11, rfl⟩).to ⟨q, rfl⟩
    refine (rsame_calls q.w (Since.self _) exA exA a1p a2p a3p a4p a5p _ _ _ _ none c1p c2p c3p c4p c5p 4 4 2 2 0 hr.a hr.b hr.c hr.d hr.e (by unfold RelLen exA; simp) ht (BoxIs.bools (F := [false, false, false, false]) h1) (BoxIs.ints (F := [4, 0]) h2) (BoxIs.ints (F := [0, 4]) h3) (row_nil' _) (by unfold RelLen exA; simp)).mono ?_
    rintro _ _ ⟨rfl, z, rfl⟩
    obtain ⟨z2, e2⟩ := q.trans z
    exact ⟨by rw [show sameR exA exA = true from same_yes ⟨rfl, rfl, rfl, rfl, rfl⟩ rfl rfl rfl rfl rfl], z2, e2⟩)
  have hmk : ∀ q : World, (Instr.makeSlice 32 (.int .i64 4) (.int .i64 4)).run Tryd.prog q = .ok (.slice (some ⟨q.heap.size, 0, none⟩) 4 4) (q.alloc (.cells #[.bool false, .bool false, .bool false, .bool false] 4)) := fun q => make1_run sBoolF rfl 4 (by omega) (by omega) q
  obtain ⟨bh, oh, ha2q, hbl, hch0⟩ := HBr8.out 0 (by decide)
  obtain ⟨bh', oh', ha2q', hbl', hch1⟩ := HBr8.out 1 (by decide)
  obtain ⟨rfl, rfl⟩ : bh' = bh ∧ oh' = oh := by rw [ha2q] at ha2q'; simp at ha2q'; exact ⟨ha2q'.1.symm, ha2q'.2.symm⟩
  subst ha2q
  clear ha2q' hbl'
  have h0 : ∀ q : Since y8.w, q.w.cell? ⟨bh', oh', none⟩ = some (.bool false) := fun q => Since.cell (show y8.w.cell? ⟨bh', oh' + 0, none⟩ = some (.bool false) from hch0) hbl q
  have h1 : ∀ q : Since y8.w, q.w.cell? ⟨bh', oh' + 1, none⟩ = some (.bool true) := fun q => Since.cell (show y8.w.cell? ⟨bh', oh' + 1, none⟩ = some (.bool true) from hch1) hbl q
  clear hch0 hch1 hbl
  have j0 := fun w' (h : IsSince y11.w w') => IsSince.cell (Since.cellTo ⟨y11, rfl⟩ h0) h
  have j1 := fun w' (h : IsSince y11.w w') => IsSince.cell (Since.cellTo ⟨y11, rfl⟩ h1) h
  have w0 := fun w' (h : IsSince y11.w w') => IsSince.cell (Since.cellTo ⟨y11, rfl⟩ Hhw0) h
  have w1 := fun w' (h : IsSince y11.w w') => IsSince.cell (Since.cellTo ⟨y11, rfl⟩ Hhw1) h
  have t0 := fun w' (h : IsSince y11.w w') => IsSince.cell (Since.cellTo ⟨y11, rfl⟩ Hht1_0) h
  have t1 := fun w' (h : IsSince y11.w w') => IsSince.cell (Since.cellTo ⟨y11, rfl⟩ Hht1_1) h
  have t2 := fun w' (h : IsSince y11.w w') => IsSince.cell (Since.cellTo ⟨y11, rfl⟩ Hht1_2) h
  have e0 := fun w' (h : IsSince y11.w w') => IsSince.cell (fun q : Since y11.w => ((HA8.out.since y11).since q).c 0 _ rfl) h
  have e1 := fun w' (h : IsSince y11.w w') => IsSince.cell (fun q : Since y11.w => ((HA8.out.since y11).since q).c 1 _ rfl) h
  have e2 := fun w' (h : IsSince y11.w w') => IsSince.cell (fun q : Since y11.w => ((HA8.out.since y11).since q).c 2 _ rfl) h
  have e3 := fun w' (h : IsSince y11.w w') => IsSince.cell (fun q : Since y11.w => ((HA8.out.since y11).since q).c 3 _ rfl) h
  have e4 := fun w' (h : IsSince y11.w w') => IsSince.cell (fun q : Since y11.w => ((HA8.out.since y11).since q).c 4 _ rfl) h
  have e5 := fun w' (h : IsSince y11.w w') => IsSince.cell (fun q : Since y11.w => ((HA8.out.since y11).since q).c 5 _ rfl) h
  have e6 := fun w' (h : IsSince y11.w w') => IsSince.cell (fun q : Since y11.w => ((HA8.out.since y11).since q).c 6 _ rfl) h
  have e7 := fun w' (h : IsSince y11.w w') => IsSince.cell (fun q : Since y11.w => ((HA8.out.since y11).since q).c 7 _ rfl) h
  have e8 := fun w' (h : IsSince y11.w w') => IsSince.cell (fun q : Since y11.w => ((HA8.out.since y11).since q).c 8 _ rfl) h
  have e9 := fun w' (h : IsSince y11.w w') => IsSince.cell (fun q : Since y11.w => ((HA8.out.since y11).since q).c 9 _ rfl) h
  have b6 := fun w' (h : IsSince y11.w w') => IsSince.cell (fun q : Since y11.w => ((HB8.out.since y11).since q).c 6 _ rfl) h
  clear h0 h1
  go_cut [98] (fun s98 wr => ∃ z : Since y11.w, s98 = .bool false ∧ wr = z.w)
  case first =>
    go_region_held3 (fun w' => IsSince y11.w w') (with_reducible first | assumption | exact IsSince.drew' (IsSince.self _) | exact IsSince.of _ | exact IsSince.drew' (IsSince.alloc (IsSince.self _) _) | exact IsSince.drew' (IsSince.alloc (IsSince.alloc (IsSince.self _) _) _) | exact IsSince.drew' (IsSince.alloc (IsSince.alloc (IsSince.alloc (IsSince.self _) _) _) _) | exact IsSince.alloc (by assumption) _) (first | (go_at_call 14; (first | (with_reducible refine (HS.out _ _ _ _ (by assumption) (tbd1 y11.w [.bool false, .bool false, .bool false, .bool false] [.int .i64 4, .int .i64 0] [.int .i64 0, .int .i64 4] 4 3 3) (tbd2 y11.w [.bool false, .bool false, .bool false, .bool false] [.int .i64 4, .int .i64 0] [.int .i64 0, .int .i64 4] 4 3 3) (tbd3 y11.w [.bool false, .bool false, .bool false, .bool false] [.int .i64 4, .int .i64 0] [.int .i64 0, .int .i64 4] 4 3 3)).mono ?_) | (with_reducible refine (HS.out _ _ _ _ (by assumption) (tbd1 y11.w [.bool false, .bool false, .bool false, .bool false] [.int .i64 0, .int .i64 4] [.int .i64 4, .int .i64 0] 4 3 3) (tbd3 y11.w [.bool false, .bool false, .bool false, .bool false] [.int .i64 0, .int .i64 4] [.int .i64 4, .int .i64 0] 4 3 3) (tbd2 y11.w [.bool false, .bool false, .bool false, .bool false] [.int .i64 0, .int .i64 4] [.int .i64 4, .int .i64 0] 4 3 3)).mono ?_) | (with_reducible refine (HS.out _ _ _ _ (by assumption) (tbd2 y11.w [.int .i64 4, .int .i64 0] [.bool false, .bool false, .bool false, .bool false] [.int .i64 0, .int .i64 4] 3 4 3) (tbd1 y11.w [.int .i64 4, .int .i64 0] [.bool false, .bool false, .bool false, .bool false] [.int .i64 0, .int .i64 4] 3 4 3) (tbd3 y11.w [.int .i64 4, .int .i64 0] [.bool false, .bool false, .bool false, .bool false] [.int .i64 0, .int .i64 4] 3 4 3)).mono ?_) | (with_reducible refine (HS.out _ _ _ _ (by assumption) (tbd3 y11.w [.int .i64 4, .int .i64 0] [.int .i64 0, .int .i64 4] [.bool false, .bool false, .bool false, .bool false] 3 3 4) (tbd1 y11.w [.int .i64 4, .int .i64 0] [.int .i64 0, .int .i64 4] [.bool false, .bool false, .bool false, .bool false] 3 3 4) (tbd2 y11.w [.int .i64 4, .int .i64 0] [.int .i64 0, .int .i64 4] [.bool false, .bool false, .bool false, .bool false] 3 3 4)).mono ?_) | (with_reducible refine (HS.out _ _ _ _ (by assumption) (tbd2 y11.w [.int .i64 0, .int .i64 4] [.bool false, .bool false, .bool false, .bool false] [.int .i64 4, .int .i64 0] 3 4 3) (tbd3 y11.w [.int .i64 0, .int .i64 4] [.bool false, .bool false, .bool false, .bool false] [.int .i64 4, .int .i64 0] 3 4 3) (tbd1 y11.w [.int .i64 0, .int .i64 4] [.bool false, .bool false, .bool false, .bool false] [.int .i64 4, .int .i64 0] 3 4 3)).mono ?_) | (with_reducible refine (HS.out _ _ _ _ (by assumption) (tbd3 y11.w [.int .i64 0, .int .i64 4] [.int .i64 4, .int .i64 0] [.bool false, .bool false, .bool false, .bool false] 3 3 4) (tbd2 y11.w [.int .i64 0, .int .i64 4] [.int .i64 4, .int .i64 0] [.bool false, .bool false, .bool false, .bool false] 3 3 4) (tbd1 y11.w [.int .i64 0, .int .i64 4] [.int .i64 4, .int .i64 0] [.bool false, .bool false, .bool false, .bool false] 3 3 4)).mono ?_)); rintro _ _ ⟨rfl, z9, rfl⟩))
    all_goals (go_wp2_with fail)
    all_goals go_meet
    all_goals exact ⟨z9, rfl, rfl⟩
  case rest =>
  obtain ⟨y12, rfl, rfl⟩ := hcut
  obtain ⟨y13, e13⟩ := y11.trans y12
  rw [e13]
  clear e13 j0 j1 w0 w1 t0 t1 t2 e0 e1 e2 e3 e4 e5 e6 e7 e8 e9 b6 HS hmk HA8 HB8 HAr8 HBr8
  have HL1 := Lib.hid (fun z : Since y8.w => show Calls Tryd.prog 19 #[.agg #[.int .i64 0, .int .i64 86400, .int .i64 2, .int .i64 2, .int .i64 2, .slice (some ⟨gx, 0, none⟩) 4 4, .slice none 0 0, .slice none 0 0, .slice none 0 0, .slice (some ⟨gx + 1, 0, none⟩) 3 3], .agg #[.int .i64 2, .int .i64 2, .slice (some ⟨gt, 0, none⟩) 4 4], .agg #[.int .i64 2, .int .i64 2, .slice (some ⟨gu, 0, none⟩) 4 4], .agg #[.int .i64 2, .int .i64 1]] z.w (fun o w' => o = .returned (.bool true) ∧ ∃ y : Since y8.w, w' = y.w) from ex_al2 ▸ alike_calls y8.w z Hsg8.out 0 86400 2 eXx eTt eUu exN 2 1 _ none none none _ _ _ 4 0 0 0 0 0 0 3 4 4 HX8.out.1 HX8.out.2 HT8.out HU8.out (by decide) (by decide) (by decide) (by decide))
  have HL2 := Lib.hid (fun z : Since y8.w => show Calls Tryd.prog 19 #[.agg #[.int .i64 0, .int .i64 86400, .int .i64 2, .int .i64 2, .int .i64 2, .slice (some ⟨gx, 0, none⟩) 4 4, .slice none 0 0, .slice none 0 0, .slice none 0 0, .slice (some ⟨gx + 1, 0, none⟩) 3 3], .agg #[.int .i64 2, .int .i64 2, .slice (some ⟨gt, 0, none⟩) 4 4], .agg #[.int .i64 2, .int .i64 2, .slice (some ⟨gu, 0, none⟩) 4 4], .agg #[.int .i64 3, .int .i64 2]] z.w (fun o w' => o = .returned (.bool false) ∧ ∃ y : Since y8.w, w' = y.w) from ex_al3 ▸ alike_calls y8.w z Hsg8.out 0 86400 2 eXx eTt eUu exN 3 2 _ none none none _ _ _ 4 0 0 0 0 0 0 3 4 4 HX8.out.1 HX8.out.2 HT8.out HU8.out (by decide) (by decide) (by decide) (by decide))
  go_wp2_with (go_at_call 19; (first | ((with_reducible refine (HL1.out _).mono ?_); rintro _ _ ⟨rfl, z, rfl⟩) | ((with_reducible refine (HL2.out _).mono ?_); rintro _ _ ⟨rfl, z, rfl⟩)))
  go_ret
  exact ⟨rfl, HUp8.out (by assumption)⟩
end Go.Proofs.YtdkcclngionihaaDoor
