/- The walks of replicas, tenth part: Merge. -/
import Derived.Test.YtcpfogbjbinjcaaGsW9
import Derived.Test.YtcpfogbjbinjcaaGsR8
set_option linter.all false
namespace Go.Proofs.Ytcpfogbjbinjcaa
open Go.RowKit Go.ChangeMaps

/-- what Merge does -/
def MergePost (w : World) (p bm : Nat) (n : Int) (l : List Ev) (f : Int) (o : Ending) (w' : World) : Prop :=
  o = .returned (.int .i64 f) ∧ w.grownBy w' (some bm) ∧ RepAt w' p bm n l
set_option maxRecDepth 100000 in
set_option maxHeartbeats 4000000 in
theorem merge_calls (w : World) (x : Since w) (p bm p2 bm2 : Nat) (n : Int) (l m : List Ev) (hR : RepAt w p bm n l) (hR2 : RepAt w p2 bm2 n m) (hI : Inv n m) :
    Calls Try.prog 28 #[.pointer (some ⟨p, 0, none⟩), .pointer (some ⟨p2, 0, none⟩)] x.w (MergePost w p bm n (addAll n l (sortE m)) (mergeE n l (sortE m))) := by
  have hc0 : ∀ y : Since w, y.w.cell? ⟨p, 0, none⟩ = some (.int .i64 n) := fun y => (hR.since y).c0
  have hc2 : ∀ y : Since w, y.w.cell? ⟨p2, 0, none⟩ = some (.int .i64 n) := fun y => (hR2.since y).c0
  have hne : (n != n) = false := by simp
  have hlen : (sortE m).length ≤ 512 := by rw [sortE_length]; exact hI.len
  have hec := Lib.hid (fun y => events_calls w y p2 bm2 n m hR2 hI)
  have HR := Lib.hid hR
  clear hR hR2 hI
  go_enter Try.func28, Try.ntmps28
  go_wp2_with fail
  refine wp_region_since (by kernel_rfl) (by kernel_rfl) ?_
  repeat (go_big_quiet_step (fail))
  refine wpQuiet_nil ?_
  rintro _ ⟨y0, rfl⟩
  go_wp2_with fail
  refine (hec.out _).mono ?_
  rintro _ w2 ⟨a2, cap2, y1, rfl, rfl, hcap, hels, -, -⟩
  generalize sortE m = ms at *
  have Hels := Lib.hid hels
  have HR1 := Lib.hid (HR.out.since y1)
  clear hels hcap hec hc0 hc2 hne
  go_wp2_with fail
  go_loopw [5, 30] (fun v i wr => ∃ k : Nat, k ≤ ms.length ∧ i = .int .i64 k ∧ v = .int .i64 (mergeE n l (ms.take k)) ∧ y1.w.grownBy wr (some bm) ∧ RepAt wr p bm n (addAll n l (ms.take k)) ∧ EvRow wr a2 ms) (fun _ i _ => ms.length - (intOf i).toNat)
  case atStart => exact ⟨0, by omega, rfl, rfl, (World.grownBy.refl _ _), HR1.out, Hels.out⟩
  case round =>
    obtain ⟨k, hk, rfl, rfl, hgr, hRk, hels⟩ := hrel
    have Hgr := Lib.hid hgr; have HRk := Lib.hid hRk; have Hels2 := Lib.hid hels
    clear hgr hRk hels
    by_cases hlt : k < ms.length
    · obtain ⟨e, he⟩ : ∃ e, ms[k]? = some e := ⟨_, List.getElem?_eq_getElem hlt⟩
      obtain ⟨b1, off1, rfl, h1⟩ := Els.ev Hels2.out he
      have p0 := h1.c0
      have p1 := h1.c1
      have p2 := h1.c2
      have p3 := h1.c3
      have p4 := h1.c4
      have p5 := h1.c5
      have p6 := h1.c6
      have p7 := h1.c7
      have p8 := h1.c8
      have hk0 : (0 : Int) ≤ (k : Int) := by omega
      have hkl : (k : Int) < (ms.length : Int) := by omega
      have He := Lib.hid he
      obtain ⟨hm1, hm2⟩ := mergeE_take (N := n) ms l k e he
      obtain ⟨q, hq⟩ := Since.refl wr
      have HRq := Lib.hid (HRk.out.since q)
      have Helq := Lib.hid (Since.els Hels2.out q)
      have Hgrq := Lib.hid (Hgr.out.trans ((Since.grownBy q).but (some bm)))
      have Hm1 := Lib.hid hm1
      have Hm2 := Lib.hid hm2
      clear h1 he hm1 hm2
      rw [hq]
      clear hq
      go_upto_region 9 with fail
      have hx0 : (q.w.alloc (.cells #[.int .i64 e.d, .int .i64 e.q, .int .i64 e.a, .int .i64 e.t, .int .i64 e.k, .int .i64 e.b, .int .i64 e.p, .int .i64 e.r, .int .i64 e.i] 33)).cell? ⟨q.w.heap.size, 0, none⟩ = some (.int .i64 e.d) := by simp [go_sem]
      have hx1 : (q.w.alloc (.cells #[.int .i64 e.d, .int .i64 e.q, .int .i64 e.a, .int .i64 e.t, .int .i64 e.k, .int .i64 e.b, .int .i64 e.p, .int .i64 e.r, .int .i64 e.i] 33)).cell? ⟨q.w.heap.size, 1, none⟩ = some (.int .i64 e.q) := by simp [go_sem]
      have hx2 : (q.w.alloc (.cells #[.int .i64 e.d, .int .i64 e.q, .int .i64 e.a, .int .i64 e.t, .int .i64 e.k, .int .i64 e.b, .int .i64 e.p, .int .i64 e.r, .int .i64 e.i] 33)).cell? ⟨q.w.heap.size, 2, none⟩ = some (.int .i64 e.a) := by simp [go_sem]
      have hx3 : (q.w.alloc (.cells #[.int .i64 e.d, .int .i64 e.q, .int .i64 e.a, .int .i64 e.t, .int .i64 e.k, .int .i64 e.b, .int .i64 e.p, .int .i64 e.r, .int .i64 e.i] 33)).cell? ⟨q.w.heap.size, 3, none⟩ = some (.int .i64 e.t) := by simp [go_sem]
      have hx4 : (q.w.alloc (.cells #[.int .i64 e.d, .int .i64 e.q, .int .i64 e.a, .int .i64 e.t, .int .i64 e.k, .int .i64 e.b, .int .i64 e.p, .int .i64 e.r, .int .i64 e.i] 33)).cell? ⟨q.w.heap.size, 4, none⟩ = some (.int .i64 e.k) := by simp [go_sem]
      have hx5 : (q.w.alloc (.cells #[.int .i64 e.d, .int .i64 e.q, .int .i64 e.a, .int .i64 e.t, .int .i64 e.k, .int .i64 e.b, .int .i64 e.p, .int .i64 e.r, .int .i64 e.i] 33)).cell? ⟨q.w.heap.size, 5, none⟩ = some (.int .i64 e.b) := by simp [go_sem]
      have hx6 : (q.w.alloc (.cells #[.int .i64 e.d, .int .i64 e.q, .int .i64 e.a, .int .i64 e.t, .int .i64 e.k, .int .i64 e.b, .int .i64 e.p, .int .i64 e.r, .int .i64 e.i] 33)).cell? ⟨q.w.heap.size, 6, none⟩ = some (.int .i64 e.p) := by simp [go_sem]
      have hx7 : (q.w.alloc (.cells #[.int .i64 e.d, .int .i64 e.q, .int .i64 e.a, .int .i64 e.t, .int .i64 e.k, .int .i64 e.b, .int .i64 e.p, .int .i64 e.r, .int .i64 e.i] 33)).cell? ⟨q.w.heap.size, 7, none⟩ = some (.int .i64 e.r) := by simp [go_sem]
      have hx8 : (q.w.alloc (.cells #[.int .i64 e.d, .int .i64 e.q, .int .i64 e.a, .int .i64 e.t, .int .i64 e.k, .int .i64 e.b, .int .i64 e.p, .int .i64 e.r, .int .i64 e.i] 33)).cell? ⟨q.w.heap.size, 8, none⟩ = some (.int .i64 e.i) := by simp [go_sem]
      have hxf : ∀ o, (q.w.alloc (.cells #[.int .i64 e.d, .int .i64 e.q, .int .i64 e.a, .int .i64 e.t, .int .i64 e.k, .int .i64 e.b, .int .i64 e.p, .int .i64 e.r, .int .i64 e.i] 33)).frozen? ⟨q.w.heap.size, o, none⟩ = false := fun o => by simp [go_sem]
      have hlt0 : q.w.heap.size < (q.w.alloc (.cells #[.int .i64 e.d, .int .i64 e.q, .int .i64 e.a, .int .i64 e.t, .int .i64 e.k, .int .i64 e.b, .int .i64 e.p, .int .i64 e.r, .int .i64 e.i] 33)).heap.size := by simp
      have hst0 : ∃ zz : Since q.w, (q.w.alloc (.cells #[.int .i64 e.d, .int .i64 e.q, .int .i64 e.a, .int .i64 e.t, .int .i64 e.k, .int .i64 e.b, .int .i64 e.p, .int .i64 e.r, .int .i64 e.i] 33)) = zz.w := IsSince.alloc (IsSince.self _) _
      have hsz0 := q.b.size
      obtain ⟨y2, e2⟩ := IsSince.alloc (IsSince.of q) (.cells #[.int .i64 e.d, .int .i64 e.q, .int .i64 e.a, .int .i64 e.t, .int .i64 e.k, .int .i64 e.b, .int .i64 e.p, .int .i64 e.r, .int .i64 e.i] 33)
      rw [e2] at hx0 hx1 hx2 hx3 hx4 hx5 hx6 hx7 hx8 hxf hlt0 hst0 ⊢
      (have HR3 := Lib.hid (HRq.out.to hst0)); (have Hel3 := Lib.hid (Helq.out.to hst0)); (have Hgr3 := Lib.hid (Hgrq.out.trans ((show ∃ zz : Since q.w, y2.w = zz.w from hst0).elim fun zz e => e ▸ ((Since.grownBy zz).but (some bm)))))
      clear e2 hst0
      generalize q.w.heap.size = g at *
      have Hhx0 : ∀ q : Since y2.w, q.w.cell? ⟨g, 0, none⟩ = some (.int .i64 e.d) := fun q => Since.cell hx0 (by omega) q
      have Hhx1 : ∀ q : Since y2.w, q.w.cell? ⟨g, 1, none⟩ = some (.int .i64 e.q) := fun q => Since.cell hx1 (by omega) q
      have Hhx2 : ∀ q : Since y2.w, q.w.cell? ⟨g, 2, none⟩ = some (.int .i64 e.a) := fun q => Since.cell hx2 (by omega) q
      have Hhx3 : ∀ q : Since y2.w, q.w.cell? ⟨g, 3, none⟩ = some (.int .i64 e.t) := fun q => Since.cell hx3 (by omega) q
      have Hhx4 : ∀ q : Since y2.w, q.w.cell? ⟨g, 4, none⟩ = some (.int .i64 e.k) := fun q => Since.cell hx4 (by omega) q
      have Hhx5 : ∀ q : Since y2.w, q.w.cell? ⟨g, 5, none⟩ = some (.int .i64 e.b) := fun q => Since.cell hx5 (by omega) q
      have Hhx6 : ∀ q : Since y2.w, q.w.cell? ⟨g, 6, none⟩ = some (.int .i64 e.p) := fun q => Since.cell hx6 (by omega) q
      have Hhx7 : ∀ q : Since y2.w, q.w.cell? ⟨g, 7, none⟩ = some (.int .i64 e.r) := fun q => Since.cell hx7 (by omega) q
      have Hhx8 : ∀ q : Since y2.w, q.w.cell? ⟨g, 8, none⟩ = some (.int .i64 e.i) := fun q => Since.cell hx8 (by omega) q
      have Hhxf : ∀ (q : Since y2.w) (o : Nat), q.w.frozen? ⟨g, o, none⟩ = false := fun q o => Since.free (hxf o) (by omega) q
      have Hhxg := Lib.hid (And.intro hsz0 hlt0)
      clear hlt0 hsz0
      have hadd := add_calls y2.w p bm n (addAll n l (ms.take k)) e HR3.out
      have hag : e.ag = .agg #[.int .i64 e.d, .int .i64 e.q, .int .i64 e.a, .int .i64 e.t, .int .i64 e.k, .int .i64 e.b, .int .i64 e.p, .int .i64 e.r, .int .i64 e.i] := rfl
      rw [hag] at hadd
      unfold AddPost at hadd
      have hkeep : ∀ w', y2.w.grownBy w' (some bm) → RepAt w' p bm n (addL n (addAll n l (ms.take k)) e) → y1.w.grownBy w' (some bm) ∧ RepAt w' p bm n (addAll n l (ms.take (k + 1))) ∧ EvRow w' (some ⟨b1, off1, none⟩) ms := fun w' h1 h2 =>
        ⟨Hgr3.out.trans h1, by rw [Hm2.out]; exact h2, Els.keepMap (fun x => by simp [Ev.cs]) Hel3.out HR3.out.m h1⟩
      have Hadd := Lib.hid hadd
      have Hkeep := Lib.hid hkeep
      clear hadd hag hkeep
      generalize mergeE n l (ms.take k) = f at *
      generalize addE n (addAll n l (ms.take k)) e = f2 at *
      by_cases hf : f = 0
      · subst hf
        by_cases hf2 : f2 = 0
        · have hfb : (f2 != 0) = false := by simpa using hf2
          have Hf2 := Lib.hid hf2; clear hf2
          go_wp2_with (go_at_call 16; refine Hadd.out.mono ?_; rintro _ w3 ⟨rfl, hg3, hR3⟩; have HK := Lib.hid (Hkeep.out _ hg3 hR3); clear hg3 hR3)
          go_roundw
          case rel => exact ⟨k + 1, by omega, by go_num, by rw [Hm1.out, Hf2.out]; rfl, HK.out⟩
          case measure => simp [intOf]; omega
        · have hfb : (f2 != 0) = true := by simpa using hf2
          have Hf2 := Lib.hid hf2; clear hf2
          go_wp2_with (go_at_call 16; refine Hadd.out.mono ?_; rintro _ w3 ⟨rfl, hg3, hR3⟩; have HK := Lib.hid (Hkeep.out _ hg3 hR3); clear hg3 hR3)
          go_roundw
          case rel => exact ⟨k + 1, by omega, by go_num, by rw [Hm1.out]; rfl, HK.out⟩
          case measure => simp [intOf]; omega
      · have hfe : (f == 0) = false := by simpa using hf
        have hfc : (f2 != 0) = true ∨ (f2 != 0) = false := by cases (f2 != 0) <;> simp
        have Hf := Lib.hid hf
        clear hf
        rcases hfc with hfc | hfc
        all_goals
          go_wp2_with (go_at_call 16; refine Hadd.out.mono ?_; rintro _ w3 ⟨rfl, hg3, hR3⟩; have HK := Lib.hid (Hkeep.out _ hg3 hR3); clear hg3 hR3)
          go_roundw
          case rel => exact ⟨k + 1, by omega, by go_num, by rw [Hm1.out]; unfold firstE; rw [if_neg Hf.out], HK.out⟩
          case measure => simp [intOf]; omega
    · obtain rfl : k = ms.length := by omega
      go_wp2_with fail
      go_ret
      rw [List.take_length] at HRk
      exact ⟨ret_int (by rw [List.take_length]), ((Since.grownBy y1).but _).trans Hgr.out, HRk.out⟩
end Go.Proofs.Ytcpfogbjbinjcaa
