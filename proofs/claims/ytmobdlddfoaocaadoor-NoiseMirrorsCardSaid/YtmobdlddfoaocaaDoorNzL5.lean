/- The walk of the law NoiseMirrors. -/
import Derived.Test.YtmobdlddfoaocaaDoorNzL4
import Derived.Deep.RegionHeld3
namespace Go.Proofs.YtmobdlddfoaocaaDoor
open Go.RowKit

theorem weight_neg (l : List Int) (v : Int) : weight l (-v) = weight l v := by unfold weight; rw [wt_neg]
/-- two new blocks of two cells, then a draw: the world is later, and later worlds hold the cells -/
theorem wp_two {P : Program} {W : World} {c : Code} {Q : Exit → Act → World → Prop} {act : Act} {y : Since W} {a0 a1 b0 b1 : Value} {T : TypeId}
    (h : ∀ q : Since W, (∀ p : Since q.w, p.w.cell? ⟨y.w.heap.size, 0, none⟩ = some a0) → (∀ p : Since q.w, p.w.cell? ⟨y.w.heap.size, 1, none⟩ = some a1) → (∀ p : Since q.w, p.w.cell? ⟨y.w.heap.size + 1, 0, none⟩ = some b0) → (∀ p : Since q.w, p.w.cell? ⟨y.w.heap.size + 1, 1, none⟩ = some b1) → c.wp P Q act q.w) :
    c.wp P Q act (((y.w.alloc (.cells #[a0, a1] T)).alloc (.cells #[b0, b1] T)).drew) := by
  have hq : ∃ q : Since W, ((y.w.alloc (.cells #[a0, a1] T)).alloc (.cells #[b0, b1] T)).drew = q.w := by
    obtain ⟨q1, e1⟩ := y.alloc (.cells #[a0, a1] T)
    obtain ⟨q2, e2⟩ := q1.alloc (.cells #[b0, b1] T)
    obtain ⟨q3, e3⟩ := Since.drawn q2.w
    rw [e1, e2]
    obtain ⟨u, e⟩ := q2.trans q3
    exact ⟨u, by rw [← e, ← e3]; rfl⟩
  obtain ⟨q, hq⟩ := hq
  have c0 : q.w.cell? ⟨y.w.heap.size, 0, none⟩ = some a0 := by rw [← hq]; simp [go_sem]
  have c1 : q.w.cell? ⟨y.w.heap.size, 1, none⟩ = some a1 := by rw [← hq]; simp [go_sem]
  have d0 : q.w.cell? ⟨y.w.heap.size + 1, 0, none⟩ = some b0 := by rw [← hq]; simp [go_sem]
  have d1 : q.w.cell? ⟨y.w.heap.size + 1, 1, none⟩ = some b1 := by rw [← hq]; simp [go_sem]
  have s1 : y.w.heap.size < q.w.heap.size := by rw [← hq]; simp [World.drew]; omega
  have s2 : y.w.heap.size + 1 < q.w.heap.size := by rw [← hq]; simp [World.drew]
  rw [hq]
  exact h q (Since.cell c0 s1) (Since.cell c1 s1) (Since.cell d0 s2) (Since.cell d1 s2)

set_option maxHeartbeats 2000000 in
theorem noiseMirrors_calls (w : World) (x : Since w) (hs : Signs w) (a : Option Addr) (l : List Int) (cap : Nat) (num den s v : Int) (hlen : l.length ≤ 9223372036854775807) (hr : IntRow w a l) :
    Calls Tryd.prog 9 #[.agg #[.slice a l.length cap], .agg #[.int .i64 num, .int .i64 den, .int .i64 s], .int .i64 v] x.w fun e w' => e = .returned (.bool true) ∧ ∃ y : Since w, w' = y.w := by
  go_enter Tryd.func9, Tryd.ntmps9
  go_upto_region 1 with fail
  have hb0_0 : ∀ y : Since ((x.w.alloc (.cells #[.slice a l.length cap] 24)).alloc (.cells #[.int .i64 num, .int .i64 den, .int .i64 s] 36)), y.w.cell? ⟨x.w.heap.size, 0, none⟩ = some (.slice a l.length cap) := fun y => Since.cell (by simp [go_sem]) (by first | (simp; done) | (simp; omega)) y
  have hf0 : ∀ (y : Since ((x.w.alloc (.cells #[.slice a l.length cap] 24)).alloc (.cells #[.int .i64 num, .int .i64 den, .int .i64 s] 36))) (o : Nat), y.w.frozen? ⟨x.w.heap.size, o, none⟩ = false := fun y o => Since.free (by simp [go_sem]) (by first | (simp; done) | (simp; omega)) y
  have hb1_0 : ∀ y : Since ((x.w.alloc (.cells #[.slice a l.length cap] 24)).alloc (.cells #[.int .i64 num, .int .i64 den, .int .i64 s] 36)), y.w.cell? ⟨x.w.heap.size + 1, 0, none⟩ = some (.int .i64 num) := fun y => Since.cell (by simp [go_sem]) (by first | (simp; done) | (simp; omega)) y
  have hb1_1 : ∀ y : Since ((x.w.alloc (.cells #[.slice a l.length cap] 24)).alloc (.cells #[.int .i64 num, .int .i64 den, .int .i64 s] 36)), y.w.cell? ⟨x.w.heap.size + 1, 1, none⟩ = some (.int .i64 den) := fun y => Since.cell (by simp [go_sem]) (by first | (simp; done) | (simp; omega)) y
  have hb1_2 : ∀ y : Since ((x.w.alloc (.cells #[.slice a l.length cap] 24)).alloc (.cells #[.int .i64 num, .int .i64 den, .int .i64 s] 36)), y.w.cell? ⟨x.w.heap.size + 1, 2, none⟩ = some (.int .i64 s) := fun y => Since.cell (by simp [go_sem]) (by first | (simp; done) | (simp; omega)) y
  have hf1 : ∀ (y : Since ((x.w.alloc (.cells #[.slice a l.length cap] 24)).alloc (.cells #[.int .i64 num, .int .i64 den, .int .i64 s] 36))) (o : Nat), y.w.frozen? ⟨x.w.heap.size + 1, o, none⟩ = false := fun y o => Since.free (by simp [go_sem]) (by first | (simp; done) | (simp; omega)) y
  have hWup : ∃ z : Since w, ((x.w.alloc (.cells #[.slice a l.length cap] 24)).alloc (.cells #[.int .i64 num, .int .i64 den, .int .i64 s] 36)) = z.w := Since.allocs x [.cells #[.slice a l.length cap] 24, .cells #[.int .i64 num, .int .i64 den, .int .i64 s] 36]
  obtain ⟨y0, hy0⟩ := Since.refl ((x.w.alloc (.cells #[.slice a l.length cap] 24)).alloc (.cells #[.int .i64 num, .int .i64 den, .int .i64 s] 36))
  have Hbx := Lib.hid (And.intro x.b.size (show x.w.heap.size + 2 = ((x.w.alloc (.cells #[.slice a l.length cap] 24)).alloc (.cells #[.int .i64 num, .int .i64 den, .int .i64 s] 36)).heap.size from by simp))
  generalize hW : ((x.w.alloc (.cells #[.slice a l.length cap] 24)).alloc (.cells #[.int .i64 num, .int .i64 den, .int .i64 s] 36)) = W at *
  clear hW
  generalize x.w.heap.size = bx at *
  have Hup := Lib.hid (Since.up hWup)
  rw [hy0]
  clear hy0
  replace hr := hr.to hWup
  replace hs := hs.to hWup
  clear hWup
  by_cases hf : l.length ≤ 40
  · go_wp2_with fail
    refine (few_yes W _ a l.length cap hlen hf).mono ?_
    rintro _ _ ⟨rfl, y, rfl⟩
    have hc : (v < -1099511627776) ∨ (-1099511627776 ≤ v ∧ 1099511627776 < v) ∨ (-1099511627776 ≤ v ∧ v ≤ 1099511627776) := by omega
    rcases hc with h | ⟨h, h'⟩ | ⟨h, h'⟩
    · go_wp2_with fail
      refine (awake_calls W _ hs).mono ?_
      rintro _ _ ⟨rfl, y, rfl⟩
      go_wp2_with fail
      go_ret
      exact ⟨rfl, Hup.out _⟩
    · go_wp2_with fail
      refine (awake_calls W _ hs).mono ?_
      rintro _ _ ⟨rfl, y, rfl⟩
      go_wp2_with fail
      go_ret
      exact ⟨rfl, Hup.out _⟩
    · go_wp2_with fail
      refine wp_region_since (by kernel_rfl) (by kernel_rfl) ?_
      repeat (go_big_quiet_step ((first | (go_at_call 18; exact weight_calls W _ hs a l cap _ (by unfold I64; omega) hlen hr) | fail)))
      refine wpQuiet_nil ?_
      rintro _ ⟨y, rfl⟩
      have hne : (weight l v != weight l (-v)) = false := by rw [weight_neg]; simp
      by_cases hok : ExOk l num den s
      · have hX0 := exv_nonneg hok.1 hok.2.1 s
        go_wp2_with fail
        refine (ex_ok_calls W _ hs a l cap num den s hlen hr hok).mono ?_
        rintro _ _ ⟨rfl, y, rfl⟩
        have s0 := hok.2.2.1
        have s1 := hok.2.2.2
        go_wp2_with fail
        refine (ex_ok_calls W _ hs a l cap num den (-s) hlen hr ⟨hok.1, hok.2.1, by omega, by omega⟩).mono ?_
        rintro _ _ ⟨rfl, y, rfl⟩
        rw [exv_neg]
        go_wp2_with fail
        refine (ex_ok_calls W _ hs a l cap num den 0 hlen hr ⟨hok.1, hok.2.1, by omega, by omega⟩).mono ?_
        rintro _ _ ⟨rfl, y, rfl⟩
        rw [exv_zero hok.1 hok.2.1]
        go_wp2_with fail
        have r1 := hok.2.1.1
        have r2 := hok.2.1.2.1
        have r3 := hok.2.1.2.2
        have cn := hb1_0 y
        have cd := hb1_1 y
        have cs := hb1_2 y
        have hsize : bx + 2 ≤ y.w.heap.size := by have := y.b.size; have := Hbx.out; omega
        go_region_held3 (fun w' => w'.cell? ⟨bx + 1, 0, none⟩ = some (.int .i64 num) ∧ w'.cell? ⟨bx + 1, 1, none⟩ = some (.int .i64 den)) (first | go_keep | (simp [*, World.cell?_alloc_some, World.cell?_setCell_far]; omega)) (fail)
        all_goals
          go_upto_region 13 with fail
          refine wp_two fun q hg0 hg1 hh0 hh1 => ?_
          have n2b : num ≤ (if num + 1 < 1024 then num + 1 else 1024) ∧ (if num + 1 < 1024 then num + 1 else 1024) ≤ 1024 := by split <;> omega
          have d2b : 1 ≤ (if 1 < den - 1 then den - 1 else 1) ∧ (if 1 < den - 1 then den - 1 else 1) ≤ den := by split <;> omega
          generalize (if num + 1 < 1024 then num + 1 else 1024) = n2 at *
          generalize (if 1 < den - 1 then den - 1 else 1) = d2 at *
          have hA := exv_le (s := s) hok.1 n2b.1 (Int.le_refl den)
          have hB := exv_le (s := s) hok.1 (Int.le_refl num) d2b.2
          have ok1 : ExOk l n2 den s := ⟨hok.1, ⟨r1, by omega, n2b.2⟩, s0, s1⟩
          have ok2 : ExOk l num d2 s := ⟨hok.1, ⟨d2b.1, by omega, r3⟩, s0, s1⟩
          have Ok1 := Lib.hid ok1
          have Ok2 := Lib.hid ok2
          clear ok1 ok2 hok cn cd cs hne
          generalize y.w.heap.size = g at *
          replace hb0_0 : ∀ (y : Since q.w), y.w.cell? ⟨bx, 0, none⟩ = some (.slice a l.length cap) := fun y => by obtain ⟨z, e⟩ := q.trans y; rw [e]; exact hb0_0 z
          replace hb1_0 : ∀ (y : Since q.w), y.w.cell? ⟨bx + 1, 0, none⟩ = some (.int .i64 num) := fun y => by obtain ⟨z, e⟩ := q.trans y; rw [e]; exact hb1_0 z
          replace hb1_1 : ∀ (y : Since q.w), y.w.cell? ⟨bx + 1, 1, none⟩ = some (.int .i64 den) := fun y => by obtain ⟨z, e⟩ := q.trans y; rw [e]; exact hb1_1 z
          replace hb1_2 : ∀ (y : Since q.w), y.w.cell? ⟨bx + 1, 2, none⟩ = some (.int .i64 s) := fun y => by obtain ⟨z, e⟩ := q.trans y; rw [e]; exact hb1_2 z
          replace hf0 : ∀ (y : Since q.w) (o : Nat), y.w.frozen? ⟨bx, o, none⟩ = false := fun y o => by obtain ⟨z, e⟩ := q.trans y; rw [e]; exact hf0 z o
          replace hf1 : ∀ (y : Since q.w) (o : Nat), y.w.frozen? ⟨bx + 1, o, none⟩ = false := fun y o => by obtain ⟨z, e⟩ := q.trans y; rw [e]; exact hf1 z o
          replace hr := hr.to ⟨q, rfl⟩
          replace hs := hs.to ⟨q, rfl⟩
          obtain ⟨q0, hq0⟩ := Since.refl q.w
          rw [hq0]
          clear hq0
          go_wp2_with fail
          refine (ex_ok_calls q.w q0 hs a l cap n2 den s hlen hr Ok1.out).mono ?_
          rintro _ _ ⟨rfl, q1, rfl⟩
          go_wp2_with fail
          refine (ex_ok_calls q.w q1 hs a l cap num d2 s hlen hr Ok2.out).mono ?_
          rintro _ _ ⟨rfl, q2, rfl⟩
          generalize exv l num den s = X at *
          generalize exv l n2 den s = X1 at *
          generalize exv l num d2 s = X2 at *
          go_wp2_with fail
          refine (awake_calls q.w q2 hs).mono ?_
          rintro _ _ ⟨rfl, q3, rfl⟩
          go_wp2_with fail
          go_ret
          exact ⟨rfl, by obtain ⟨u, e⟩ := q.trans q3; rw [e]; exact Hup.out u⟩
      · go_wp2_with fail
        refine (ex_no_calls W _ hs a l cap num den s hlen hr hok).mono ?_
        rintro _ _ ⟨rfl | rfl, y, rfl⟩
        all_goals
          go_wp2_with fail
          refine (awake_calls W _ hs).mono ?_
          rintro _ _ ⟨rfl, y, rfl⟩
          go_wp2_with fail
          go_ret
          exact ⟨rfl, Hup.out _⟩
  · go_wp2_with fail
    refine (few_no W _ a l.length cap hlen hf).mono ?_
    rintro _ _ ⟨rfl, y, rfl⟩
    go_wp2_with fail
    refine (awake_calls W _ hs).mono ?_
    rintro _ _ ⟨rfl, y, rfl⟩
    go_wp2_with fail
    go_ret
    exact ⟨rfl, Hup.out _⟩
end Go.Proofs.YtmobdlddfoaocaaDoor
