/- The walks of replicas, third part: Add. -/
import Derived.Test.YtcpfogbjbinjcaaGsW2
import Derived.Test.YtcpfogbjbinjcaaHeld
import Derived.Test.YtcpfogbjbinjcaaReg
set_option linter.all false
namespace Go.Proofs.Ytcpfogbjbinjcaa
open Go.RowKit Go.ChangeMaps

/-- what Add does -/
def AddPost (w : World) (p bm : Nat) (n : Int) (l : List Ev) (e : Ev) (o : Ending) (w' : World) : Prop :=
  o = .returned (.tuple #[.bool (freshB n l e), .int .i64 (addE n l e)]) ∧ w.grownBy w' (some bm) ∧ RepAt w' p bm n (addL n l e)
theorem AddPost.fail {w w' : World} {p bm : Nat} {n : Int} {l : List Ev} {e : Ev} (k : Int) (hk : addE n l e = k) (hf : freshB n l e = false) (hR : RepAt w p bm n l) (h : ∃ z : Since w, w' = z.w) : AddPost w p bm n l e (.returned (.tuple #[.bool false, .int .i64 k])) w' := by
  obtain ⟨z, rfl⟩ := h
  exact ⟨by rw [hk, hf], (Since.grownBy z).but _, by rw [addL_same hf]; exact hR.since z⟩
theorem AddPost.done {w w5 wq : World} {p bm : Nat} {n : Int} {l : List Ev} {e : Ev} (hk : addE n l e = 0) (hf : freshB n l e = true) (hq : ∃ z : Since w, wq = z.w) (hR : RepAt wq p bm n l) (hm : MapAt ekey w5 bm (l.map evP ++ [((e.d, e.q), e.ag)])) (hg : wq.grownBy w5 (some bm)) :
    AddPost w p bm n l e (.returned (.tuple #[.bool true, .int .i64 0])) w5 := by
  obtain ⟨z, rfl⟩ := hq
  have hp := hg.block p hR.lt.1 (by simpa using hR.ne hR.m)
  refine ⟨by rw [hk, hf], ((Since.grownBy z).but (some bm)).trans hg, ?_⟩
  rw [addL_fresh hf]
  refine ⟨by rw [World.cell?_of_block (w := z.w) (a := ⟨p, 0, none⟩) hp]; exact hR.c0, by rw [World.cell?_of_block (w := z.w) (a := ⟨p, 1, none⟩) hp]; exact hR.c1, ?_⟩
  rw [List.map_append]
  exact hm
theorem fresh_no {n : Int} {l : List Ev} {e : Ev} (h : addE n l e ≠ 0) : freshB n l e = false := by unfold freshB; simp [h]

theorem ev_equal (x y : Ev) (w : World) : (Op.equalIn 10000 33 x.ag y.ag).run Try.prog w = .ok (decide (x = y)) w := by
  have hS : Try.prog.underlying 33 = some (.struct (Try.prog.fieldsOf 33)) := by kernel_rfl
  have hp : Try.prog.stoodInHeld 33 = false := by kernel_rfl
  have u3 := Try.underlying3
  have a3 := Try.isAgg3
  have z3 := Try.sizeOf3
  unfold Ev.ag
  rw [show (10000 : Nat) = 9999 + 1 from rfl, run_equalIn_struct w 9999 33 _ _ hS hp]
  simp only [Program.fieldsOf, Try.underlying33]
  go_simp
  rw [show decide (x = y) = decide (x.d = y.d ∧ x.q = y.q ∧ x.a = y.a ∧ x.t = y.t ∧ x.k = y.k ∧ x.b = y.b ∧ x.p = y.p ∧ x.r = y.r ∧ x.i = y.i) from by simp only [Ev.eq_iff]]
  by_cases h1 : x.d = y.d
  · by_cases h2 : x.q = y.q
    · by_cases h3 : x.a = y.a
      · by_cases h4 : x.t = y.t
        · by_cases h5 : x.k = y.k
          · by_cases h6 : x.b = y.b
            · by_cases h7 : x.p = y.p
              · by_cases h8 : x.r = y.r
                · by_cases h9 : x.i = y.i <;> simp [h1, h2, h3, h4, h5, h6, h7, h8, h9]
                · simp [h1, h2, h3, h4, h5, h6, h7, h8]
              · simp [h1, h2, h3, h4, h5, h6, h7]
            · simp [h1, h2, h3, h4, h5, h6]
          · simp [h1, h2, h3, h4, h5]
        · simp [h1, h2, h3, h4]
      · simp [h1, h2, h3]
    · simp [h1, h2]
  · simp [h1]
theorem ev_guard (op : BinOp) (a b : Operand) (xs ys : Array Value) (w : World) : (eqGuard op 33 a b (.agg xs) (.agg ys)).run Try.prog w = .ok () w := run_eqGuard_agg w op 33 a b xs ys (by kernel_rfl)
theorem zeroEv (w : World) : (zeroValue 33).run Try.prog w = .ok (⟨0, 0, 0, 0, 0, 0, 0, 0, 0⟩ : Ev).ag w := by kernel_rfl
set_option maxHeartbeats 2000000 in
theorem add_calls' (w : World) (x : Since w) (p bm : Nat) (n : Int) (l : List Ev) (e : Ev) (hR : RepAt w p bm n l) :
    Calls Try.prog 16 #[.pointer (some ⟨p, 0, none⟩), e.ag] x.w (AddPost w p bm n l e) := by
  have hag : e.ag = .agg #[.int .i64 e.d, .int .i64 e.q, .int .i64 e.a, .int .i64 e.t, .int .i64 e.k, .int .i64 e.b, .int .i64 e.p, .int .i64 e.r, .int .i64 e.i] := rfl
  have hR0 := Lib.hid hR
  rw [hag]
  go_enter Try.func16, Try.ntmps16
  go_upto_region 1 with fail
  have hb0_0 : ∀ y : Since (x.w.alloc (.cells #[.int .i64 e.d, .int .i64 e.q, .int .i64 e.a, .int .i64 e.t, .int .i64 e.k, .int .i64 e.b, .int .i64 e.p, .int .i64 e.r, .int .i64 e.i] 33)), y.w.cell? ⟨x.w.heap.size, 0, none⟩ = some (.int .i64 e.d) := fun y => Since.cell (by simp [go_sem]) (by first | (simp; done) | (simp; omega)) y
  have hb0_1 : ∀ y : Since (x.w.alloc (.cells #[.int .i64 e.d, .int .i64 e.q, .int .i64 e.a, .int .i64 e.t, .int .i64 e.k, .int .i64 e.b, .int .i64 e.p, .int .i64 e.r, .int .i64 e.i] 33)), y.w.cell? ⟨x.w.heap.size, 1, none⟩ = some (.int .i64 e.q) := fun y => Since.cell (by simp [go_sem]) (by first | (simp; done) | (simp; omega)) y
  have hb0_2 : ∀ y : Since (x.w.alloc (.cells #[.int .i64 e.d, .int .i64 e.q, .int .i64 e.a, .int .i64 e.t, .int .i64 e.k, .int .i64 e.b, .int .i64 e.p, .int .i64 e.r, .int .i64 e.i] 33)), y.w.cell? ⟨x.w.heap.size, 2, none⟩ = some (.int .i64 e.a) := fun y => Since.cell (by simp [go_sem]) (by first | (simp; done) | (simp; omega)) y
  have hb0_3 : ∀ y : Since (x.w.alloc (.cells #[.int .i64 e.d, .int .i64 e.q, .int .i64 e.a, .int .i64 e.t, .int .i64 e.k, .int .i64 e.b, .int .i64 e.p, .int .i64 e.r, .int .i64 e.i] 33)), y.w.cell? ⟨x.w.heap.size, 3, none⟩ = some (.int .i64 e.t) := fun y => Since.cell (by simp [go_sem]) (by first | (simp; done) | (simp; omega)) y
  have hb0_4 : ∀ y : Since (x.w.alloc (.cells #[.int .i64 e.d, .int .i64 e.q, .int .i64 e.a, .int .i64 e.t, .int .i64 e.k, .int .i64 e.b, .int .i64 e.p, .int .i64 e.r, .int .i64 e.i] 33)), y.w.cell? ⟨x.w.heap.size, 4, none⟩ = some (.int .i64 e.k) := fun y => Since.cell (by simp [go_sem]) (by first | (simp; done) | (simp; omega)) y
  have hb0_5 : ∀ y : Since (x.w.alloc (.cells #[.int .i64 e.d, .int .i64 e.q, .int .i64 e.a, .int .i64 e.t, .int .i64 e.k, .int .i64 e.b, .int .i64 e.p, .int .i64 e.r, .int .i64 e.i] 33)), y.w.cell? ⟨x.w.heap.size, 5, none⟩ = some (.int .i64 e.b) := fun y => Since.cell (by simp [go_sem]) (by first | (simp; done) | (simp; omega)) y
  have hb0_6 : ∀ y : Since (x.w.alloc (.cells #[.int .i64 e.d, .int .i64 e.q, .int .i64 e.a, .int .i64 e.t, .int .i64 e.k, .int .i64 e.b, .int .i64 e.p, .int .i64 e.r, .int .i64 e.i] 33)), y.w.cell? ⟨x.w.heap.size, 6, none⟩ = some (.int .i64 e.p) := fun y => Since.cell (by simp [go_sem]) (by first | (simp; done) | (simp; omega)) y
  have hb0_7 : ∀ y : Since (x.w.alloc (.cells #[.int .i64 e.d, .int .i64 e.q, .int .i64 e.a, .int .i64 e.t, .int .i64 e.k, .int .i64 e.b, .int .i64 e.p, .int .i64 e.r, .int .i64 e.i] 33)), y.w.cell? ⟨x.w.heap.size, 7, none⟩ = some (.int .i64 e.r) := fun y => Since.cell (by simp [go_sem]) (by first | (simp; done) | (simp; omega)) y
  have hb0_8 : ∀ y : Since (x.w.alloc (.cells #[.int .i64 e.d, .int .i64 e.q, .int .i64 e.a, .int .i64 e.t, .int .i64 e.k, .int .i64 e.b, .int .i64 e.p, .int .i64 e.r, .int .i64 e.i] 33)), y.w.cell? ⟨x.w.heap.size, 8, none⟩ = some (.int .i64 e.i) := fun y => Since.cell (by simp [go_sem]) (by first | (simp; done) | (simp; omega)) y
  have hf0 : ∀ (y : Since (x.w.alloc (.cells #[.int .i64 e.d, .int .i64 e.q, .int .i64 e.a, .int .i64 e.t, .int .i64 e.k, .int .i64 e.b, .int .i64 e.p, .int .i64 e.r, .int .i64 e.i] 33))) (o : Nat), y.w.frozen? ⟨x.w.heap.size, o, none⟩ = false := fun y o => Since.free (by simp [go_sem]) (by first | (simp; done) | (simp; omega)) y
  have hWup : ∃ z : Since w, (x.w.alloc (.cells #[.int .i64 e.d, .int .i64 e.q, .int .i64 e.a, .int .i64 e.t, .int .i64 e.k, .int .i64 e.b, .int .i64 e.p, .int .i64 e.r, .int .i64 e.i] 33)) = z.w := x.alloc _
  obtain ⟨y0, hy0⟩ := Since.refl (x.w.alloc (.cells #[.int .i64 e.d, .int .i64 e.q, .int .i64 e.a, .int .i64 e.t, .int .i64 e.k, .int .i64 e.b, .int .i64 e.p, .int .i64 e.r, .int .i64 e.i] 33))
  have Hbx := Lib.hid (And.intro x.b.size (show x.w.heap.size + 1 = (x.w.alloc (.cells #[.int .i64 e.d, .int .i64 e.q, .int .i64 e.a, .int .i64 e.t, .int .i64 e.k, .int .i64 e.b, .int .i64 e.p, .int .i64 e.r, .int .i64 e.i] 33)).heap.size from by simp))
  generalize hW : (x.w.alloc (.cells #[.int .i64 e.d, .int .i64 e.q, .int .i64 e.a, .int .i64 e.t, .int .i64 e.k, .int .i64 e.b, .int .i64 e.p, .int .i64 e.r, .int .i64 e.i] 33)) = W at *
  clear hW
  generalize x.w.heap.size = bx at *
  have Hup := Lib.hid (Since.up hWup)
  rw [hy0]
  clear hy0
  replace hR := hR.to hWup
  clear hWup
  have hc0 : ∀ y : Since W, y.w.cell? ⟨p, 0, none⟩ = some (.int .i64 n) := fun y => (hR.since y).c0
  have hc1 : ∀ y : Since W, y.w.cell? ⟨p, 1, none⟩ = some (.map (some bm)) := fun y => (hR.since y).c1
  by_cases hdev : e.d < 0 ∨ n ≤ e.d
  · have h7 := Lib.hid (addE_dev (l := l) hdev)
    have hfr := Lib.hid (fresh_no (n := n) (l := l) (e := e) (by rw [h7.out]; omega))
    have hc : (decide (e.d < 0) = true ∧ e.d < 0) ∨ (decide (e.d < 0) = false ∧ 0 ≤ e.d ∧ n ≤ e.d) := by
      by_cases h : e.d < 0
      · exact .inl ⟨decide_eq_true h, h⟩
      · exact .inr ⟨decide_eq_false h, by omega, by omega⟩
    rcases hc with ⟨hd0, h⟩ | ⟨hd0, h, h'⟩
    all_goals
      clear hdev
      go_wp2_with fail
      refine wp_region_since (by kernel_rfl) (by kernel_rfl) ?_
      repeat (go_big_quiet_step (fail))
      refine wpQuiet_nil ?_
      rintro _ ⟨y, rfl⟩
      go_wp2_with fail
      go_ret2
      exact AddPost.fail 7 h7.out hfr.out hR0.out (Hup.out _)
  · obtain ⟨d0, d1⟩ : 0 ≤ e.d ∧ e.d < n := by omega
    have hd0 : decide (e.d < 0) = false := decide_eq_false (by omega)
    by_cases hrng : rngB e = false
    · have h1 := Lib.hid (addE_rng (l := l) hdev hrng)
      have hfr := Lib.hid (fresh_no (n := n) (l := l) (e := e) (by rw [h1.out]; omega))
      have hc : (e.q < 1) ∨ (1 ≤ e.q ∧ 1048576 < e.q) ∨ (1 ≤ e.q ∧ e.q ≤ 1048576 ∧ e.a < 0) ∨ (1 ≤ e.q ∧ e.q ≤ 1048576 ∧ 0 ≤ e.a ∧ e.t < e.a) ∨ (1 ≤ e.q ∧ e.q ≤ 1048576 ∧ 0 ≤ e.a ∧ e.a ≤ e.t ∧ 4294943999 < e.t) := by
        have hn : ¬ rngB e = true := by rw [hrng]; simp
        rw [rngB_iff] at hn; omega
      clear hrng hdev
      rcases hc with h | ⟨h, h'⟩ | ⟨h, h', h''⟩ | ⟨h, h', h'', h3⟩ | ⟨h, h', h'', h3, h4⟩
      all_goals
        go_wp2_with fail
        refine wp_region_since (by kernel_rfl) (by kernel_rfl) ?_
        repeat (go_big_quiet_step (fail))
        refine wpQuiet_nil ?_
        rintro _ ⟨y, rfl⟩
        go_wp2_with fail
        go_ret2
        exact AddPost.fail 1 h1.out hfr.out hR0.out (Hup.out _)
    · have hrng' : rngB e = true := by cases hh : rngB e; exact (hrng hh).elim; rfl
      obtain ⟨r0, r1, r2, r3, r4⟩ := (rngB_iff e).1 hrng'
      have Hdev := Lib.hid hdev
      have Hrng := Lib.hid hrng'
      clear hrng hrng' hdev
      have hlk : ∀ w', IsSince W w' → (Instr.lookup 67 (.map (some bm)) (.agg #[.int .i64 e.d, .int .i64 e.q]) true).run Try.prog w' = .ok (.tuple #[lkV (e.d, e.q) (l.map evP) (⟨0, 0, 0, 0, 0, 0, 0, 0, 0⟩ : Ev).ag, .bool (lkB (e.d, e.q) (l.map evP))]) w' := fun w' hw' => by
        obtain ⟨y, rfl⟩ := hw'
        exact run_look keyOps (hR.since y).m Try.underlying67 (zeroEv _) (e.d, e.q) true
      rw [lkV_ev, lkB_ev] at hlk
      cases hf : findE l e with
      | some x =>
        rw [hf] at hlk
        simp only [Option.isSome_some] at hlk
        go_wp2_with fail
        refine wp_region_since (by kernel_rfl) (by kernel_rfl) ?_
        repeat (go_big_quiet_step (fail))
        refine wpQuiet_nil ?_
        rintro _ ⟨y, rfl⟩
        go_upto_region 8 with fail
        have hk0 : (y.w.alloc (.cells #[.int .i64 e.d, .int .i64 e.q] 71)).cell? ⟨y.w.heap.size, 0, none⟩ = some (.int .i64 e.d) := by simp [go_sem]
        have hk1 : (y.w.alloc (.cells #[.int .i64 e.d, .int .i64 e.q] 71)).cell? ⟨y.w.heap.size, 1, none⟩ = some (.int .i64 e.q) := by simp [go_sem]
        have hkf : ∀ o, (y.w.alloc (.cells #[.int .i64 e.d, .int .i64 e.q] 71)).frozen? ⟨y.w.heap.size, o, none⟩ = false := fun o => by simp [go_sem]
        have hlt0 : y.w.heap.size < (y.w.alloc (.cells #[.int .i64 e.d, .int .i64 e.q] 71)).heap.size := by simp
        have hst0 : ∃ zz : Since y.w, (y.w.alloc (.cells #[.int .i64 e.d, .int .i64 e.q] 71)) = zz.w := IsSince.alloc (IsSince.self _) _
        have hsz0 := y.b.size
        obtain ⟨y2, e2⟩ := IsSince.alloc (IsSince.of y) (.cells #[.int .i64 e.d, .int .i64 e.q] 71)
        rw [e2] at hk0 hk1 hkf hlt0 hst0 ⊢
        skip
        clear e2 hst0
        generalize y.w.heap.size = g at *
        have Hhk0 : ∀ q : Since y2.w, q.w.cell? ⟨g, 0, none⟩ = some (.int .i64 e.d) := fun q => Since.cell hk0 (by omega) q
        have Hhk1 : ∀ q : Since y2.w, q.w.cell? ⟨g, 1, none⟩ = some (.int .i64 e.q) := fun q => Since.cell hk1 (by omega) q
        have Hhkf : ∀ (q : Since y2.w) (o : Nat), q.w.frozen? ⟨g, o, none⟩ = false := fun q o => Since.free (hkf o) (by omega) q
        have Hhkg := Lib.hid (And.intro hsz0 hlt0)
        clear hlt0 hsz0
        have k0 : ∀ w', IsSince y2.w w' → w'.cell? ⟨g, 0, none⟩ = some (.int .i64 e.d) := fun _ h => IsSince.cell Hhk0 h
        have k1 : ∀ w', IsSince y2.w w' → w'.cell? ⟨g, 1, none⟩ = some (.int .i64 e.q) := fun _ h => IsSince.cell Hhk1 h
        have p1 : ∀ w', IsSince y2.w w' → w'.cell? ⟨p, 1, none⟩ = some (.map (some bm)) := fun _ h => by obtain ⟨u, rfl⟩ := h; obtain ⟨z, e⟩ := y2.trans u; rw [e]; exact hc1 z
        have l1 : ∀ w', IsSince y2.w w' → (Instr.lookup 67 (.map (some bm)) (.agg #[.int .i64 e.d, .int .i64 e.q]) true).run Try.prog w' = .ok (.tuple #[.agg #[.int .i64 x.d, .int .i64 x.q, .int .i64 x.a, .int .i64 x.t, .int .i64 x.k, .int .i64 x.b, .int .i64 x.p, .int .i64 x.r, .int .i64 x.i], .bool true]) w' := fun _ h => by obtain ⟨u, rfl⟩ := h; obtain ⟨z, e⟩ := y2.trans u; rw [e]; exact hlk _ ⟨z, rfl⟩
        clear hlk
        go_region_held3 (fun w' => IsSince y2.w w') (first | assumption | exact IsSince.drew' (IsSince.self _) | exact IsSince.drew' (IsSince.alloc (IsSince.self _) _)) (fail)
        all_goals
          go_upto_region 9 with fail
          have hx0 : ((y2.w.alloc (.cells #[.int .i64 x.d, .int .i64 x.q, .int .i64 x.a, .int .i64 x.t, .int .i64 x.k, .int .i64 x.b, .int .i64 x.p, .int .i64 x.r, .int .i64 x.i] 33)).drew).cell? ⟨y2.w.heap.size, 0, none⟩ = some (.int .i64 x.d) := by simp [go_sem]
          have hx1 : ((y2.w.alloc (.cells #[.int .i64 x.d, .int .i64 x.q, .int .i64 x.a, .int .i64 x.t, .int .i64 x.k, .int .i64 x.b, .int .i64 x.p, .int .i64 x.r, .int .i64 x.i] 33)).drew).cell? ⟨y2.w.heap.size, 1, none⟩ = some (.int .i64 x.q) := by simp [go_sem]
          have hx2 : ((y2.w.alloc (.cells #[.int .i64 x.d, .int .i64 x.q, .int .i64 x.a, .int .i64 x.t, .int .i64 x.k, .int .i64 x.b, .int .i64 x.p, .int .i64 x.r, .int .i64 x.i] 33)).drew).cell? ⟨y2.w.heap.size, 2, none⟩ = some (.int .i64 x.a) := by simp [go_sem]
          have hx3 : ((y2.w.alloc (.cells #[.int .i64 x.d, .int .i64 x.q, .int .i64 x.a, .int .i64 x.t, .int .i64 x.k, .int .i64 x.b, .int .i64 x.p, .int .i64 x.r, .int .i64 x.i] 33)).drew).cell? ⟨y2.w.heap.size, 3, none⟩ = some (.int .i64 x.t) := by simp [go_sem]
          have hx4 : ((y2.w.alloc (.cells #[.int .i64 x.d, .int .i64 x.q, .int .i64 x.a, .int .i64 x.t, .int .i64 x.k, .int .i64 x.b, .int .i64 x.p, .int .i64 x.r, .int .i64 x.i] 33)).drew).cell? ⟨y2.w.heap.size, 4, none⟩ = some (.int .i64 x.k) := by simp [go_sem]
          have hx5 : ((y2.w.alloc (.cells #[.int .i64 x.d, .int .i64 x.q, .int .i64 x.a, .int .i64 x.t, .int .i64 x.k, .int .i64 x.b, .int .i64 x.p, .int .i64 x.r, .int .i64 x.i] 33)).drew).cell? ⟨y2.w.heap.size, 5, none⟩ = some (.int .i64 x.b) := by simp [go_sem]
          have hx6 : ((y2.w.alloc (.cells #[.int .i64 x.d, .int .i64 x.q, .int .i64 x.a, .int .i64 x.t, .int .i64 x.k, .int .i64 x.b, .int .i64 x.p, .int .i64 x.r, .int .i64 x.i] 33)).drew).cell? ⟨y2.w.heap.size, 6, none⟩ = some (.int .i64 x.p) := by simp [go_sem]
          have hx7 : ((y2.w.alloc (.cells #[.int .i64 x.d, .int .i64 x.q, .int .i64 x.a, .int .i64 x.t, .int .i64 x.k, .int .i64 x.b, .int .i64 x.p, .int .i64 x.r, .int .i64 x.i] 33)).drew).cell? ⟨y2.w.heap.size, 7, none⟩ = some (.int .i64 x.r) := by simp [go_sem]
          have hx8 : ((y2.w.alloc (.cells #[.int .i64 x.d, .int .i64 x.q, .int .i64 x.a, .int .i64 x.t, .int .i64 x.k, .int .i64 x.b, .int .i64 x.p, .int .i64 x.r, .int .i64 x.i] 33)).drew).cell? ⟨y2.w.heap.size, 8, none⟩ = some (.int .i64 x.i) := by simp [go_sem]
          have hxf : ∀ o, ((y2.w.alloc (.cells #[.int .i64 x.d, .int .i64 x.q, .int .i64 x.a, .int .i64 x.t, .int .i64 x.k, .int .i64 x.b, .int .i64 x.p, .int .i64 x.r, .int .i64 x.i] 33)).drew).frozen? ⟨y2.w.heap.size, o, none⟩ = false := fun o => by simp [go_sem]
          have hlt0 : y2.w.heap.size < ((y2.w.alloc (.cells #[.int .i64 x.d, .int .i64 x.q, .int .i64 x.a, .int .i64 x.t, .int .i64 x.k, .int .i64 x.b, .int .i64 x.p, .int .i64 x.r, .int .i64 x.i] 33)).drew).heap.size := by simp
          have hst0 : ∃ zz : Since y2.w, ((y2.w.alloc (.cells #[.int .i64 x.d, .int .i64 x.q, .int .i64 x.a, .int .i64 x.t, .int .i64 x.k, .int .i64 x.b, .int .i64 x.p, .int .i64 x.r, .int .i64 x.i] 33)).drew) = zz.w := IsSince.drew' (IsSince.alloc (IsSince.self _) _)
          have hsz0 := y2.b.size
          obtain ⟨y3, e2⟩ := IsSince.drew' (IsSince.alloc (IsSince.of y2) (.cells #[.int .i64 x.d, .int .i64 x.q, .int .i64 x.a, .int .i64 x.t, .int .i64 x.k, .int .i64 x.b, .int .i64 x.p, .int .i64 x.r, .int .i64 x.i] 33))
          rw [e2] at hx0 hx1 hx2 hx3 hx4 hx5 hx6 hx7 hx8 hxf hlt0 hst0 ⊢
          skip
          clear e2 hst0
          generalize y2.w.heap.size = gx at *
          have Hhx0 : ∀ q : Since y3.w, q.w.cell? ⟨gx, 0, none⟩ = some (.int .i64 x.d) := fun q => Since.cell hx0 (by omega) q
          have Hhx1 : ∀ q : Since y3.w, q.w.cell? ⟨gx, 1, none⟩ = some (.int .i64 x.q) := fun q => Since.cell hx1 (by omega) q
          have Hhx2 : ∀ q : Since y3.w, q.w.cell? ⟨gx, 2, none⟩ = some (.int .i64 x.a) := fun q => Since.cell hx2 (by omega) q
          have Hhx3 : ∀ q : Since y3.w, q.w.cell? ⟨gx, 3, none⟩ = some (.int .i64 x.t) := fun q => Since.cell hx3 (by omega) q
          have Hhx4 : ∀ q : Since y3.w, q.w.cell? ⟨gx, 4, none⟩ = some (.int .i64 x.k) := fun q => Since.cell hx4 (by omega) q
          have Hhx5 : ∀ q : Since y3.w, q.w.cell? ⟨gx, 5, none⟩ = some (.int .i64 x.b) := fun q => Since.cell hx5 (by omega) q
          have Hhx6 : ∀ q : Since y3.w, q.w.cell? ⟨gx, 6, none⟩ = some (.int .i64 x.p) := fun q => Since.cell hx6 (by omega) q
          have Hhx7 : ∀ q : Since y3.w, q.w.cell? ⟨gx, 7, none⟩ = some (.int .i64 x.r) := fun q => Since.cell hx7 (by omega) q
          have Hhx8 : ∀ q : Since y3.w, q.w.cell? ⟨gx, 8, none⟩ = some (.int .i64 x.i) := fun q => Since.cell hx8 (by omega) q
          have Hhxf : ∀ (q : Since y3.w) (o : Nat), q.w.frozen? ⟨gx, o, none⟩ = false := fun q o => Since.free (hxf o) (by omega) q
          have Hhxg := Lib.hid (And.intro hsz0 hlt0)
          clear hlt0 hsz0
          have hne := ev_equal x e
          simp only [Ev.ag] at hne
          have hgd := ev_guard
          by_cases hxe : x = e
          · rw [decide_eq_true hxe] at hne
            have Hxe := Lib.hid hxe
            clear hxe
            have hx0 := Lib.hid ((addE_found (n := n) Hdev.out Hrng.out hf).trans (if_pos Hxe.out))
            have hfr : freshB n l e = false := by unfold freshB; rw [hf]; simp
            have Hfr := Lib.hid hfr
            clear hfr
            go_wp2_with fail
            go_ret2
            exact AddPost.fail 0 hx0.out Hfr.out hR0.out (Hup.out _)
          · rw [decide_eq_false hxe] at hne
            have hx0 := Lib.hid ((addE_found (n := n) Hdev.out Hrng.out hf).trans (if_neg hxe))
            have hfr := Lib.hid (fresh_no (n := n) (l := l) (e := e) (by rw [hx0.out]; omega))
            clear hxe
            go_wp2_with fail
            go_ret2
            exact AddPost.fail 21 hx0.out hfr.out hR0.out (Hup.out _)
      | none =>
        rw [hf] at hlk
        simp only [Option.isSome_none] at hlk
        go_wp2_with fail
        refine wp_region_since (by kernel_rfl) (by kernel_rfl) ?_
        repeat (go_big_quiet_step (fail))
        refine wpQuiet_nil ?_
        rintro _ ⟨y, rfl⟩
        go_upto_region 8 with fail
        have hk0 : (y.w.alloc (.cells #[.int .i64 e.d, .int .i64 e.q] 71)).cell? ⟨y.w.heap.size, 0, none⟩ = some (.int .i64 e.d) := by simp [go_sem]
        have hk1 : (y.w.alloc (.cells #[.int .i64 e.d, .int .i64 e.q] 71)).cell? ⟨y.w.heap.size, 1, none⟩ = some (.int .i64 e.q) := by simp [go_sem]
        have hkf : ∀ o, (y.w.alloc (.cells #[.int .i64 e.d, .int .i64 e.q] 71)).frozen? ⟨y.w.heap.size, o, none⟩ = false := fun o => by simp [go_sem]
        have hlt0 : y.w.heap.size < (y.w.alloc (.cells #[.int .i64 e.d, .int .i64 e.q] 71)).heap.size := by simp
        have hst0 : ∃ zz : Since y.w, (y.w.alloc (.cells #[.int .i64 e.d, .int .i64 e.q] 71)) = zz.w := IsSince.alloc (IsSince.self _) _
        have hsz0 := y.b.size
        obtain ⟨y2, e2⟩ := IsSince.alloc (IsSince.of y) (.cells #[.int .i64 e.d, .int .i64 e.q] 71)
        rw [e2] at hk0 hk1 hkf hlt0 hst0 ⊢
        skip
        clear e2 hst0
        generalize y.w.heap.size = g at *
        have Hhk0 : ∀ q : Since y2.w, q.w.cell? ⟨g, 0, none⟩ = some (.int .i64 e.d) := fun q => Since.cell hk0 (by omega) q
        have Hhk1 : ∀ q : Since y2.w, q.w.cell? ⟨g, 1, none⟩ = some (.int .i64 e.q) := fun q => Since.cell hk1 (by omega) q
        have Hhkf : ∀ (q : Since y2.w) (o : Nat), q.w.frozen? ⟨g, o, none⟩ = false := fun q o => Since.free (hkf o) (by omega) q
        have Hhkg := Lib.hid (And.intro hsz0 hlt0)
        clear hlt0 hsz0
        have k0 : ∀ w', IsSince y2.w w' → w'.cell? ⟨g, 0, none⟩ = some (.int .i64 e.d) := fun _ h => IsSince.cell Hhk0 h
        have k1 : ∀ w', IsSince y2.w w' → w'.cell? ⟨g, 1, none⟩ = some (.int .i64 e.q) := fun _ h => IsSince.cell Hhk1 h
        have p1 : ∀ w', IsSince y2.w w' → w'.cell? ⟨p, 1, none⟩ = some (.map (some bm)) := fun _ h => by obtain ⟨u, rfl⟩ := h; obtain ⟨z, e⟩ := y2.trans u; rw [e]; exact hc1 z
        have l1 : ∀ w', IsSince y2.w w' → (Instr.lookup 67 (.map (some bm)) (.agg #[.int .i64 e.d, .int .i64 e.q]) true).run Try.prog w' = .ok (.tuple #[.agg #[.int .i64 0, .int .i64 0, .int .i64 0, .int .i64 0, .int .i64 0, .int .i64 0, .int .i64 0, .int .i64 0, .int .i64 0], .bool false]) w' := fun _ h => by obtain ⟨u, rfl⟩ := h; obtain ⟨z, e⟩ := y2.trans u; rw [e]; exact hlk _ ⟨z, rfl⟩
        clear hlk
        go_region_held3 (fun w' => IsSince y2.w w') (first | assumption | exact IsSince.drew' (IsSince.self _) | exact IsSince.drew' (IsSince.alloc (IsSince.self _) _)) (fail)
        all_goals
          go_upto_region 9 with fail
          have hx0 : ((y2.w.alloc (.cells #[.int .i64 0, .int .i64 0, .int .i64 0, .int .i64 0, .int .i64 0, .int .i64 0, .int .i64 0, .int .i64 0, .int .i64 0] 33)).drew).cell? ⟨y2.w.heap.size, 0, none⟩ = some (.int .i64 0) := by simp [go_sem]
          have hx1 : ((y2.w.alloc (.cells #[.int .i64 0, .int .i64 0, .int .i64 0, .int .i64 0, .int .i64 0, .int .i64 0, .int .i64 0, .int .i64 0, .int .i64 0] 33)).drew).cell? ⟨y2.w.heap.size, 1, none⟩ = some (.int .i64 0) := by simp [go_sem]
          have hx2 : ((y2.w.alloc (.cells #[.int .i64 0, .int .i64 0, .int .i64 0, .int .i64 0, .int .i64 0, .int .i64 0, .int .i64 0, .int .i64 0, .int .i64 0] 33)).drew).cell? ⟨y2.w.heap.size, 2, none⟩ = some (.int .i64 0) := by simp [go_sem]
          have hx3 : ((y2.w.alloc (.cells #[.int .i64 0, .int .i64 0, .int .i64 0, .int .i64 0, .int .i64 0, .int .i64 0, .int .i64 0, .int .i64 0, .int .i64 0] 33)).drew).cell? ⟨y2.w.heap.size, 3, none⟩ = some (.int .i64 0) := by simp [go_sem]
          have hx4 : ((y2.w.alloc (.cells #[.int .i64 0, .int .i64 0, .int .i64 0, .int .i64 0, .int .i64 0, .int .i64 0, .int .i64 0, .int .i64 0, .int .i64 0] 33)).drew).cell? ⟨y2.w.heap.size, 4, none⟩ = some (.int .i64 0) := by simp [go_sem]
          have hx5 : ((y2.w.alloc (.cells #[.int .i64 0, .int .i64 0, .int .i64 0, .int .i64 0, .int .i64 0, .int .i64 0, .int .i64 0, .int .i64 0, .int .i64 0] 33)).drew).cell? ⟨y2.w.heap.size, 5, none⟩ = some (.int .i64 0) := by simp [go_sem]
          have hx6 : ((y2.w.alloc (.cells #[.int .i64 0, .int .i64 0, .int .i64 0, .int .i64 0, .int .i64 0, .int .i64 0, .int .i64 0, .int .i64 0, .int .i64 0] 33)).drew).cell? ⟨y2.w.heap.size, 6, none⟩ = some (.int .i64 0) := by simp [go_sem]
          have hx7 : ((y2.w.alloc (.cells #[.int .i64 0, .int .i64 0, .int .i64 0, .int .i64 0, .int .i64 0, .int .i64 0, .int .i64 0, .int .i64 0, .int .i64 0] 33)).drew).cell? ⟨y2.w.heap.size, 7, none⟩ = some (.int .i64 0) := by simp [go_sem]
          have hx8 : ((y2.w.alloc (.cells #[.int .i64 0, .int .i64 0, .int .i64 0, .int .i64 0, .int .i64 0, .int .i64 0, .int .i64 0, .int .i64 0, .int .i64 0] 33)).drew).cell? ⟨y2.w.heap.size, 8, none⟩ = some (.int .i64 0) := by simp [go_sem]
          have hxf : ∀ o, ((y2.w.alloc (.cells #[.int .i64 0, .int .i64 0, .int .i64 0, .int .i64 0, .int .i64 0, .int .i64 0, .int .i64 0, .int .i64 0, .int .i64 0] 33)).drew).frozen? ⟨y2.w.heap.size, o, none⟩ = false := fun o => by simp [go_sem]
          have hlt0 : y2.w.heap.size < ((y2.w.alloc (.cells #[.int .i64 0, .int .i64 0, .int .i64 0, .int .i64 0, .int .i64 0, .int .i64 0, .int .i64 0, .int .i64 0, .int .i64 0] 33)).drew).heap.size := by simp
          have hst0 : ∃ zz : Since y2.w, ((y2.w.alloc (.cells #[.int .i64 0, .int .i64 0, .int .i64 0, .int .i64 0, .int .i64 0, .int .i64 0, .int .i64 0, .int .i64 0, .int .i64 0] 33)).drew) = zz.w := IsSince.drew' (IsSince.alloc (IsSince.self _) _)
          have hsz0 := y2.b.size
          obtain ⟨y3, e2⟩ := IsSince.drew' (IsSince.alloc (IsSince.of y2) (.cells #[.int .i64 0, .int .i64 0, .int .i64 0, .int .i64 0, .int .i64 0, .int .i64 0, .int .i64 0, .int .i64 0, .int .i64 0] 33))
          rw [e2] at hx0 hx1 hx2 hx3 hx4 hx5 hx6 hx7 hx8 hxf hlt0 hst0 ⊢
          (replace Hhk0 := Since.cellTo hst0 Hhk0); (replace Hhk1 := Since.cellTo hst0 Hhk1)
          clear e2 hst0
          generalize y2.w.heap.size = gx at *
          have Hhx0 : ∀ q : Since y3.w, q.w.cell? ⟨gx, 0, none⟩ = some (.int .i64 0) := fun q => Since.cell hx0 (by omega) q
          have Hhx1 : ∀ q : Since y3.w, q.w.cell? ⟨gx, 1, none⟩ = some (.int .i64 0) := fun q => Since.cell hx1 (by omega) q
          have Hhx2 : ∀ q : Since y3.w, q.w.cell? ⟨gx, 2, none⟩ = some (.int .i64 0) := fun q => Since.cell hx2 (by omega) q
          have Hhx3 : ∀ q : Since y3.w, q.w.cell? ⟨gx, 3, none⟩ = some (.int .i64 0) := fun q => Since.cell hx3 (by omega) q
          have Hhx4 : ∀ q : Since y3.w, q.w.cell? ⟨gx, 4, none⟩ = some (.int .i64 0) := fun q => Since.cell hx4 (by omega) q
          have Hhx5 : ∀ q : Since y3.w, q.w.cell? ⟨gx, 5, none⟩ = some (.int .i64 0) := fun q => Since.cell hx5 (by omega) q
          have Hhx6 : ∀ q : Since y3.w, q.w.cell? ⟨gx, 6, none⟩ = some (.int .i64 0) := fun q => Since.cell hx6 (by omega) q
          have Hhx7 : ∀ q : Since y3.w, q.w.cell? ⟨gx, 7, none⟩ = some (.int .i64 0) := fun q => Since.cell hx7 (by omega) q
          have Hhx8 : ∀ q : Since y3.w, q.w.cell? ⟨gx, 8, none⟩ = some (.int .i64 0) := fun q => Since.cell hx8 (by omega) q
          have Hhxf : ∀ (q : Since y3.w) (o : Nat), q.w.frozen? ⟨gx, o, none⟩ = false := fun q o => Since.free (hxf o) (by omega) q
          have Hhxg := Lib.hid (And.intro hsz0 hlt0)
          clear hlt0 hsz0
          clear k0 k1 p1 l1
          have Hf := Lib.hid hf
          clear hf
          have hlen : ∀ (y : Since W) (ty : TypeId), (Builtin.len_ #[67] ty #[.map (some bm)]).run Try.prog y.w = .ok (.int .i64 l.length) y.w := fun y ty => by
            have := run_len_map' (hR.since y).m Try.underlying67 ty
            rwa [List.length_map] at this
          replace hb0_0 : ∀ (y : Since y3.w), y.w.cell? ⟨bx, 0, none⟩ = some (.int .i64 e.d) := fun y => by obtain ⟨z, e⟩ := y3.trans y; rw [e]; exact hb0_0 z
          replace hb0_1 : ∀ (y : Since y3.w), y.w.cell? ⟨bx, 1, none⟩ = some (.int .i64 e.q) := fun y => by obtain ⟨z, e⟩ := y3.trans y; rw [e]; exact hb0_1 z
          replace hb0_2 : ∀ (y : Since y3.w), y.w.cell? ⟨bx, 2, none⟩ = some (.int .i64 e.a) := fun y => by obtain ⟨z, e⟩ := y3.trans y; rw [e]; exact hb0_2 z
          replace hb0_3 : ∀ (y : Since y3.w), y.w.cell? ⟨bx, 3, none⟩ = some (.int .i64 e.t) := fun y => by obtain ⟨z, e⟩ := y3.trans y; rw [e]; exact hb0_3 z
          replace hb0_4 : ∀ (y : Since y3.w), y.w.cell? ⟨bx, 4, none⟩ = some (.int .i64 e.k) := fun y => by obtain ⟨z, e⟩ := y3.trans y; rw [e]; exact hb0_4 z
          replace hb0_5 : ∀ (y : Since y3.w), y.w.cell? ⟨bx, 5, none⟩ = some (.int .i64 e.b) := fun y => by obtain ⟨z, e⟩ := y3.trans y; rw [e]; exact hb0_5 z
          replace hb0_6 : ∀ (y : Since y3.w), y.w.cell? ⟨bx, 6, none⟩ = some (.int .i64 e.p) := fun y => by obtain ⟨z, e⟩ := y3.trans y; rw [e]; exact hb0_6 z
          replace hb0_7 : ∀ (y : Since y3.w), y.w.cell? ⟨bx, 7, none⟩ = some (.int .i64 e.r) := fun y => by obtain ⟨z, e⟩ := y3.trans y; rw [e]; exact hb0_7 z
          replace hb0_8 : ∀ (y : Since y3.w), y.w.cell? ⟨bx, 8, none⟩ = some (.int .i64 e.i) := fun y => by obtain ⟨z, e⟩ := y3.trans y; rw [e]; exact hb0_8 z
          replace hf0 : ∀ (y : Since y3.w) (o : Nat), y.w.frozen? ⟨bx, o, none⟩ = false := fun y o => by obtain ⟨z, e⟩ := y3.trans y; rw [e]; exact hf0 z o
          replace hR := hR.to ⟨y3, rfl⟩
          replace hc1 : ∀ y : Since y3.w, y.w.cell? ⟨p, 1, none⟩ = some (.map (some bm)) := fun y => (hR.since y).c1
          replace hlen : ∀ (y : Since y3.w) (ty : TypeId), (Builtin.len_ #[67] ty #[.map (some bm)]).run Try.prog y.w = .ok (.int .i64 l.length) y.w := fun y ty => by obtain ⟨z, e⟩ := y3.trans y; rw [e]; exact hlen z ty
          obtain ⟨q3, hq0⟩ := Since.refl y3.w
          rw [hq0]
          clear hq0
          have hfc := fits_calls y3.w q3 p bm n l e hR
          cases hfit : fitsB l e with
          | false =>
            rw [hfit] at hfc
            have Hfc := Lib.hid hfc; clear hfc
            have hx0 := Lib.hid (addE_order (n := n) Hdev.out Hrng.out Hf.out hfit)
            have hfr := Lib.hid (fresh_no (n := n) (l := l) (e := e) (by rw [hx0.out]; omega))
            clear hfit
            go_wp2_with fail
            refine Hfc.out.mono ?_
            rintro _ _ ⟨rfl, y4, rfl⟩
            go_wp2_with fail
            go_ret2
            exact AddPost.fail 9 hx0.out hfr.out hR0.out (by obtain ⟨z, e⟩ := y3.trans y4; rw [e]; exact Hup.out z)
          | true =>
            rw [hfit] at hfc
            have Hfc := Lib.hid hfc; clear hfc
            by_cases hfull : 512 ≤ l.length
            · have hx0 := Lib.hid (addE_full (n := n) Hdev.out Hrng.out Hf.out hfit hfull)
              have hfr := Lib.hid (fresh_no (n := n) (l := l) (e := e) (by rw [hx0.out]; omega))
              clear hfit
              have hd := decide_eq_true (show (512 : Int) ≤ (l.length : Int) by omega)
              go_wp2_with fail
              refine Hfc.out.mono ?_
              rintro _ _ ⟨rfl, y4, rfl⟩
              go_wp2_with fail
              go_ret2
              exact AddPost.fail 8 hx0.out hfr.out hR0.out (by obtain ⟨z, e⟩ := y3.trans y4; rw [e]; exact Hup.out z)
            · have hx0 := Lib.hid (addE_new (n := n) Hdev.out Hrng.out Hf.out hfit hfull)
              have hfr := Lib.hid (freshB_iff.2 ⟨Hdev.out, Hrng.out, Hf.out, hfit, hfull⟩)
              clear hfit
              have hd := decide_eq_false (show ¬ (512 : Int) ≤ (l.length : Int) by omega)
              have hl0 : l.length < 512 := by omega
              clear hfull
              go_wp2_with fail
              refine Hfc.out.mono ?_
              rintro _ _ ⟨rfl, y4, rfl⟩
              go_wp2_with fail
              refine wp_region_tail (fun w' => ∃ q : Since (y3.w), w' = q.w) [] [0, 1, 2, 3, 4, 5] 6 (by kernel_rfl) (by kernel_rfl) (fun _ _ _ _ _ h => h) (Since.drew _) ?_
              simp only [List.cons_append, List.nil_append, picks_cons, picks_nil, List.getD_cons_zero, List.getD_cons_succ]
              repeat (go_big_quiet_step (fail))
              refine wpQuiet_nil ?_
              rintro _ ⟨q, rfl⟩
              simp only [List.drop_succ_cons, List.drop_zero]
              go_wp2_with (at_mapUpdate; refine wpList_storeM keyOps rfl _ _ _ _ rfl Try.underlying67 rfl (e.d, e.q) rfl e.ag rfl (hR.since _).m (lk_none Hf.out) ?_; intro w5 hm5 hg5)
              have hq : ∃ z : Since w, q.w = z.w := by obtain ⟨z, e⟩ := y3.trans q; rw [e]; exact Hup.out z
              have hRq := hR.since q
              go_wp2_with fail
              go_ret2
              exact AddPost.done hx0.out hfr.out hq hRq hm5 hg5
theorem add_calls (w : World) (p bm : Nat) (n : Int) (l : List Ev) (e : Ev) (hR : RepAt w p bm n l) :
    Calls Try.prog 16 #[.pointer (some ⟨p, 0, none⟩), e.ag] w (AddPost w p bm n l e) :=
  add_calls' w (Since.self w) p bm n l e hR
end Go.Proofs.Ytcpfogbjbinjcaa
