/- The laws of replicas: GossipFails. -/
import Derived.Test.YtcpfogbjbinjcaaGsK4
set_option linter.all false
namespace Go.Proofs.Ytcpfogbjbinjcaa
open Go.RowKit Go.ChangeMaps

theorem add_again {N : Int} {l : List Ev} {e : Ev} (hI : Inv N l) (h : freshB N l e = true) : freshB N (addL N l e) e = false ∧ addE N (addL N l e) e = 0 := by
  have hI2 := inv_add hI e
  have hm : e ∈ addL N l e := by rw [addL_fresh h]; simp
  have := sub_old hI2 (sub_self hI2) hm
  exact ⟨this.2, this.1⟩
theorem Row.keepMap {w w' : World} {a : Option Addr} {n : Nat} {f : Nat → Value} {bm : Nat} {es : Array MapEntry} {c : Nat} (h : Row w a n f) (h' : w.heap[bm]? = some (.map es c)) (hg : w.grownBy w' (some bm)) : Row w' a n f := by
  intro i hi
  obtain ⟨b, off, ha, hlt, hc⟩ := h i hi
  have hne : b ≠ bm := by rintro rfl; exact map_no_cell h' hc
  have hb := hg.block b hlt (by simpa using hne)
  exact ⟨b, off, ha, Nat.lt_of_lt_of_le hlt hg.size, by rw [World.cell?_of_block (w := w) (a := ⟨b, off + i, none⟩) hb]; exact hc⟩
theorem Row.kept {w w' : World} {a : Option Addr} {k : Nat} {f : Nat → Value} {p bm : Nat} {n : Int} {m : List Ev} (h : Row w a k f) (hR : RepAt w p bm n m) (hg : w.grownBy w' (some bm)) : Row w' a k f :=
  Row.keepMap h hR.m hg
set_option maxRecDepth 100000 in
set_option maxHeartbeats 16000000 in
theorem gossipFails_calls (w : World) (x : Since w) (n : Int) (la : Option Addr) (l : List Ev) (lc : Nat) (e : Ev) (hl : EvRow w la l) (hll : l.length ≤ 9223372036854775807) :
    Calls Try.prog 5 #[.int .i64 n, .slice la l.length lc, .agg #[.int .i64 e.d, .int .i64 e.q, .int .i64 e.a, .int .i64 e.t, .int .i64 e.k, .int .i64 e.b, .int .i64 e.p, .int .i64 e.r, .int .i64 e.i]] x.w fun o w' => o = .returned (.bool true) ∧ ∃ y : Since w, w' = y.w := by
  have HL := Lib.hid hl
  clear hl
  by_cases hbad : 40 < l.length ∨ n < 1 ∨ 12 < n
  · rcases (by omega : (40 < l.length) ∨ (l.length ≤ 40 ∧ n < 1) ∨ (l.length ≤ 40 ∧ 1 ≤ n ∧ 12 < n)) with h | ⟨h, h'⟩ | ⟨h, h', h''⟩
    all_goals
      clear hbad
      go_enter Try.func5, Try.ntmps5
      go_upto_region 1 with fail
      have hb0_0 : ∀ y : Since (x.w.alloc (.cells #[.int .i64 e.d, .int .i64 e.q, .int .i64 e.a, .int .i64 e.t, .int .i64 e.k, .int .i64 e.b, .int .i64 e.p, .int .i64 e.r, .int .i64 e.i] 33)), y.w.cell? ⟨x.w.heap.size, 0, none⟩ = some (.int .i64 e.d) := fun y => Since.cell (by simp [go_sem]) (by first | (simp; done) | (simp; omega)) y
      have hb0_1 : ∀ y : Since (x.w.alloc (.cells #[.int .i64 e.d, .int .i64 e.q, .int .i64 e.a, .int .i64 e.t, .int .i64 e.k, .int .i64 e.b, .int .i64 e.p, .int .i64 e.r, .int .i64 e.i] 33)), y.w.cell? ⟨x.w.heap.size, 1, none⟩ = some (.int .i64 e.q) := fun y => Since.cell (by simp [go_sem]) (by first | (simp; done) | (simp; omega)) y
      have hb0_2 : ∀ y : Since (x.w.alloc (.cells #[.int .i64 e.d, .int .i64 e.q, .int .i64 e.a, .int .i64 e.t, .int .i64 e.k, .int .i64 e.b, .int .i64 e.p, .int .i64 e.r, .int .i64 e.i] 33)), y.w.cell? ⟨x.w.heap.size, 2, none⟩ = some (.int .i64 e.a) := fun y => Since.cell (by simp [go_sem]) (by first | (simp; done) | (simp; omega)) y
      have hb0_3 : ∀ y : Since (x.w.alloc (.cells #[.int .i64 e.d, .int .i64 e.q, .int .i64 e.a, .int .i64 e.t, .int .i64 e.k, .int .i64 e.b, .int .i64 e.p, .int .i64 e.r, .int .i64 e.i] 33)), y.w.cell? ⟨x.w.heap.size, 3, none⟩ = some (.int .i64 e.t) := fun y => Since.cell (by simp [go_sem]) (by first | (simp; done) | (simp; omega)) y
      have hb0_4 : ∀ y : Since (x.w.alloc (.cells #[.int .i64 e.d, .int .i64 e.q, .int .i64 e.a, .int .i64 e.t, .int .i64 e.k, .int .i64 e.b, .int .i64 e.p, .int .i64 e.r, .int .i64 e.i] 33)), y.w.cell? ⟨x.w.heap.size, 4, none⟩ = some (.int .i64 e.k) := fun y => Since.cell (by simp [go_sem]) (by first | (simp; done) | (simp; omega)) y
      have hb0_5 : ∀ y : Since (x.w.alloc (.cells #[.int .i64 e.d, .int .i64 e.q, .int .i64 e.a, .int .i64 e.t, .int .i64 e.k, .int .i64 e.b, .int .i64 e.p, .int .i64 e.r, .int .i64 e.i] 33)), y.w.cell? ⟨x.w.heap.size, 5, none⟩ = some (.int .i64 e.b) := fun y => Since.cell (by simp [go_sem]) (by first | (simp; done) | (simp; omega)) y
      have hb0_6 : ∀ y : Since (x.w.alloc (.cells #[.int .i64 e.d, .int .i64 e.q, .int .i64 e.a, .int .i64 e.t, .int .i64 e.k, .int .i64 e.b, .int .i64 e.p, .int .i64 e.r, .int .i64 e.i] 33)), y.w.cell? ⟨x.w.heap.size, 6, none⟩ = some (.int .i64 e.p) := fun y => Since.cell (by simp [go_sem]) (by first | (simp; done) | (simp; omega)) y
      have hb0_7 : ∀ y : Since (x.w.alloc (.cells #[.int .i64 e.d, .int .i64 e.q, .int .i64 e.a, .int .i64 e.t, .int .i64 e.k, .int .i64 e.b, .int .i64 e.p, .int .i64 e.r, .int .i64 e.i] 33)), y.w.cell? ⟨x.w.heap.size, 7, none⟩ = some (.int .i64 e.r) := fun y => Since.cell (by simp [go_sem]) (by first | (simp; done) | (simp; omega)) y
      have hb0_8 : ∀ y : Since (x.w.alloc (.cells #[.int .i64 e.d, .int .i64 e.q, .int .i64 e.a, .int .i64 e.t, .int .i64 e.k, .int .i64 e.b, .int .i64 e.p, .int .i64 e.r, .int .i64 e.i] 33)), y.w.cell? ⟨x.w.heap.size, 8, none⟩ = some (.int .i64 e.i) := fun y => Since.cell (by simp [go_sem]) (by first | (simp; done) | (simp; omega)) y
      have hf0 : ∀ (y : Since (x.w.alloc (.cells #[.int .i64 e.d, .int .i64 e.q, .int .i64 e.a, .int .i64 e.t, .int .i64 e.k, .int .i64 e.b, .int .i64 e.p, .int .i64 e.r, .int .i64 e.i] 33))) (o : Nat), y.w.frozen? ⟨x.w.heap.size, o, none⟩ = false := fun y o => Since.free (by simp [go_sem]) (by first | (simp; done) | (simp; omega)) y
      have hWup : ∃ z : Since w, (x.w.alloc (.cells #[.int .i64 e.d, .int .i64 e.q, .int .i64 e.a, .int .i64 e.t, .int .i64 e.k, .int .i64 e.b, .int .i64 e.p, .int .i64 e.r, .int .i64 e.i] 33)) = z.w := x.alloc _
      obtain ⟨y0, hy0⟩ := Since.refl (x.w.alloc (.cells #[.int .i64 e.d, .int .i64 e.q, .int .i64 e.a, .int .i64 e.t, .int .i64 e.k, .int .i64 e.b, .int .i64 e.p, .int .i64 e.r, .int .i64 e.i] 33))
      have Hbx := Lib.hid (And.intro x.b.size (show x.w.heap.size + 1 = (x.w.alloc (.cells #[.int .i64 e.d, .int .i64 e.q, .int .i64 e.a, .int .i64 e.t, .int .i64 e.k, .int .i64 e.b, .int .i64 e.p, .int .i64 e.r, .int .i64 e.i] 33)).heap.size from by simp))
      generalize hW : (x.w.alloc (.cells #[.int .i64 e.d, .int .i64 e.q, .int .i64 e.a, .int .i64 e.t, .int .i64 e.k, .int .i64 e.b, .int .i64 e.p, .int .i64 e.r, .int .i64 e.i] 33)) = W at *
      clear hW
      generalize x.w.heap.size = bx at *
      have Hup := Lib.hid (Since.up hWup)
      rw [hy0]
      clear hy0
      clear hWup
      go_wp2_with (go_at_call 12; refine (awake_s W _).mono ?_; rintro _ _ ⟨rfl, y1, rfl, -⟩)
      go_ret
      exact ⟨rfl, Hup.out _⟩
  have hl40 : l.length ≤ 40 := by omega
  have hn1 : 1 ≤ n := by omega
  have hn12 : n ≤ 12 := by omega
  obtain ⟨N, rfl⟩ : ∃ N : Nat, n = N := ⟨n.toNat, by omega⟩
  clear hbad hll
  go_enter Try.func5, Try.ntmps5
  go_upto_region 1 with fail
  have hb0_0 : ∀ y : Since (x.w.alloc (.cells #[.int .i64 e.d, .int .i64 e.q, .int .i64 e.a, .int .i64 e.t, .int .i64 e.k, .int .i64 e.b, .int .i64 e.p, .int .i64 e.r, .int .i64 e.i] 33)), y.w.cell? ⟨x.w.heap.size, 0, none⟩ = some (.int .i64 e.d) := fun y => Since.cell (by simp [go_sem]) (by first | (simp; done) | (simp; omega)) y
  have hb0_1 : ∀ y : Since (x.w.alloc (.cells #[.int .i64 e.d, .int .i64 e.q, .int .i64 e.a, .int .i64 e.t, .int .i64 e.k, .int .i64 e.b, .int .i64 e.p, .int .i64 e.r, .int .i64 e.i] 33)), y.w.cell? ⟨x.w.heap.size, 1, none⟩ = some (.int .i64 e.q) := fun y => Since.cell (by simp [go_sem]) (by first | (simp; done) | (simp; omega)) y
  have hb0_2 : ∀ y : Since (x.w.alloc (.cells #[.int .i64 e.d, .int .i64 e.q, .int .i64 e.a, .int .i64 e.t, .int .i64 e.k, .int .i64 e.b, .int .i64 e.p, .int .i64 e.r, .int .i64 e.i] 33)), y.w.cell? ⟨x.w.heap.size, 2, none⟩ = some (.int .i64 e.a) := fun y => Since.cell (by simp [go_sem]) (by first | (simp; done) | (simp; omega)) y
  have hb0_3 : ∀ y : Since (x.w.alloc (.cells #[.int .i64 e.d, .int .i64 e.q, .int .i64 e.a, .int .i64 e.t, .int .i64 e.k, .int .i64 e.b, .int .i64 e.p, .int .i64 e.r, .int .i64 e.i] 33)), y.w.cell? ⟨x.w.heap.size, 3, none⟩ = some (.int .i64 e.t) := fun y => Since.cell (by simp [go_sem]) (by first | (simp; done) | (simp; omega)) y
  have hb0_4 : ∀ y : Since (x.w.alloc (.cells #[.int .i64 e.d, .int .i64 e.q, .int .i64 e.a, .int .i64 e.t, .int .i64 e.k, .int .i64 e.b, .int .i64 e.p, .int .i64 e.r, .int .i64 e.i] 33)), y.w.cell? ⟨x.w.heap.size, 4, none⟩ = some (.int .i64 e.k) := fun y => Since.cell (by simp [go_sem]) (by first | (simp; done) | (simp; omega)) y
  have hb0_5 : ∀ y : Since (x.w.alloc (.cells #[.int .i64 e.d, .int .i64 e.q, .int .i64 e.a, .int .i64 e.t, .int .i64 e.k, .int .i64 e.b, .int .i64 e.p, .int .i64 e.r, .int .i64 e.i] 33)), y.w.cell? ⟨x.w.heap.size, 5, none⟩ = some (.int .i64 e.b) := fun y => Since.cell (by simp [go_sem]) (by first | (simp; done) | (simp; omega)) y
  have hb0_6 : ∀ y : Since (x.w.alloc (.cells #[.int .i64 e.d, .int .i64 e.q, .int .i64 e.a, .int .i64 e.t, .int .i64 e.k, .int .i64 e.b, .int .i64 e.p, .int .i64 e.r, .int .i64 e.i] 33)), y.w.cell? ⟨x.w.heap.size, 6, none⟩ = some (.int .i64 e.p) := fun y => Since.cell (by simp [go_sem]) (by first | (simp; done) | (simp; omega)) y
  have hb0_7 : ∀ y : Since (x.w.alloc (.cells #[.int .i64 e.d, .int .i64 e.q, .int .i64 e.a, .int .i64 e.t, .int .i64 e.k, .int .i64 e.b, .int .i64 e.p, .int .i64 e.r, .int .i64 e.i] 33)), y.w.cell? ⟨x.w.heap.size, 7, none⟩ = some (.int .i64 e.r) := fun y => Since.cell (by simp [go_sem]) (by first | (simp; done) | (simp; omega)) y
  have hb0_8 : ∀ y : Since (x.w.alloc (.cells #[.int .i64 e.d, .int .i64 e.q, .int .i64 e.a, .int .i64 e.t, .int .i64 e.k, .int .i64 e.b, .int .i64 e.p, .int .i64 e.r, .int .i64 e.i] 33)), y.w.cell? ⟨x.w.heap.size, 8, none⟩ = some (.int .i64 e.i) := fun y => Since.cell (by simp [go_sem]) (by first | (simp; done) | (simp; omega)) y
  have hf0 : ∀ (y : Since (x.w.alloc (.cells #[.int .i64 e.d, .int .i64 e.q, .int .i64 e.a, .int .i64 e.t, .int .i64 e.k, .int .i64 e.b, .int .i64 e.p, .int .i64 e.r, .int .i64 e.i] 33))) (o : Nat), y.w.frozen? ⟨x.w.heap.size, o, none⟩ = false := fun y o => Since.free (by simp [go_sem]) (by first | (simp; done) | (simp; omega)) y
  have hWup : ∃ z : Since w, (x.w.alloc (.cells #[.int .i64 e.d, .int .i64 e.q, .int .i64 e.a, .int .i64 e.t, .int .i64 e.k, .int .i64 e.b, .int .i64 e.p, .int .i64 e.r, .int .i64 e.i] 33)) = z.w := x.alloc _
  obtain ⟨y0, hy0⟩ := Since.refl (x.w.alloc (.cells #[.int .i64 e.d, .int .i64 e.q, .int .i64 e.a, .int .i64 e.t, .int .i64 e.k, .int .i64 e.b, .int .i64 e.p, .int .i64 e.r, .int .i64 e.i] 33))
  have Hbx := Lib.hid (And.intro x.b.size (show x.w.heap.size + 1 = (x.w.alloc (.cells #[.int .i64 e.d, .int .i64 e.q, .int .i64 e.a, .int .i64 e.t, .int .i64 e.k, .int .i64 e.b, .int .i64 e.p, .int .i64 e.r, .int .i64 e.i] 33)).heap.size from by simp))
  generalize hW : (x.w.alloc (.cells #[.int .i64 e.d, .int .i64 e.q, .int .i64 e.a, .int .i64 e.t, .int .i64 e.k, .int .i64 e.b, .int .i64 e.p, .int .i64 e.r, .int .i64 e.i] 33)) = W at *
  clear hW
  generalize x.w.heap.size = bx at *
  have Hup := Lib.hid (Since.up hWup)
  rw [hy0]
  clear hy0
  replace HL := Lib.hid (HL.out.to hWup)
  clear hWup
  go_wp2_with (go_at_call 13; refine (new_s W _ (N : Int) hn1 (by omega)).mono ?_; rintro _ _ ⟨p, bm, y1, rfl, rfl, hz, hb, hR⟩; have HR := Lib.hid hR; have Hb := Lib.hid (Nat.le_trans (y0.b.size) hb); clear hR hb hz)
  go_loopw [9] (fun i wr => ∃ (k : Nat) (y : Since W), k ≤ l.length ∧ i = .int .i64 k ∧ wr = y.w ∧ RepAt y.w p bm N (addAll N [] (l.take k))) (fun i _ => l.length - (intOf i).toNat)
  case atStart => exact ⟨0, _, by omega, rfl, rfl, HR.out⟩
  case round =>
    obtain ⟨k, y, hk, rfl, rfl, hR⟩ := hrel
    replace HR := Lib.hid hR
    clear hR
    by_cases hlt : k < l.length
    · obtain ⟨e1, he⟩ : ∃ e, l[k]? = some e := ⟨_, List.getElem?_eq_getElem hlt⟩
      obtain ⟨b1, off1, rfl, h1'⟩ := Els.ev HL.out he
      have p0 := h1'.c0
      have p1 := h1'.c1
      have p2 := h1'.c2
      have p3 := h1'.c3
      have p4 := h1'.c4
      have p5 := h1'.c5
      have p6 := h1'.c6
      have p7 := h1'.c7
      have p8 := h1'.c8
      have Hnext := Lib.hid (addAll_take (N := N) he)
      have hk0 : (0 : Int) ≤ (k : Int) := by omega
      have hkl : (k : Int) < (l.length : Int) := by omega
      clear h1' he
      generalize addAll N [] (l.take k) = Lk at *
      go_wp2_with (go_at_call 16; refine (add_u W _ p bm N Lk e1 Hb.out HR.out).mono ?_; rintro _ _ ⟨rfl, y2, rfl, hR, hg⟩; replace HR := Lib.hid hR; clear hR hg)
      go_roundw
      case rel => exact ⟨k + 1, _, by omega, by go_num, rfl, by rw [Hnext.out]; exact HR.out⟩
      case measure => simp [intOf]; omega
    · obtain rfl : k = l.length := by omega
      have HI := Lib.hid (inv_addAll (N := N) (l.take l.length) [] (inv_nil N))
      generalize addAll N [] (l.take l.length) = L at *
      have hlen := HI.out.len
      have hs1 : (sortE L).length ≤ 512 := by rw [sortE_length]; exact hlen
      have Hs1 := Lib.hid (sortE_length L)
      have Hs2 := Lib.hid (seenL_length N L)
      have HI2 := Lib.hid (inv_add HI.out e)
      have Hs3 := Lib.hid (sortE_length (addL N L e))
      cases hf : freshB N L e with
      | false =>
        have hL2 := addL_same hf
        have Hf := Lib.hid hf
        have HL2 := Lib.hid hL2
        clear hf hL2
        have hne : (((seenL N L).length : Int) != (N : Int)) = false := by simp [Hs2.out]
        go_upto_region 11 with (first
          | (go_at_call 19; refine (events_s W _ p bm N L HR.out HI.out).mono ?_; rintro _ _ ⟨ea, ec, y1, rfl, rfl, hz, hrow⟩; replace HR := Lib.hid (HR.out.to hz); have Hx := Lib.hid hrow; clear hz hrow)
          | (go_at_call 23; refine (seen_s W _ p bm N L HR.out HI.out (by omega)).mono ?_; rintro _ _ ⟨ia, ic, y1, rfl, rfl, hz, hrow⟩; replace HR := Lib.hid (HR.out.to hz); replace Hx := Lib.hid (Hx.out.to hz); have Hs := Lib.hid hrow; clear hz hrow)
          | (go_at_call 24; refine (horizon_s W _ p bm N L HR.out HI.out (by omega)).mono ?_; rintro _ _ ⟨rfl, y1, rfl, hz⟩; replace HR := Lib.hid (HR.out.to hz); replace Hx := Lib.hid (Hx.out.to hz); replace Hs := Lib.hid (Hs.out.to hz); clear hz))
        have hadd := fun (y : Since W) h => add_u W y p bm N L e Hb.out h
        rw [Hf.out, HL2.out] at hadd
        have Hadd := Lib.hid hadd
        clear hadd
        generalize addE N L e = ae at *
        go_upto_region 12 with (go_at_call 16; refine (Hadd.out _ HR.out).mono ?_; rintro _ _ ⟨rfl, y1, rfl, hR, hg⟩; replace Hx := Lib.hid (Els.kept Hx.out HR.out hg); replace Hs := Lib.hid (Row.kept Hs.out HR.out hg); replace HR := Lib.hid hR; clear hR hg)
        go_upto_region 13 with (go_at_call 19; refine (events_s W _ p bm N L HR.out HI.out).mono ?_; rintro _ _ ⟨eb, ed, y1, rfl, rfl, hz, hrow⟩; replace HR := Lib.hid (HR.out.to hz); replace Hx := Lib.hid (Hx.out.to hz); replace Hs := Lib.hid (Hs.out.to hz); have Hy := Lib.hid hrow; clear hz hrow)
        have hc : (ae != 0) = true ∨ (ae != 0) = false := by cases (ae != 0) <;> simp
        rcases hc with hc | hc
        all_goals
          go_wp2_with (first
            | (go_at_call 21; refine (evcmp_s W _ ea eb (sortE L) (sortE L) ec ed true (by omega) (by omega) Hx.out Hy.out (decide_eq_true rfl)).mono ?_; rintro _ _ ⟨rfl, y2, rfl, hz⟩; replace HR := Lib.hid (HR.out.to hz); replace Hs := Lib.hid (Hs.out.to hz); clear hz)
            | (go_at_call 23; refine (seen_s W _ p bm N L HR.out HI.out (by omega)).mono ?_; rintro _ _ ⟨ib, id, y3, rfl, rfl, hz, hrow⟩; replace HR := Lib.hid (HR.out.to hz); replace Hs := Lib.hid (Hs.out.to hz); have Hs2 := Lib.hid hrow; clear hz hrow)
            | (go_at_call 22; refine (icmp_s W _ ib ia (seenL N L) (seenL N L) id ic true (by rw [seenL_length]; omega) (by rw [seenL_length]; omega) Hs2.out Hs.out (decide_eq_true rfl)).mono ?_; rintro _ _ ⟨rfl, y4, rfl, hz⟩; replace HR := Lib.hid (HR.out.to hz); clear hz)
            | (go_at_call 24; refine (horizon_s W _ p bm N L HR.out HI.out (by omega)).mono ?_; rintro _ _ ⟨rfl, y5, rfl, hz⟩; clear hz)
            | (go_at_call 12; refine (awake_s W _).mono ?_; rintro _ _ ⟨rfl, y6, rfl, -⟩))
          go_ret
          exact ⟨rfl, Hup.out _⟩
      | true =>
        have hag := add_again HI.out hf
        have h0 : addE N L e = 0 := by
          have := (freshB_iff.1 hf)
          exact addE_new this.1 this.2.1 this.2.2.1 this.2.2.2.1 this.2.2.2.2
        have hlen2 : (sortE (addL N L e)).length = (sortE L).length + 1 := by
          rw [Hs3.out, Hs1.out, addL_fresh hf]; simp
        have hmono : hor N L ≤ hor N (addL N L e) := hor_mono HI.out HI2.out (fun x hx => by rw [addL_fresh hf]; simp [hx])
        have hle : (((sortE (addL N L e)).length : Int) == ((sortE L).length : Int) + 1) = true := by simp [hlen2]
        have Hf := Lib.hid hf
        have Hag := Lib.hid hag
        have Hag2 := Lib.hid (addL_same hag.1)
        have H0 := Lib.hid h0
        clear hf hag h0 hlen2
        have hne : (((seenL N L).length : Int) != (N : Int)) = false := by simp [Hs2.out]
        have hadd := fun (y : Since W) h => add_u W y p bm N L e Hb.out h
        rw [Hf.out, H0.out] at hadd
        have Hadd := Lib.hid hadd
        have hadd2 := fun (y : Since W) h => add_u W y p bm N (addL N L e) e Hb.out h
        rw [Hag.out.1, Hag.out.2, Hag2.out] at hadd2
        have Hadd2 := Lib.hid hadd2
        clear hadd hadd2
        generalize addL N L e = L2 at *
        go_upto_region 11 with (first
          | (go_at_call 19; refine (events_s W _ p bm N L HR.out HI.out).mono ?_; rintro _ _ ⟨ea, ec, y1, rfl, rfl, hz, hrow⟩; replace HR := Lib.hid (HR.out.to hz); clear hz hrow)
          | (go_at_call 23; refine (seen_s W _ p bm N L HR.out HI.out (by omega)).mono ?_; rintro _ _ ⟨ia, ic, y1, rfl, rfl, hz, hrow⟩; replace HR := Lib.hid (HR.out.to hz); clear hz hrow)
          | (go_at_call 24; refine (horizon_s W _ p bm N L HR.out HI.out (by omega)).mono ?_; rintro _ _ ⟨rfl, y1, rfl, hz⟩; replace HR := Lib.hid (HR.out.to hz); clear hz))
        go_upto_region 12 with (go_at_call 16; refine (Hadd.out _ HR.out).mono ?_; rintro _ _ ⟨rfl, y1, rfl, hR, hg⟩; replace HR := Lib.hid hR; clear hR hg)
        go_upto_region 13 with (go_at_call 19; refine (events_s W _ p bm N L2 HR.out HI2.out).mono ?_; rintro _ _ ⟨eb, ed, y1, rfl, rfl, hz, hrow⟩; replace HR := Lib.hid (HR.out.to hz); clear hz hrow)
        go_wp2_with (first
            | (go_at_call 16; refine (Hadd2.out _ HR.out).mono ?_; rintro _ _ ⟨rfl, y1, rfl, hR, hg⟩; replace HR := Lib.hid hR; clear hR hg)
            | (go_at_call 24; refine (horizon_s W _ p bm N L2 HR.out HI2.out (by omega)).mono ?_; rintro _ _ ⟨rfl, y5, rfl, hz⟩; clear hz)
            | (go_at_call 12; refine (awake_s W _).mono ?_; rintro _ _ ⟨rfl, y6, rfl, -⟩))
        go_ret
        exact ⟨rfl, Hup.out _⟩
end Go.Proofs.Ytcpfogbjbinjcaa
