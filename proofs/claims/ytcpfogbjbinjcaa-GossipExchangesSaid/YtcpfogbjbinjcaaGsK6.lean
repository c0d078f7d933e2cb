/- The laws of replicas: GossipApart. -/
import Derived.Test.YtcpfogbjbinjcaaGsK5
set_option linter.all false
namespace Go.Proofs.Ytcpfogbjbinjcaa
open Go.RowKit Go.ChangeMaps

/-- cells of the call's own that may be written: each n-th of a slice -/
structure Mine (B : Nat) (w : World) (a : Option Addr) (n : Nat) : Prop where
  el : ∀ j, j < n → ∃ b off, a = some ⟨b, off, none⟩ ∧ B ≤ b ∧ (∃ v, w.cell? ⟨b, off + j, none⟩ = some v) ∧ w.frozen? ⟨b, off + j, none⟩ = false
theorem Mine.set {B : Nat} {w : World} {a : Option Addr} {n : Nat} (h : Mine B w a n) (p : Addr) (hp : p.spot = none) (v : Value) : Mine B (w.setCell p v) a n := by
  refine ⟨fun j hj => ?_⟩
  obtain ⟨b, off, ha, hb, ⟨u, hu⟩, hf⟩ := h.el j hj
  refine ⟨b, off, ha, hb, ?_, by rw [World.frozen?_setCell]; exact hf⟩
  obtain ⟨pb, po, ps⟩ := p
  simp only at hp
  subst hp
  by_cases hq : pb = b ∧ po = off + j
  · obtain ⟨rfl, rfl⟩ := hq
    exact ⟨v, World.cell?_setCell_same _ _ _ hu⟩
  · refine ⟨u, ?_⟩
    show ((w.setCells pb po [v]).cell? _) = _
    rw [World.cell?_setCells_out pb [v] po w ⟨b, off + j, none⟩ (fun h1 _ => by
      simp only [List.length_cons, List.length_nil]
      have h2 : b = pb := h1
      show off + j < po ∨ po + 1 ≤ off + j
      omega), hu]
theorem Mine.since {B : Nat} {w : World} {a : Option Addr} {n : Nat} (h : Mine B w a n) (y : Since w) (hlt : ∀ b, a = some b → b.block < w.heap.size) : Mine B y.w a n := by
  refine ⟨fun j hj => ?_⟩
  obtain ⟨b, off, ha, hb, ⟨u, hu⟩, hf⟩ := h.el j hj
  have := hlt _ ha
  exact ⟨b, off, ha, hb, ⟨u, Since.cell hu this y⟩, Since.free hf this y⟩
theorem eventsM_s (w : World) (y : Since w) (p bm : Nat) (n : Int) (l : List Ev) (hR : RepAt y.w p bm n l) (hI : Inv n l) :
    Calls Try.prog 19 #[.pointer (some ⟨p, 0, none⟩)] y.w fun o w' => ∃ (a : Option Addr) (cap : Nat) (z : Since y.w), o = .returned (.slice a (sortE l).length cap) ∧ w' = z.w ∧ Mine y.w.heap.size z.w a ((sortE l).length * 9) := by
  refine (events_calls y.w (Since.self y.w) p bm n l hR hI).mono ?_
  rintro _ w' ⟨a, cap, z, rfl, rfl, _, h, hb, hf⟩
  refine ⟨a, cap, z, rfl, rfl, ⟨fun j hj => ?_⟩⟩
  have hi : j / 9 < (sortE l).length := Nat.div_lt_of_lt_mul (by omega)
  obtain ⟨b, off, ha, _, hc⟩ := h (j / 9) _ (List.getElem?_eq_getElem hi)
  have hm : j % 9 < ((sortE l)[j / 9]).cs.length := by rw [cs_len]; omega
  have := hc (j % 9) _ (List.getElem?_eq_getElem hm)
  rw [show off + j / 9 * 9 + j % 9 = off + j by omega] at this
  exact ⟨b, off, ha, hb _ ha, ⟨_, this⟩, hf b off ha j hj⟩
theorem seenM_s (w : World) (y : Since w) (p bm N : Nat) (l : List Ev) (hR : RepAt y.w p bm N l) (hI : Inv N l) (hN : N ≤ 256) :
    Calls Try.prog 23 #[.pointer (some ⟨p, 0, none⟩)] y.w fun o w' => ∃ (a : Option Addr) (cap : Nat) (z : Since y.w), o = .returned (.slice a (seenL N l).length cap) ∧ w' = z.w ∧ Mine y.w.heap.size z.w a (seenL N l).length := by
  refine (seen_calls y.w (Since.self y.w) p bm N l hR hI hN).mono ?_
  rintro _ w' ⟨a, cap, z, rfl, rfl, _, h, hb, hf⟩
  refine ⟨a, cap, z, rfl, rfl, ⟨fun j hj => ?_⟩⟩
  obtain ⟨b, off, ha, _, hc⟩ := h j hj
  exact ⟨b, off, ha, hb _ ha, ⟨_, hc⟩, hf b off ha j hj⟩
set_option maxRecDepth 100000 in
set_option maxHeartbeats 16000000 in
theorem gossipApart_calls (w : World) (x : Since w) (n : Int) (la : Option Addr) (l : List Ev) (lc : Nat) (e : Ev) (hl : EvRow w la l) (hll : l.length ≤ 9223372036854775807) :
    Calls Try.prog 7 #[.int .i64 n, .slice la l.length lc, .agg #[.int .i64 e.d, .int .i64 e.q, .int .i64 e.a, .int .i64 e.t, .int .i64 e.k, .int .i64 e.b, .int .i64 e.p, .int .i64 e.r, .int .i64 e.i]] x.w fun o w' => o = .returned (.bool true) ∧ ∃ y : Since w, w' = y.w := by
  have HL := Lib.hid hl
  clear hl
  by_cases hbad : 40 < l.length ∨ n < 1 ∨ 12 < n
  · rcases (by omega : (40 < l.length) ∨ (l.length ≤ 40 ∧ n < 1) ∨ (l.length ≤ 40 ∧ 1 ≤ n ∧ 12 < n)) with h | ⟨h, h'⟩ | ⟨h, h', h''⟩
    all_goals
      clear hbad
      go_enter Try.func7, Try.ntmps7
      go_upto_region 1 with fail
      have hb0_0 : ∀ y : Since (x.w.alloc (.cells #[.int .i64 e.d, .int .i64 e.q, .int .i64 e.a, .int .i64 e.t, .int .i64 e.k, .int .i64 e.b, .int .i64 e.p, .int .i64 e.r, .int .i64 e.i] 33)), y.w.cell? ⟨x.w.heap.size, 0, none⟩ = some (.int .i64 e.d) := fun y => Since.cell (by simp [go_sem]) (by first | (simp; done) | (simp; omega)) y
      have hb0_1 : ∀ y : Since (x.w.alloc (.cells #[.int .i64 e.d, .int .i64 e.q, .int .i64 e.a, .int .i64 e.t, .int .i64 e.k, .int .i64 e.b, .int .i64 e.p, .int .i64 e.r, .int .i64 e.i] 33)), y.w.cell? ⟨x.w.heap.size, 1, none⟩ = some (.int .i64 e.q) := fun y => Since.cell (by simp [go_sem]) (by first | (simp; done) | (simp; omega)) y
      have hb0_2 : ∀ y : Since (x.w.alloc (.cells #[.int .i64 e.d, .int .i64 e.q, .int .i64 e.a, .int .i64 e.t, .int .i64 e.k, .int .i64 e.b, .int .i64 e.p, .int .i64 e.r, .int .i64 e.i] 33)), y.w.cell? ⟨x.w.heap.size, 2, none⟩ = some (.int .i64 e.a) := fun y => Since.cell (by simp [go_sem]) (by first | (simp; done) | (simp; omega)) y
      have hb0_3 : ∀ y : Since (x.w.alloc (.cells #[.int .i64 e.d, .int .i64 e.q, .int .i64 e.a, .int .i64 e.t, .int .i64 e.k, .int .i64 e.b, .int .i64 e.p, .int .i64 e.r, .int .i64 e.i] 33)), y.w.cell? ⟨x.w.heap.size, 3, none⟩ = some (.int .i64 e.t) := fun y => Since.cell (by simp [go_sem]) (by first | (simp; done) | (simp; omega)) y
      have hb0_4 : ∀ y : Since (x.w.alloc (.cells #[.int .i64 e.d, .int .i64 e.q, .int .i64 e.a, .int .i64 e.t, .int .i64 e.k, .int .i64 e.b, .int .i64 e.p, .int .i64 e.r, .int .i64 e.i] 33)), y.w.cell? ⟨x.w.heap.size, 4, none⟩ = some (.int .i64 e.k) := fun y => Since.cell (by simp [go_sem]) (by first | (simp; done) | (simp; omega)) y
      have hb0_5 : ∀ y : Since (x.w.alloc (.cells #[.int .i64 e.d, .int .i64 e.q, .int .i64 e.a, .int .i64 e.t, .int .i64 e.k, .int .i64 e.b, .int .i64 e.p, .int .i64 e.r, .int .i64 e.i] 33)), y.w.cell? ⟨x.w.heap.size, 5, none⟩ = some (.int .i64 e.b) := fun y => Since.cell (by simp [go_sem]) (by first | (simp; done) | (simp; omega)) y
      have hb0_6 : ∀ y : Since (x.w.alloc (.cells #[.int .i64 e.d, .int .i64 e.q, .int .i64 e.a, .int .i64 e.t, .int .i64 e.k, .int .i64 e.b, .int .i64 e.p, .int .i64 e.r, .int .i64 e.i] 33)), y.w.cell? ⟨x.w.heap.size, 6, none⟩ = some (.int .i64 e.p) := fun y => Since.cell (by simp [go_sem]) (by first | (simp; done) | (simp; omega)) y
      have hb0_7 : ∀ y : Since (x.w.alloc (.cells #[.int .i64 e.d, .int .i64 e.q, .int .i64 e.a, .int .i64 e.t, .int .i64 e.k, .int .i64 e.b, .int .i64 e.p, .int .i64 e.r, .int .i64 e.i] 33)), y.w.cell? ⟨x.w.heap.size, 7, none⟩ = some (.int .i64 e.r) := fun y => Since.cell (by simp [go_sem]) (by first | (simp; done) | (simp; omega)) y
      have hb0_8 : ∀ y : Since (x.w.alloc (.cells #[.int .i64 e.d, .int .i64 e.q, .int .i64 e.a, .int .i64 e.t, .int .i64 e.k, .int .i64 e.b, .int .i64 e.p, .int .i64 e.r, .int .i64 e.i] 33)), y.w.cell? ⟨x.w.heap.size, 8, none⟩ = some (.int .i64 e.i) := fun y => Since.cell (by simp [go_sem]) (by first | (simp; done) | (simp; omega)) y
      have hf0 : ∀ (y : Since (x.w.alloc (.cells #[.int .i64 e.d, .int .i64 e.q, .int .i64 e.a, .int .i64 e.t, .int .i64 e.k, .int .i64 e.b, .int .i64 e.p, .int .i64 e.r, .int .i64 e.i] 33))) (o : Nat), y.w.frozen? ⟨x.w.heap.size, o, none⟩ = false := fun y o => Since.free (by simp [go_sem]) (by first | (simp; done) | (simp; omega)) y
      have hWup : ∃ z : Since w, (x.w.alloc (.cells #[.int .i64 e.d, .int .i64 e.q, .int .i64 e.a, .int .i64 e.t, .int .i64 e.k, .int .i64 e.b, .int .i64 e.p, .int .i64 e.r, .int .i64 e.i] 33)) = z.w := x.alloc _
      obtain ⟨y0, hy0⟩ := Since.refl (x.w.alloc (.cells #[.int .i64 e.d, .int .i64 e.q, .int .i64 e.a, .int .i64 e.t, .int .i64 e.k, .int .i64 e.b, .int .i64 e.p, .int .i64 e.r, .int .i64 e.i] 33))
      have Hbx := Lib.hid (And.intro x.b.size (show x.w.heap.size + 1 = (x.w.alloc (.cells #[.int .i64 e.d, .int .i64 e.q, .int .i64 e.a, .int .i64 e.t, .int .i64 e.k, .int .i64 e.b, .int .i64 e.p, .int .i64 e.r, .int .i64 e.i] 33)).heap.size from by simp))
      generalize hW : (x.w.alloc (.cells #[.int .i64 e.d, .int .i64 e.q, .int .i64 e.a, .int .i64 e.t, .int .i64 e.k, .int .i64 e.b, .int .i64 e.p, .int .i64 e.r, .int .i64 e.i] 33)) = W at *
      clear hW
      generalize x.w.heap.size = bx at *
      have Hup := Lib.hid (Since.up hWup)
      rw [hy0]
      clear hy0
      clear hWup
      go_wp2_with (go_at_call 12; refine (awake_s W _).mono ?_; rintro _ _ ⟨rfl, y1, rfl, -⟩)
      go_ret
      exact ⟨rfl, Hup.out _⟩
  have hl40 : l.length ≤ 40 := by omega
  have hn1 : 1 ≤ n := by omega
  have hn12 : n ≤ 12 := by omega
  obtain ⟨N, rfl⟩ : ∃ N : Nat, n = N := ⟨n.toNat, by omega⟩
  clear hbad hll
  go_enter Try.func7, Try.ntmps7
  go_upto_region 1 with fail
  have hb0_0 : ∀ y : Since (x.w.alloc (.cells #[.int .i64 e.d, .int .i64 e.q, .int .i64 e.a, .int .i64 e.t, .int .i64 e.k, .int .i64 e.b, .int .i64 e.p, .int .i64 e.r, .int .i64 e.i] 33)), y.w.cell? ⟨x.w.heap.size, 0, none⟩ = some (.int .i64 e.d) := fun y => Since.cell (by simp [go_sem]) (by first | (simp; done) | (simp; omega)) y
  have hb0_1 : ∀ y : Since (x.w.alloc (.cells #[.int .i64 e.d, .int .i64 e.q, .int .i64 e.a, .int .i64 e.t, .int .i64 e.k, .int .i64 e.b, .int .i64 e.p, .int .i64 e.r, .int .i64 e.i] 33)), y.w.cell? ⟨x.w.heap.size, 1, none⟩ = some (.int .i64 e.q) := fun y => Since.cell (by simp [go_sem]) (by first | (simp; done) | (simp; omega)) y
  have hb0_2 : ∀ y : Since (x.w.alloc (.cells #[.int .i64 e.d, .int .i64 e.q, .int .i64 e.a, .int .i64 e.t, .int .i64 e.k, .int .i64 e.b, .int .i64 e.p, .int .i64 e.r, .int .i64 e.i] 33)), y.w.cell? ⟨x.w.heap.size, 2, none⟩ = some (.int .i64 e.a) := fun y => Since.cell (by simp [go_sem]) (by first | (simp; done) | (simp; omega)) y
  have hb0_3 : ∀ y : Since (x.w.alloc (.cells #[.int .i64 e.d, .int .i64 e.q, .int .i64 e.a, .int .i64 e.t, .int .i64 e.k, .int .i64 e.b, .int .i64 e.p, .int .i64 e.r, .int .i64 e.i] 33)), y.w.cell? ⟨x.w.heap.size, 3, none⟩ = some (.int .i64 e.t) := fun y => Since.cell (by simp [go_sem]) (by first | (simp; done) | (simp; omega)) y
  have hb0_4 : ∀ y : Since (x.w.alloc (.cells #[.int .i64 e.d, .int .i64 e.q, .int .i64 e.a, .int .i64 e.t, .int .i64 e.k, .int .i64 e.b, .int .i64 e.p, .int .i64 e.r, .int .i64 e.i] 33)), y.w.cell? ⟨x.w.heap.size, 4, none⟩ = some (.int .i64 e.k) := fun y => Since.cell (by simp [go_sem]) (by first | (simp; done) | (simp; omega)) y
  have hb0_5 : ∀ y : Since (x.w.alloc (.cells #[.int .i64 e.d, .int .i64 e.q, .int .i64 e.a, .int .i64 e.t, .int .i64 e.k, .int .i64 e.b, .int .i64 e.p, .int .i64 e.r, .int .i64 e.i] 33)), y.w.cell? ⟨x.w.heap.size, 5, none⟩ = some (.int .i64 e.b) := fun y => Since.cell (by simp [go_sem]) (by first | (simp; done) | (simp; omega)) y
  have hb0_6 : ∀ y : Since (x.w.alloc (.cells #[.int .i64 e.d, .int .i64 e.q, .int .i64 e.a, .int .i64 e.t, .int .i64 e.k, .int .i64 e.b, .int .i64 e.p, .int .i64 e.r, .int .i64 e.i] 33)), y.w.cell? ⟨x.w.heap.size, 6, none⟩ = some (.int .i64 e.p) := fun y => Since.cell (by simp [go_sem]) (by first | (simp; done) | (simp; omega)) y
  have hb0_7 : ∀ y : Since (x.w.alloc (.cells #[.int .i64 e.d, .int .i64 e.q, .int .i64 e.a, .int .i64 e.t, .int .i64 e.k, .int .i64 e.b, .int .i64 e.p, .int .i64 e.r, .int .i64 e.i] 33)), y.w.cell? ⟨x.w.heap.size, 7, none⟩ = some (.int .i64 e.r) := fun y => Since.cell (by simp [go_sem]) (by first | (simp; done) | (simp; omega)) y
  have hb0_8 : ∀ y : Since (x.w.alloc (.cells #[.int .i64 e.d, .int .i64 e.q, .int .i64 e.a, .int .i64 e.t, .int .i64 e.k, .int .i64 e.b, .int .i64 e.p, .int .i64 e.r, .int .i64 e.i] 33)), y.w.cell? ⟨x.w.heap.size, 8, none⟩ = some (.int .i64 e.i) := fun y => Since.cell (by simp [go_sem]) (by first | (simp; done) | (simp; omega)) y
  have hf0 : ∀ (y : Since (x.w.alloc (.cells #[.int .i64 e.d, .int .i64 e.q, .int .i64 e.a, .int .i64 e.t, .int .i64 e.k, .int .i64 e.b, .int .i64 e.p, .int .i64 e.r, .int .i64 e.i] 33))) (o : Nat), y.w.frozen? ⟨x.w.heap.size, o, none⟩ = false := fun y o => Since.free (by simp [go_sem]) (by first | (simp; done) | (simp; omega)) y
  have hWup : ∃ z : Since w, (x.w.alloc (.cells #[.int .i64 e.d, .int .i64 e.q, .int .i64 e.a, .int .i64 e.t, .int .i64 e.k, .int .i64 e.b, .int .i64 e.p, .int .i64 e.r, .int .i64 e.i] 33)) = z.w := x.alloc _
  obtain ⟨y0, hy0⟩ := Since.refl (x.w.alloc (.cells #[.int .i64 e.d, .int .i64 e.q, .int .i64 e.a, .int .i64 e.t, .int .i64 e.k, .int .i64 e.b, .int .i64 e.p, .int .i64 e.r, .int .i64 e.i] 33))
  have Hbx := Lib.hid (And.intro x.b.size (show x.w.heap.size + 1 = (x.w.alloc (.cells #[.int .i64 e.d, .int .i64 e.q, .int .i64 e.a, .int .i64 e.t, .int .i64 e.k, .int .i64 e.b, .int .i64 e.p, .int .i64 e.r, .int .i64 e.i] 33)).heap.size from by simp))
  generalize hW : (x.w.alloc (.cells #[.int .i64 e.d, .int .i64 e.q, .int .i64 e.a, .int .i64 e.t, .int .i64 e.k, .int .i64 e.b, .int .i64 e.p, .int .i64 e.r, .int .i64 e.i] 33)) = W at *
  clear hW
  generalize x.w.heap.size = bx at *
  have Hup := Lib.hid (Since.up hWup)
  rw [hy0]
  clear hy0
  replace HL := Lib.hid (HL.out.to hWup)
  clear hWup
  go_wp2_with (go_at_call 13; refine (new_s W _ (N : Int) hn1 (by omega)).mono ?_; rintro _ _ ⟨p, bm, y1, rfl, rfl, hz, hb, hR⟩; have HR := Lib.hid hR; have Hb := Lib.hid (Nat.le_trans (y0.b.size) hb); clear hR hb hz)
  go_loopw [9] (fun i wr => ∃ (k : Nat) (y : Since W), k ≤ l.length ∧ i = .int .i64 k ∧ wr = y.w ∧ RepAt y.w p bm N (addAll N [] (l.take k))) (fun i _ => l.length - (intOf i).toNat)
  case atStart => exact ⟨0, _, by omega, rfl, rfl, HR.out⟩
  case round =>
    obtain ⟨k, y, hk, rfl, rfl, hR⟩ := hrel
    replace HR := Lib.hid hR
    clear hR
    by_cases hlt : k < l.length
    · obtain ⟨e1, he⟩ : ∃ e, l[k]? = some e := ⟨_, List.getElem?_eq_getElem hlt⟩
      obtain ⟨b1, off1, rfl, h1'⟩ := Els.ev HL.out he
      have p0 := h1'.c0
      have p1 := h1'.c1
      have p2 := h1'.c2
      have p3 := h1'.c3
      have p4 := h1'.c4
      have p5 := h1'.c5
      have p6 := h1'.c6
      have p7 := h1'.c7
      have p8 := h1'.c8
      have Hnext := Lib.hid (addAll_take (N := N) he)
      have hk0 : (0 : Int) ≤ (k : Int) := by omega
      have hkl : (k : Int) < (l.length : Int) := by omega
      clear h1' he
      generalize addAll N [] (l.take k) = Lk at *
      go_wp2_with (go_at_call 16; refine (add_u W _ p bm N Lk e1 Hb.out HR.out).mono ?_; rintro _ _ ⟨rfl, y2, rfl, hR, hg⟩; replace HR := Lib.hid hR; clear hR hg)
      go_roundw
      case rel => exact ⟨k + 1, _, by omega, by go_num, rfl, by rw [Hnext.out]; exact HR.out⟩
      case measure => simp [intOf]; omega
    · obtain rfl : k = l.length := by omega
      have HI := Lib.hid (inv_addAll (N := N) (l.take l.length) [] (inv_nil N))
      generalize addAll N [] (l.take l.length) = L at *
      have hlen := HI.out.len
      have hs1 : (sortE L).length ≤ 512 := by rw [sortE_length]; exact hlen
      have hs2 : (seenL N L).length ≤ 256 := by rw [seenL_length]; omega
      have HI2 := Lib.hid (inv_add HI.out e)
      have hs3 : (sortE (addL N L e)).length ≤ 512 := by rw [sortE_length]; exact HI2.out.len
      have Hadd := Lib.hid (fun (y : Since W) p bm h h' => add_u W y p bm N L e h h')
      generalize addL N L e = L2 at *
      generalize addE N L e = ae at *
      generalize freshB N L e = fb at *
      go_upto_region 11 with (first
        | (go_at_call 19; refine (events_s W _ p bm N L HR.out HI.out).mono ?_; rintro _ _ ⟨ea, ec, y1, rfl, rfl, hz, hrow⟩; replace HR := Lib.hid (HR.out.to hz); have Hx := Lib.hid hrow; clear hz hrow)
        | (go_at_call 23; refine (seen_s W _ p bm N L HR.out HI.out (by omega)).mono ?_; rintro _ _ ⟨ia, ic, y1, rfl, rfl, hz, hrow⟩; replace HR := Lib.hid (HR.out.to hz); replace Hx := Lib.hid (Hx.out.to hz); have Hs := Lib.hid hrow; clear hz hrow))
      go_wp2_with fail
      refine (copy_s W _ p bm N L HR.out).mono ?_
      rintro _ _ ⟨pc, bmc, yc, rfl, rfl, hz, hb, hR⟩
      have Hne1 := Lib.hid (show bm ≠ bmc by have := HR.out.lt.2; omega)
      have Hbc := Lib.hid (Nat.le_trans (Since.b _).size hb)
      replace HR := Lib.hid (HR.out.to hz); replace Hx := Lib.hid (Hx.out.to hz); replace Hs := Lib.hid (Hs.out.to hz)
      have HRc := Lib.hid hR
      clear hz hb hR
      go_wp2_with fail
      refine (copy_s W _ p bm N L HR.out).mono ?_
      rintro _ _ ⟨pd, bmd, yd, rfl, rfl, hz, hb, hR⟩
      have Hne2 := Lib.hid (show bm ≠ bmd ∧ bmc ≠ bmd by have := HR.out.lt.2; have := HRc.out.lt.2; omega)
      replace HR := Lib.hid (HR.out.to hz); replace Hx := Lib.hid (Hx.out.to hz); replace Hs := Lib.hid (Hs.out.to hz); replace HRc := Lib.hid (HRc.out.to hz)
      have HRd := Lib.hid hR
      clear hz hb hR
      go_upto_region 15 with (go_at_call 16; refine (Hadd.out _ pc bmc Hbc.out HRc.out).mono ?_; rintro _ _ ⟨rfl, y1, rfl, hR, hg⟩; replace HR := Lib.hid (HR.out.keep HRc.out.m Hne1.out hg); replace HRd := Lib.hid (HRd.out.keep HRc.out.m Hne2.out.2.symm hg); replace Hx := Lib.hid (Els.kept Hx.out HRc.out hg); replace Hs := Lib.hid (Row.kept Hs.out HRc.out hg); replace HRc := Lib.hid hR; clear hR hg)
      go_upto_region 16 with (go_at_call 16; refine (Hadd.out _ p bm Hb.out HR.out).mono ?_; rintro _ _ ⟨rfl, y1, rfl, hR, hg⟩; replace HRc := Lib.hid (HRc.out.keep HR.out.m Hne1.out.symm hg); replace HRd := Lib.hid (HRd.out.keep HR.out.m Hne2.out.1.symm hg); replace Hx := Lib.hid (Els.kept Hx.out HR.out hg); replace Hs := Lib.hid (Row.kept Hs.out HR.out hg); replace HR := Lib.hid hR; clear hR hg)
      clear Hadd
      go_upto_region 18 with (first
        | (go_at_call 19; ((with_reducible refine (events_s W _ pd bmd N L HRd.out HI.out).mono ?_); rintro _ _ ⟨eb, ed, y1, rfl, rfl, hz, hrow⟩; have He1 := Lib.hid hrow; replace HR := Lib.hid (HR.out.to hz); replace HRc := Lib.hid (HRc.out.to hz); replace HRd := Lib.hid (HRd.out.to hz); replace Hx := Lib.hid (Hx.out.to hz); replace Hs := Lib.hid (Hs.out.to hz); clear hz hrow))
        | (go_at_call 21; ((with_reducible refine (evcmp_s W _ eb ea (sortE L) (sortE L) ed ec true (by omega) (by omega) He1.out Hx.out (decide_eq_true rfl)).mono ?_); rintro _ _ ⟨rfl, y2, rfl, hz⟩; replace HR := Lib.hid (HR.out.to hz); replace HRc := Lib.hid (HRc.out.to hz); replace HRd := Lib.hid (HRd.out.to hz); replace Hx := Lib.hid (Hx.out.to hz); replace Hs := Lib.hid (Hs.out.to hz); clear hz))
        | (go_at_call 23; ((with_reducible refine (seen_s W _ pd bmd N L HRd.out HI.out (by omega)).mono ?_); rintro _ _ ⟨ib, id, y1, rfl, rfl, hz, hrow⟩; have Hi1 := Lib.hid hrow; replace HR := Lib.hid (HR.out.to hz); replace HRc := Lib.hid (HRc.out.to hz); replace HRd := Lib.hid (HRd.out.to hz); replace Hx := Lib.hid (Hx.out.to hz); replace Hs := Lib.hid (Hs.out.to hz); clear hz hrow))
        | (go_at_call 22; ((with_reducible refine (icmp_s W _ ib ia (seenL N L) (seenL N L) id ic true (by omega) (by omega) Hi1.out Hs.out (decide_eq_true rfl)).mono ?_); rintro _ _ ⟨rfl, y2, rfl, hz⟩; replace HR := Lib.hid (HR.out.to hz); replace HRc := Lib.hid (HRc.out.to hz); replace HRd := Lib.hid (HRd.out.to hz); replace Hx := Lib.hid (Hx.out.to hz); replace Hs := Lib.hid (Hs.out.to hz); clear hz))
        | (go_at_call 19; ((with_reducible refine (events_s W _ pc bmc N L2 HRc.out HI2.out).mono ?_); rintro _ _ ⟨ga, gc, y1, rfl, rfl, hz, hrow⟩; have Hg1 := Lib.hid hrow; replace HR := Lib.hid (HR.out.to hz); replace HRd := Lib.hid (HRd.out.to hz); replace Hx := Lib.hid (Hx.out.to hz); replace Hs := Lib.hid (Hs.out.to hz); clear hz hrow))
        | (go_at_call 19; ((with_reducible refine (events_s W _ p bm N L2 HR.out HI2.out).mono ?_); rintro _ _ ⟨gb, gd, y1, rfl, rfl, hz, hrow⟩; have Hg2 := Lib.hid hrow; replace Hg1 := Lib.hid (Hg1.out.to hz); replace HRd := Lib.hid (HRd.out.to hz); replace Hx := Lib.hid (Hx.out.to hz); replace Hs := Lib.hid (Hs.out.to hz); clear hz hrow))
        | (go_at_call 21; ((with_reducible refine (evcmp_s W _ ga gb (sortE L2) (sortE L2) gc gd true (by omega) (by omega) Hg1.out Hg2.out (decide_eq_true rfl)).mono ?_); rintro _ _ ⟨rfl, y2, rfl, hz⟩; replace HRd := Lib.hid (HRd.out.to hz); replace Hx := Lib.hid (Hx.out.to hz); replace Hs := Lib.hid (Hs.out.to hz); clear hz)))
      clear HR HRc He1 Hi1 Hg1 Hg2
      go_wp2_with (go_at_call 19; refine (eventsM_s W _ pd bmd N L HRd.out HI.out).mono ?_; rintro _ _ ⟨ma, mc, z, rfl, rfl, hm⟩; have Hm := Lib.hid hm; clear hm)
      go_loopw [19] (fun i wr => ∃ (k : Nat) (z : Since y2.w), k ≤ (sortE L).length ∧ i = .int .i64 k ∧ wr = z.w ∧ Mine y2.w.heap.size z.w ma ((sortE L).length * 9)) (fun i _ => (sortE L).length - (intOf i).toNat)
      case atStart => exact ⟨0, z, by omega, rfl, rfl, Hm.out⟩
      case round =>
        obtain ⟨k, z, hk, rfl, rfl, hm⟩ := hrel
        replace Hm := Lib.hid hm
        clear hm
        by_cases hlt : k < (sortE L).length
        · obtain ⟨b, off, rfl, hB, ⟨v, hv⟩, hf⟩ := Hm.out.el (k * 9 + 1) (by omega)
          have hk0 : (0 : Int) ≤ (k : Int) := by omega
          have hkl : (k : Int) < ((sortE L).length : Int) := by omega
          rw [← Nat.add_assoc] at hv hf
          obtain ⟨z4, h4⟩ := z.set ⟨b, off + k * 9 + 1, none⟩ hB (.int .i64 (-1))
          have H4 := Lib.hid h4
          clear h4
          go_wp2_with fail
          go_roundw
          case rel => exact ⟨k + 1, z4, by omega, by go_num, H4.out, H4.out ▸ Hm.out.set _ rfl _⟩
          case measure => simp [intOf]; omega
        · obtain rfl : k = (sortE L).length := by omega
          replace HRd := Lib.hid (HRd.out.since z); replace Hx := Lib.hid (Since.els Hx.out z); replace Hs := Lib.hid (Since.row Hs.out z)
          obtain ⟨y3, e3⟩ := y2.trans z
          rw [e3] at HRd Hx Hs ⊢
          clear e3 Hm
          go_wp2_with (go_at_call 23; refine (seenM_s W _ pd bmd N L HRd.out HI.out (by omega)).mono ?_; rintro _ _ ⟨na, nc, z2, rfl, rfl, hm⟩; have Hm := Lib.hid hm; clear hm)
          go_loopw [21] (fun i wr => ∃ (k : Nat) (z : Since y3.w), k ≤ (seenL N L).length ∧ i = .int .i64 k ∧ wr = z.w ∧ Mine y3.w.heap.size z.w na (seenL N L).length) (fun i _ => (seenL N L).length - (intOf i).toNat)
          case atStart => exact ⟨0, z2, by omega, rfl, rfl, Hm.out⟩
          case round =>
            obtain ⟨k, z, hk, rfl, rfl, hm⟩ := hrel
            replace Hm := Lib.hid hm
            clear hm
            by_cases hlt : k < (seenL N L).length
            · obtain ⟨b, off, rfl, hB, ⟨v, hv⟩, hf⟩ := Hm.out.el k hlt
              have hk0 : (0 : Int) ≤ (k : Int) := by omega
              have hkl : (k : Int) < ((seenL N L).length : Int) := by omega
              obtain ⟨z4, h4⟩ := z.set ⟨b, off + k, none⟩ hB (.int .i64 (-1))
              have H4 := Lib.hid h4
              clear h4
              go_wp2_with fail
              go_roundw
              case rel => exact ⟨k + 1, z4, by omega, by go_num, H4.out, H4.out ▸ Hm.out.set _ rfl _⟩
              case measure => simp [intOf]; omega
            · obtain rfl : k = (seenL N L).length := by omega
              replace HRd := Lib.hid (HRd.out.since z); replace Hx := Lib.hid (Since.els Hx.out z); replace Hs := Lib.hid (Since.row Hs.out z)
              obtain ⟨y4, e4⟩ := y3.trans z
              rw [e4] at HRd Hx Hs ⊢
              clear e4 Hm
              go_wp2_with (first
                | (go_at_call 19; ((with_reducible refine (events_s W _ pd bmd N L HRd.out HI.out).mono ?_); rintro _ _ ⟨eb, ed, y5, rfl, rfl, hz, hrow⟩; have He1 := Lib.hid hrow; replace HRd := Lib.hid (HRd.out.to hz); replace Hx := Lib.hid (Hx.out.to hz); replace Hs := Lib.hid (Hs.out.to hz); clear hz hrow))
                | (go_at_call 21; ((with_reducible refine (evcmp_s W _ eb ea (sortE L) (sortE L) ed ec true (by omega) (by omega) He1.out Hx.out (decide_eq_true rfl)).mono ?_); rintro _ _ ⟨rfl, y6, rfl, hz⟩; replace HRd := Lib.hid (HRd.out.to hz); replace Hs := Lib.hid (Hs.out.to hz); clear hz))
                | (go_at_call 23; ((with_reducible refine (seen_s W _ pd bmd N L HRd.out HI.out (by omega)).mono ?_); rintro _ _ ⟨ib, id, y5, rfl, rfl, hz, hrow⟩; have Hi1 := Lib.hid hrow; replace Hs := Lib.hid (Hs.out.to hz); clear hz hrow))
                | (go_at_call 22; ((with_reducible refine (icmp_s W _ ib ia (seenL N L) (seenL N L) id ic true (by omega) (by omega) Hi1.out Hs.out (decide_eq_true rfl)).mono ?_); rintro _ _ ⟨rfl, y6, rfl, hz⟩; clear hz))
                | (go_at_call 12; refine (awake_s W _).mono ?_; rintro _ _ ⟨rfl, y6, rfl, -⟩))
              go_ret
              exact ⟨rfl, Hup.out _⟩
end Go.Proofs.Ytcpfogbjbinjcaa
