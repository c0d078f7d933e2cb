/- The walks of replicas, the references, second part: Add. -/
import Derived.Test.YtcpfogbjbinjcaaGsR1
import Derived.Test.YtcpfogbjbinjcaaGsW7
set_option linter.all false
namespace Go.Proofs.Ytcpfogbjbinjcaa
open Go.RowKit Go.ChangeMaps

/-- what the reference's Add gives back -/
def RAddPost (w : World) (n : Int) (l : List Ev) (e : Ev) (o : Ending) (w' : World) : Prop :=
  ∃ (a : Option Addr) (cap : Nat) (y : Since w), o = .returned (.tuple #[.slice a (addL n l e).length cap, .bool (freshB n l e), .int .i64 (addE n l e)]) ∧ w' = y.w ∧ (addL n l e).length ≤ cap ∧ (a = none → cap = 0) ∧ EvRow y.w a (addL n l e)
theorem RAddPost.fail {w : World} {n : Int} {l : List Ev} {e : Ev} {a : Option Addr} {cap : Nat} (k : Int) (hk : addE n l e = k) (hf : freshB n l e = false) (hr : EvRow w a l) (hc : l.length ≤ cap) (hn : a = none → cap = 0) {w' : World} (h : ∃ y : Since w, w' = y.w) :
    RAddPost w n l e (.returned (.tuple #[.slice a l.length cap, .bool false, .int .i64 k])) w' := by
  obtain ⟨y, rfl⟩ := h
  refine ⟨a, cap, y, ?_, rfl, ?_, hn, ?_⟩
  · rw [addL_same hf, hf, hk]
  · rw [addL_same hf]; exact hc
  · rw [addL_same hf]; exact Since.els hr y
theorem RAddPost.done {w wq : World} {n : Int} {l : List Ev} {e : Ev} {a : Option Addr} {cap : Nat} (hk : addE n l e = 0) (hf : freshB n l e = true) (hc : (l ++ [e]).length ≤ cap) (hels : EvRow wq a (l ++ [e])) (hq : ∃ z : Since w, wq = z.w) :
    RAddPost w n l e (.returned (.tuple #[.slice a (l ++ [e]).length cap, .bool true, .int .i64 0])) wq := by
  obtain ⟨z, rfl⟩ := hq
  refine ⟨a, cap, z, by rw [addL_fresh hf, hf, hk], rfl, by rw [addL_fresh hf]; exact hc, fun ha => ?_, by rw [addL_fresh hf]; exact hels⟩
  obtain ⟨b, off, hb, _⟩ := hels 0 ((l ++ [e])[0]'(by simp)) (List.getElem?_eq_getElem (by simp))
  rw [ha] at hb; cases hb
theorem findE_at {l : List Ev} {e x : Ev} : ∀ {k : Nat}, l[k]? = some x → (∀ j, j < k → ∀ y, l[j]? = some y → sk y e = false) → sk x e = true → findE l e = some x := by
  induction l with
  | nil => intro k h; simp at h
  | cons z l ih =>
    intro k h hp hs
    unfold findE
    cases k with
    | zero =>
      simp at h; subst h
      rw [List.find?_cons, hs]
    | succ k =>
      have hz := hp 0 (by omega) z rfl
      rw [List.find?_cons, hz]
      exact ih (by simpa using h) (fun j hj y hy => hp (j + 1) (by omega) y (by simpa using hy)) hs
theorem none_at {l : List Ev} {p : Ev → Bool} (h : ∀ j, j < l.length → ∀ y, l[j]? = some y → p y = false) : ∀ x ∈ l, p x = false := fun x hx => by
  obtain ⟨j, hj⟩ := List.mem_iff_getElem?.1 hx
  exact h j (List.getElem?_eq_some_iff.1 hj).1 x hj

set_option maxRecDepth 100000 in
set_option maxHeartbeats 8000000 in
theorem radd_calls (w : World) (x : Since w) (n : Int) (a : Option Addr) (l : List Ev) (cap : Nat) (e : Ev) (hr : EvRow w a l) (hc : l.length ≤ cap) (hn : a = none → cap = 0) (hl : l.length ≤ 9223372036854775807) :
    Calls Try.prog 15 #[.int .i64 n, .slice a l.length cap, e.ag] x.w (RAddPost w n l e) := by
  have hag : e.ag = .agg #[.int .i64 e.d, .int .i64 e.q, .int .i64 e.a, .int .i64 e.t, .int .i64 e.k, .int .i64 e.b, .int .i64 e.p, .int .i64 e.r, .int .i64 e.i] := rfl
  have hr0 := Lib.hid hr
  have Hn := hn
  have hrest : ∀ (k : Int), addE n l e = k → freshB n l e = false → ∀ w', (∃ y : Since w, w' = y.w) → RAddPost w n l e (.returned (.tuple #[.slice a l.length cap, .bool false, .int .i64 k])) w' := fun k h1 h2 w' h3 => RAddPost.fail k h1 h2 hr hc hn h3
  have Hrest := Lib.hid hrest
  clear hrest
  rw [hag]
  go_enter Try.func15, Try.ntmps15
  go_upto_region 1 with fail
  have hb0_0 : ∀ y : Since (x.w.alloc (.cells #[.int .i64 e.d, .int .i64 e.q, .int .i64 e.a, .int .i64 e.t, .int .i64 e.k, .int .i64 e.b, .int .i64 e.p, .int .i64 e.r, .int .i64 e.i] 33)), y.w.cell? ⟨x.w.heap.size, 0, none⟩ = some (.int .i64 e.d) := fun y => Since.cell (by simp [go_sem]) (by first | (simp; done) | (simp; omega)) y
  have hb0_1 : ∀ y : Since (x.w.alloc (.cells #[.int .i64 e.d, .int .i64 e.q, .int .i64 e.a, .int .i64 e.t, .int .i64 e.k, .int .i64 e.b, .int .i64 e.p, .int .i64 e.r, .int .i64 e.i] 33)), y.w.cell? ⟨x.w.heap.size, 1, none⟩ = some (.int .i64 e.q) := fun y => Since.cell (by simp [go_sem]) (by first | (simp; done) | (simp; omega)) y
  have hb0_2 : ∀ y : Since (x.w.alloc (.cells #[.int .i64 e.d, .int .i64 e.q, .int .i64 e.a, .int .i64 e.t, .int .i64 e.k, .int .i64 e.b, .int .i64 e.p, .int .i64 e.r, .int .i64 e.i] 33)), y.w.cell? ⟨x.w.heap.size, 2, none⟩ = some (.int .i64 e.a) := fun y => Since.cell (by simp [go_sem]) (by first | (simp; done) | (simp; omega)) y
  have hb0_3 : ∀ y : Since (x.w.alloc (.cells #[.int .i64 e.d, .int .i64 e.q, .int .i64 e.a, .int .i64 e.t, .int .i64 e.k, .int .i64 e.b, .int .i64 e.p, .int .i64 e.r, .int .i64 e.i] 33)), y.w.cell? ⟨x.w.heap.size, 3, none⟩ = some (.int .i64 e.t) := fun y => Since.cell (by simp [go_sem]) (by first | (simp; done) | (simp; omega)) y
  have hb0_4 : ∀ y : Since (x.w.alloc (.cells #[.int .i64 e.d, .int .i64 e.q, .int .i64 e.a, .int .i64 e.t, .int .i64 e.k, .int .i64 e.b, .int .i64 e.p, .int .i64 e.r, .int .i64 e.i] 33)), y.w.cell? ⟨x.w.heap.size, 4, none⟩ = some (.int .i64 e.k) := fun y => Since.cell (by simp [go_sem]) (by first | (simp; done) | (simp; omega)) y
  have hb0_5 : ∀ y : Since (x.w.alloc (.cells #[.int .i64 e.d, .int .i64 e.q, .int .i64 e.a, .int .i64 e.t, .int .i64 e.k, .int .i64 e.b, .int .i64 e.p, .int .i64 e.r, .int .i64 e.i] 33)), y.w.cell? ⟨x.w.heap.size, 5, none⟩ = some (.int .i64 e.b) := fun y => Since.cell (by simp [go_sem]) (by first | (simp; done) | (simp; omega)) y
  have hb0_6 : ∀ y : Since (x.w.alloc (.cells #[.int .i64 e.d, .int .i64 e.q, .int .i64 e.a, .int .i64 e.t, .int .i64 e.k, .int .i64 e.b, .int .i64 e.p, .int .i64 e.r, .int .i64 e.i] 33)), y.w.cell? ⟨x.w.heap.size, 6, none⟩ = some (.int .i64 e.p) := fun y => Since.cell (by simp [go_sem]) (by first | (simp; done) | (simp; omega)) y
  have hb0_7 : ∀ y : Since (x.w.alloc (.cells #[.int .i64 e.d, .int .i64 e.q, .int .i64 e.a, .int .i64 e.t, .int .i64 e.k, .int .i64 e.b, .int .i64 e.p, .int .i64 e.r, .int .i64 e.i] 33)), y.w.cell? ⟨x.w.heap.size, 7, none⟩ = some (.int .i64 e.r) := fun y => Since.cell (by simp [go_sem]) (by first | (simp; done) | (simp; omega)) y
  have hb0_8 : ∀ y : Since (x.w.alloc (.cells #[.int .i64 e.d, .int .i64 e.q, .int .i64 e.a, .int .i64 e.t, .int .i64 e.k, .int .i64 e.b, .int .i64 e.p, .int .i64 e.r, .int .i64 e.i] 33)), y.w.cell? ⟨x.w.heap.size, 8, none⟩ = some (.int .i64 e.i) := fun y => Since.cell (by simp [go_sem]) (by first | (simp; done) | (simp; omega)) y
  have hf0 : ∀ (y : Since (x.w.alloc (.cells #[.int .i64 e.d, .int .i64 e.q, .int .i64 e.a, .int .i64 e.t, .int .i64 e.k, .int .i64 e.b, .int .i64 e.p, .int .i64 e.r, .int .i64 e.i] 33))) (o : Nat), y.w.frozen? ⟨x.w.heap.size, o, none⟩ = false := fun y o => Since.free (by simp [go_sem]) (by first | (simp; done) | (simp; omega)) y
  have hWup : ∃ z : Since w, (x.w.alloc (.cells #[.int .i64 e.d, .int .i64 e.q, .int .i64 e.a, .int .i64 e.t, .int .i64 e.k, .int .i64 e.b, .int .i64 e.p, .int .i64 e.r, .int .i64 e.i] 33)) = z.w := x.alloc _
  obtain ⟨y0, hy0⟩ := Since.refl (x.w.alloc (.cells #[.int .i64 e.d, .int .i64 e.q, .int .i64 e.a, .int .i64 e.t, .int .i64 e.k, .int .i64 e.b, .int .i64 e.p, .int .i64 e.r, .int .i64 e.i] 33))
  have Hbx := Lib.hid (And.intro x.b.size (show x.w.heap.size + 1 = (x.w.alloc (.cells #[.int .i64 e.d, .int .i64 e.q, .int .i64 e.a, .int .i64 e.t, .int .i64 e.k, .int .i64 e.b, .int .i64 e.p, .int .i64 e.r, .int .i64 e.i] 33)).heap.size from by simp))
  generalize hW : (x.w.alloc (.cells #[.int .i64 e.d, .int .i64 e.q, .int .i64 e.a, .int .i64 e.t, .int .i64 e.k, .int .i64 e.b, .int .i64 e.p, .int .i64 e.r, .int .i64 e.i] 33)) = W at *
  clear hW
  generalize x.w.heap.size = bx at *
  have Hup := Lib.hid (Since.up hWup)
  rw [hy0]
  clear hy0
  replace hr := hr.to hWup
  clear hWup
  by_cases hdev : e.d < 0 ∨ n ≤ e.d
  · have h7 := Lib.hid (addE_dev (l := l) hdev)
    have hfr := Lib.hid (fresh_no (n := n) (l := l) (e := e) (by rw [h7.out]; omega))
    rcases (by omega : e.d < 0 ∨ (0 ≤ e.d ∧ n ≤ e.d)) with h | ⟨h, h'⟩
    all_goals
      clear hdev
      go_wp2_with fail
      go_ret3
      exact Hrest.out 7 h7.out hfr.out _ (Hup.out _)
  · obtain ⟨d0, d1⟩ : 0 ≤ e.d ∧ e.d < n := by omega
    by_cases hrng : rngB e = false
    · have h1 := Lib.hid (addE_rng (l := l) hdev hrng)
      have hfr := Lib.hid (fresh_no (n := n) (l := l) (e := e) (by rw [h1.out]; omega))
      have hcc : (e.q < 1) ∨ (1 ≤ e.q ∧ 1048576 < e.q) ∨ (1 ≤ e.q ∧ e.q ≤ 1048576 ∧ e.a < 0) ∨ (1 ≤ e.q ∧ e.q ≤ 1048576 ∧ 0 ≤ e.a ∧ e.t < e.a) ∨ (1 ≤ e.q ∧ e.q ≤ 1048576 ∧ 0 ≤ e.a ∧ e.a ≤ e.t ∧ 4294943999 < e.t) := by
        have hn : ¬ rngB e = true := by rw [hrng]; simp
        rw [rngB_iff] at hn; omega
      clear hrng hdev
      rcases hcc with h | ⟨h, h'⟩ | ⟨h, h', h''⟩ | ⟨h, h', h'', h3⟩ | ⟨h, h', h'', h3, h4⟩
      all_goals
        go_wp2_with fail
        go_ret3
        exact Hrest.out 1 h1.out hfr.out _ (Hup.out _)
    · have hrng' : rngB e = true := by cases hh : rngB e; exact (hrng hh).elim; rfl
      obtain ⟨r0, r1, r2, r3, r4⟩ := (rngB_iff e).1 hrng'
      have Hdev := Lib.hid hdev
      have Hrng := Lib.hid hrng'
      clear hrng hrng' hdev
      go_wp2_with fail
      go_loopw [9] (fun i wr => ∃ k : Nat, k ≤ l.length ∧ i = .int .i64 k ∧ (∀ j, j < k → ∀ y, l[j]? = some y → sk y e = false) ∧ ∃ y : Since W, wr = y.w) (fun i _ => l.length - (intOf i).toNat)
      case atStart => exact ⟨0, by omega, rfl, fun j hj => by omega, _, rfl⟩
      case round =>
        obtain ⟨k, hk, rfl, hok, y, rfl⟩ := hrel
        have Hok := Lib.hid hok; clear hok
        by_cases hlt : k < l.length
        · obtain ⟨u, hu⟩ : ∃ u, l[k]? = some u := ⟨_, List.getElem?_eq_getElem hlt⟩
          obtain ⟨b1, off1, rfl, h1⟩ := Els.ev hr hu
          have p0 := h1.c0
          have p1 := h1.c1
          have p2 := h1.c2
          have p3 := h1.c3
          have p4 := h1.c4
          have p5 := h1.c5
          have p6 := h1.c6
          have p7 := h1.c7
          have p8 := h1.c8
          have hk0 : (0 : Int) ≤ (k : Int) := by omega
          have hkl : (k : Int) < (l.length : Int) := by omega
          have heq := ev_equal u e
          simp only [Ev.ag] at heq
          have hgd := ev_guard
          have Hu := Lib.hid hu
          clear hr h1 hu
          by_cases he : u = e
          · have hx0 := Lib.hid ((addE_found (n := n) Hdev.out Hrng.out (findE_at Hu.out Hok.out (by rw [he]; exact sk_self e))).trans (if_pos he))
            have hfr : freshB n l e = false := by unfold freshB; rw [findE_at Hu.out Hok.out (by rw [he]; exact sk_self e)]; simp
            have Hfr := Lib.hid hfr
            rw [decide_eq_true he] at heq
            clear hfr he
            go_wp2_with fail
            refine wp_region_since (by kernel_rfl) (by kernel_rfl) ?_
            repeat (go_big_quiet_step (fail))
            refine wpQuiet_nil ?_
            rintro _ ⟨y, rfl⟩
            go_wp2_with fail
            go_ret3
            exact Hrest.out 0 hx0.out Hfr.out _ (Hup.out _)
          · rw [decide_eq_false he] at heq
            by_cases hsk : sk u e = true
            · have hx0 := Lib.hid ((addE_found (n := n) Hdev.out Hrng.out (findE_at Hu.out Hok.out hsk)).trans (if_neg he))
              have hfr := Lib.hid (fresh_no (n := n) (l := l) (e := e) (by rw [hx0.out]; omega))
              obtain ⟨s1, s2⟩ := (sk_iff u e).1 hsk
              have t1 : (u.d == e.d) = true := by simpa using s1
              have t2 : (u.q == e.q) = true := by simpa using s2
              clear hsk he s1 s2
              go_wp2_with fail
              refine wp_region_since (by kernel_rfl) (by kernel_rfl) ?_
              repeat (go_big_quiet_step (fail))
              refine wpQuiet_nil ?_
              rintro _ ⟨y, rfl⟩
              go_wp2_with fail
              refine wp_region_since (by kernel_rfl) (by kernel_rfl) ?_
              repeat (go_big_quiet_step (fail))
              refine wpQuiet_nil ?_
              rintro _ ⟨y, rfl⟩
              go_wp2_with fail
              go_ret3
              exact Hrest.out 21 hx0.out hfr.out _ (Hup.out _)
            · have hskf : sk u e = false := by cases hh : sk u e; rfl; exact (hsk hh).elim
              have hok2 : ∀ j, j < k + 1 → ∀ y, l[j]? = some y → sk y e = false := fun j hj z hz => by
                by_cases hjk : j < k
                · exact Hok.out j hjk z hz
                · obtain rfl : j = k := by omega
                  rw [Hu.out] at hz; cases hz; exact hskf
              have Hok2 := Lib.hid hok2
              have hcs : ((u.d == e.d) = false) ∨ ((u.d == e.d) = true ∧ (u.q == e.q) = false) := by
                by_cases h1 : u.d = e.d
                · refine .inr ⟨by simpa using h1, ?_⟩
                  have : u.q ≠ e.q := fun h2 => hsk ((sk_iff u e).2 ⟨h1, h2⟩)
                  simpa using this
                · exact .inl (by simpa using h1)
              clear hok2 hsk hskf he
              rcases hcs with t1 | ⟨t1, t2⟩
              all_goals
                go_wp2_with fail
                refine wp_region_since (by kernel_rfl) (by kernel_rfl) ?_
                repeat (go_big_quiet_step (fail))
                refine wpQuiet_nil ?_
                rintro _ ⟨y, rfl⟩
                go_wp2_with fail
                refine wp_region_since (by kernel_rfl) (by kernel_rfl) ?_
                repeat (go_big_quiet_step (fail))
                refine wpQuiet_nil ?_
                rintro _ ⟨y, rfl⟩
                go_wp2_with fail
                go_roundw
                case rel => exact ⟨k + 1, by omega, by go_num, Hok2.out, _, rfl⟩
                case measure => simp [intOf]; omega
        · obtain rfl : k = l.length := by omega
          have Hf := Lib.hid ((findE_none l e).2 (none_at Hok.out))
          clear Hok
          go_wp2_with fail
          go_loopw [10] (fun i wr => ∃ k : Nat, k ≤ l.length ∧ i = .int .i64 k ∧ (∀ j, j < k → ∀ y, l[j]? = some y → late y e = false) ∧ ∃ y : Since W, wr = y.w) (fun i _ => l.length - (intOf i).toNat)
          case atStart => exact ⟨0, by omega, rfl, fun j hj => by omega, y, rfl⟩
          case round =>
            obtain ⟨k, hk, rfl, hok, y, rfl⟩ := hrel
            have Hok := Lib.hid hok; clear hok
            by_cases hlt : k < l.length
            · obtain ⟨u, hu⟩ : ∃ u, l[k]? = some u := ⟨_, List.getElem?_eq_getElem hlt⟩
              obtain ⟨b1, off1, rfl, h1⟩ := Els.ev hr hu
              have p0 := h1.c0
              have p1 := h1.c1
              have p2 := h1.c2
              have p3 := h1.c3
              have p4 := h1.c4
              have p5 := h1.c5
              have p6 := h1.c6
              have p7 := h1.c7
              have p8 := h1.c8
              have hk0 : (0 : Int) ≤ (k : Int) := by omega
              have hkl : (k : Int) < (l.length : Int) := by omega
              have Hu := Lib.hid hu
              clear hr h1 hu
              cases hlate : late u e with
              | true =>
                have hnf : fitsB l e = false := fits_no Hu.out hlate
                have hx0 := Lib.hid (addE_order (n := n) Hdev.out Hrng.out Hf.out hnf)
                have hfr := Lib.hid (fresh_no (n := n) (l := l) (e := e) (by rw [hx0.out]; omega))
                have hcs : ((u.d == e.d) = true ∧ decide (u.q < e.q) = true ∧ decide (e.a < u.a) = true) ∨ ((u.d == e.d) = true ∧ decide (u.q < e.q) = false ∧ decide (e.q < u.q) = true ∧ decide (u.a < e.a) = true) := by
                  obtain ⟨h1, h2⟩ := (late_iff u e).1 hlate
                  rcases h2 with ⟨h2, h3⟩ | ⟨h2, h3⟩
                  · exact .inl ⟨by simpa using h1, decide_eq_true h2, decide_eq_true h3⟩
                  · exact .inr ⟨by simpa using h1, decide_eq_false (by omega), decide_eq_true h2, decide_eq_true h3⟩
                clear hlate hnf
                rcases hcs with ⟨t1, t2, t3⟩ | ⟨t1, t2, t3, t4⟩
                all_goals
                  go_wp2_with fail
                  refine wp_region_since (by kernel_rfl) (by kernel_rfl) ?_
                  repeat (go_big_quiet_step (fail))
                  refine wpQuiet_nil ?_
                  rintro _ ⟨y, rfl⟩
                  go_wp2_with fail
                  go_ret3
                  exact Hrest.out 9 hx0.out hfr.out _ (Hup.out _)
              | false =>
                have hok2 : ∀ j, j < k + 1 → ∀ y, l[j]? = some y → late y e = false := fun j hj z hz => by
                  by_cases hjk : j < k
                  · exact Hok.out j hjk z hz
                  · obtain rfl : j = k := by omega
                    rw [Hu.out] at hz; cases hz; exact hlate
                have Hok2 := Lib.hid hok2
                have hcs : ((u.d == e.d) = false) ∨ ((u.d == e.d) = true ∧ decide (u.q < e.q) = true ∧ decide (e.a < u.a) = false ∧ decide (e.q < u.q) = false) ∨ ((u.d == e.d) = true ∧ decide (u.q < e.q) = false ∧ decide (e.q < u.q) = true ∧ decide (u.a < e.a) = false) ∨ ((u.d == e.d) = true ∧ decide (u.q < e.q) = false ∧ decide (e.q < u.q) = false) := by
                  have hl2 := late_false.1 hlate
                  by_cases h1 : u.d = e.d
                  · by_cases h2 : u.q < e.q
                    · exact .inr (.inl ⟨by simpa using h1, decide_eq_true h2, decide_eq_false (by have := hl2.1 h1 h2; omega), decide_eq_false (by omega)⟩)
                    · by_cases h3 : e.q < u.q
                      · exact .inr (.inr (.inl ⟨by simpa using h1, decide_eq_false h2, decide_eq_true h3, decide_eq_false (by have := hl2.2 h1 h3; omega)⟩))
                      · exact .inr (.inr (.inr ⟨by simpa using h1, decide_eq_false h2, decide_eq_false h3⟩))
                  · exact .inl (by simpa using h1)
                clear hlate hok2
                rcases hcs with t1 | ⟨t1, t2, t3, t4⟩ | ⟨t1, t2, t3, t4⟩ | ⟨t1, t2, t3⟩
                all_goals
                  go_wp2_with fail
                  refine wp_region_since (by kernel_rfl) (by kernel_rfl) ?_
                  repeat (go_big_quiet_step (fail))
                  refine wpQuiet_nil ?_
                  rintro _ ⟨y, rfl⟩
                  go_wp2_with fail
                  go_roundw
                  case rel => exact ⟨k + 1, by omega, by go_num, Hok2.out, _, rfl⟩
                  case measure => simp [intOf]; omega
            · obtain rfl : k = l.length := by omega
              have hfit : fitsB l e = true := (fitsB_iff l e).2 (none_at Hok.out)
              by_cases hfull : 512 ≤ l.length
              · have hx0 := Lib.hid (addE_full (n := n) Hdev.out Hrng.out Hf.out hfit hfull)
                have hfr := Lib.hid (fresh_no (n := n) (l := l) (e := e) (by rw [hx0.out]; omega))
                clear hr hfit
                go_wp2_with fail
                go_ret3
                exact Hrest.out 8 hx0.out hfr.out _ (Hup.out _)
              · have hx0 := Lib.hid (addE_new (n := n) Hdev.out Hrng.out Hf.out hfit hfull)
                have hfr := Lib.hid (freshB_iff.2 ⟨Hdev.out, Hrng.out, Hf.out, hfit, hfull⟩)
                have hl5 : l.length < 512 := by omega
                have Hr := Lib.hid hr
                have hWs := Lib.hid (show w.heap.size ≤ W.heap.size from by have := Hbx.out; omega)
                clear hfit hr hfull
                go_upto_region 21 with (at_builtin; (refine wpList_appendEls (w0 := W) (enc := Ev.cs) (k := 9) cs_len (by decide) cs_one ⟨_, rfl⟩ rfl _ _ 22 rfl W.heap.size (Nat.le_refl _) ?hb 33 (⟨0, 0, 0, 0, 0, 0, 0, 0, 0⟩ : Ev).ag 72 evs (.slice none 0 0) 0 [] rfl ⟨rfl, .inl ⟨rfl, rfl⟩⟩ a l cap rfl ?hels Hn ?h63 ?hbytes ?_; rotate_right 1; intro v2 q2 hown2 _ hg2))
                case hb => exact y.b.size
                case hels => exact Since.els Hr.out y
                case h63 => unfold maxLen; omega
                case hbytes => omega
                have Hown2 := Lib.hid hown2
                clear hown2 hg2
                go_wp2_with (at_builtin; (refine wpList_appendK (w0 := W) ?hw rfl _ _ 22 rfl W.heap.size (Nat.le_refl _) ?hb 33 (⟨0, 0, 0, 0, 0, 0, 0, 0, 0⟩ : Ev).ag 72 evs v2 (0 + l.length) ([] ++ flat Ev.cs l) rfl ?hown ⟨q2.w.heap.size, 0, none⟩ 1 1 e.cs rfl rfl ?hc (cs_one e) ?h63 ?hbytes ?_; rotate_right 1; intro v3 q3 hown3 _ hg3))
                case hw => exact q2.alloc _
                case hb => have := q2.b.size; simp; omega
                case hown => exact own_to Hown2.out (IsSince.alloc (IsSince.self _) _)
                case hc => exact cell_new_at q2.w e.cs _
                case h63 => unfold maxLen; omega
                case hbytes => omega
                clear hg3
                have hown4 : q3.w.ownsRow W.heap.size 33 9 v3 (0 + l.length + 1) (flat Ev.cs (l ++ [e])) := by rw [flat_append, flat_one]; simpa using hown3
                obtain ⟨_, a3, cap3, rfl, hcap3, hels3, _, _⟩ := own_els cs_len (by decide) hown4
                have Hels3 := Lib.hid hels3
                clear hown3 hown4 hels3
                go_wp2_with fail
                go_ret3
                exact RAddPost.done hx0.out hfr.out hcap3 Hels3.out (Hup.out q3)
end Go.Proofs.Ytcpfogbjbinjcaa
