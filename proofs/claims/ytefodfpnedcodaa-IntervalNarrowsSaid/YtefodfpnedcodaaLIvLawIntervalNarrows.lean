/- The frame of the laws of the certain and the possible time: opening lists of short numbers. -/
import Derived.Test.YtefodfpnedcodaaIvMf
import Derived.IntWalk
set_option linter.all false
namespace Go.Proofs.Ytefodfpnedcodaa
open Go.ChangeShapes Go.WideShapes Go.ChangeAt Go.RowKit

theorem cU16 : Try.prog.cellsOf 57 = 1 := by kernel_rfl
theorem wf_u16 {n : Int} (h : (Lit.int .u16 n).wf = true) : 0 ≤ n ∧ n ≤ 65535 := by
  have h1 : (decide ((0 : Int) ≤ n) && decide (n ≤ 65535)) = true := h
  simpa using h1
end Go.Proofs.Ytefodfpnedcodaa
/- The laws of the certain and the possible time, fourth part: moments that are picked. -/
namespace Go.Proofs.Ytefodfpnedcodaa
open Go.RowKit

abbrev U16Row (w : World) (a : Option Addr) (l : List Int) : Prop := Row w a l.length fun i => .int .u16 (at0 l i)
set_option maxHeartbeats 1000000 in
theorem at_calls (w : World) (x : Since w) (a : Option Addr) (l : List Int) (c : Nat) (i : Nat) (h : U16Row w a l) (_hl : l.length ≤ 9223372036854775807) (hi : i ≤ 1000000) :
    Calls Try.prog 34 #[.slice a l.length c, .int .i64 (i : Int)] x.w fun o w' => o = .returned (.int .u16 (at0 l i)) ∧ ∃ y : Since w, w' = y.w := by
  by_cases hlt : i < l.length
  · obtain ⟨b, off, rfl, hb, hc⟩ := h i hlt
    have hk : ∀ q : Since w, q.w.cell? ⟨b, off + i, none⟩ = some (.int .u16 (at0 l i)) := Since.cell hc hb
    have hi0 : (0 : Int) ≤ (i : Int) := by omega
    have hil : (i : Int) < (l.length : Int) := by omega
    clear hc h
    go_enter Try.func34, Try.ntmps34
    go_wp2_with fail
    go_ret
    exact ⟨rfl, _, rfl⟩
  · have hz : at0 l i = 0 := by unfold at0; rw [List.getD_eq_getElem?_getD, List.getElem?_eq_none (by omega)]; rfl
    have Hz := Lib.hid hz
    clear hz h
    go_enter Try.func34, Try.ntmps34
    go_wp2_with fail
    go_ret
    exact ⟨ret_int Hz.out.symm, _, rfl⟩
/-- the moment of an interval that a number picks -/
def pickV (lo hi n : Int) : Int := lo + n % (hi - lo + 1)
theorem pickV_in {lo hi n : Int} (h : lo ≤ hi) : lo ≤ pickV lo hi n ∧ pickV lo hi n ≤ hi := by
  unfold pickV
  have h1 := Int.emod_nonneg n (show hi - lo + 1 ≠ 0 by omega)
  have h2 := Int.emod_lt_of_pos n (show 0 < hi - lo + 1 by omega)
  omega
set_option maxHeartbeats 1000000 in
theorem pick_calls (w : World) (x : Since w) (lo hi n : Int) (h0 : 0 ≤ lo) (h1 : lo ≤ hi) (h2 : hi ≤ 4294944000) (hn0 : 0 ≤ n) (hn1 : n ≤ 65535) :
    Calls Try.prog 45 #[.agg #[.int .i64 lo, .int .i64 hi], .int .u16 n] x.w fun o w' => o = .returned (.int .i64 (pickV lo hi n)) ∧ ∃ y : Since w, w' = y.w := by
  have Hp := Lib.hid (show pickV lo hi n = lo + n % (hi - lo + 1) from rfl)
  have hb := pickV_in (n := n) h1
  rw [Hp.out] at hb
  go_enter Try.func45, Try.ntmps45
  go_upto_region 1 with fail
  have hb0_0 : ∀ y : Since (x.w.alloc (.cells #[.int .i64 lo, .int .i64 hi] 23)), y.w.cell? ⟨x.w.heap.size, 0, none⟩ = some (.int .i64 lo) := fun y => Since.cell (by simp [go_sem]) (by first | (simp; done) | (simp; omega)) y
  have hb0_1 : ∀ y : Since (x.w.alloc (.cells #[.int .i64 lo, .int .i64 hi] 23)), y.w.cell? ⟨x.w.heap.size, 1, none⟩ = some (.int .i64 hi) := fun y => Since.cell (by simp [go_sem]) (by first | (simp; done) | (simp; omega)) y
  have hf0 : ∀ (y : Since (x.w.alloc (.cells #[.int .i64 lo, .int .i64 hi] 23))) (o : Nat), y.w.frozen? ⟨x.w.heap.size, o, none⟩ = false := fun y o => Since.free (by simp [go_sem]) (by first | (simp; done) | (simp; omega)) y
  have hWup : ∃ z : Since w, (x.w.alloc (.cells #[.int .i64 lo, .int .i64 hi] 23)) = z.w := x.alloc _
  obtain ⟨y0, hy0⟩ := Since.refl (x.w.alloc (.cells #[.int .i64 lo, .int .i64 hi] 23))
  have Hbx := Lib.hid (And.intro x.b.size (show x.w.heap.size + 1 = (x.w.alloc (.cells #[.int .i64 lo, .int .i64 hi] 23)).heap.size from by simp))
  generalize hW : (x.w.alloc (.cells #[.int .i64 lo, .int .i64 hi] 23)) = W at *
  clear hW
  generalize x.w.heap.size = bx at *
  have Hup := Lib.hid (Since.up hWup)
  rw [hy0]
  clear hy0
  clear hWup hf0
  have e1 : IntKind.i64.wrap (hi - lo) = hi - lo := IntWalk.i64_in _ (by omega)
  have e2 : IntKind.i64.wrap (hi - lo + 1) = hi - lo + 1 := IntWalk.i64_in _ (by omega)
  have e3 : n.tmod (hi - lo + 1) = n % (hi - lo + 1) := Int.tmod_eq_emod_of_nonneg hn0
  have e4 : IntKind.i64.wrap (n % (hi - lo + 1)) = n % (hi - lo + 1) := IntWalk.i64_in _ (by omega)
  have e5 : IntKind.i64.wrap (lo + n % (hi - lo + 1)) = lo + n % (hi - lo + 1) := IntWalk.i64_in _ (by omega)
  have e6 : IntKind.i64.wrap n = n := IntWalk.i64_in _ (by omega)
  have e7 : (hi - lo + 1 == 0) = false := by simp; omega
  refine wp_region_since (by kernel_rfl) (by kernel_rfl) ?_
  repeat (go_big_quiet_step (fail))
  refine wpQuiet_nil ?_
  rintro _ ⟨z, rfl⟩
  go_wp2_with fail
  go_ret
  exact ⟨ret_int Hp.out.symm, Hup.out _⟩
theorem at_s {W : World} (w' : World) (hw : IsSince W w') (a : Option Addr) (l : List Int) (c : Nat) (i : Nat) (k : Int) (h : U16Row W a l) (hl : l.length ≤ 9223372036854775807) (hi : i ≤ 1000000) (hk : (i : Int) = k) :
    Calls Try.prog 34 #[.slice a l.length c, .int .i64 k] w' (Ends W w' (fun o => o = .returned (.int .u16 (at0 l i)))) := by
  subst hk
  exact later hw fun x => at_calls w' x a l c i (h.to hw) hl hi
theorem pick_s {W : World} (w' : World) (hw : IsSince W w') (lo hi n : Int) (h0 : 0 ≤ lo) (h1 : lo ≤ hi) (h2 : hi ≤ 4294944000) (hn0 : 0 ≤ n) (hn1 : n ≤ 65535) :
    Calls Try.prog 45 #[.agg #[.int .i64 lo, .int .i64 hi], .int .u16 n] w' (Ends W w' (fun o => o = .returned (.int .i64 (pickV lo hi n)))) :=
  later hw fun x => pick_calls w' x lo hi n h0 h1 h2 hn0 hn1
end Go.Proofs.Ytefodfpnedcodaa
/- A ride with smaller intervals: plain mathematics; shrunk, walked; a row of the call's own as a box. -/
namespace Go.Proofs.Ytefodfpnedcodaa
open Go.RowKit

/-- X has smaller intervals of its ends and of its pauses than r -/
structure Nar (r X : Ride) : Prop where
  s : r.s0 ≤ X.s0 ∧ X.s0 ≤ X.s1 ∧ X.s1 ≤ r.s1
  e : r.e0 ≤ X.e0 ∧ X.e0 ≤ X.e1 ∧ X.e1 ≤ r.e1
  n : X.pauses.length = r.pauses.length
  p : ∀ (i : Nat) (p q : Pse), r.pauses[i]? = some p → X.pauses[i]? = some q → p.f0 ≤ q.f0 ∧ q.f1 ≤ p.f1 ∧ p.t0 ≤ q.t0 ∧ q.t1 ≤ p.t1
section
variable {r X : Ride} (h : Nar r X) (he : ivE r = 0) (hx : ivE X = 0)
include h he hx
theorem Nar.sure (t : Int) (ht : inW t (sureW r) = true) : inW t (sureW X) = true := by
  rw [show sureW r = ⟨r.s1, max r.s1 r.e0⟩ from if_pos he, inW_iff] at ht
  rw [show sureW X = ⟨X.s1, max X.s1 X.e0⟩ from if_pos hx, inW_iff]
  have h1 : r.s1 ≤ t := ht.1
  have h2 : t < max r.s1 r.e0 := ht.2
  have := h.s; have := h.e
  show X.s1 ≤ t ∧ t < max X.s1 X.e0
  omega
theorem Nar.poss (t : Int) (ht : inW t (possW X) = true) : inW t (possW r) = true := by
  rw [show possW X = ⟨X.s0, X.e1⟩ from if_pos hx, inW_iff] at ht
  rw [show possW r = ⟨r.s0, r.e1⟩ from if_pos he, inW_iff]
  have h1 : X.s0 ≤ t := ht.1
  have h2 : t < X.e1 := ht.2
  have := h.s; have := h.e
  show r.s0 ≤ t ∧ t < r.e1
  omega
theorem Nar.pau (t : Int) (ht : pauS r t = true) : pauS X t = true := by
  unfold pauS at ht ⊢
  rw [Bool.and_eq_true] at ht ⊢
  refine ⟨h.sure he hx t ht.1, ?_⟩
  obtain ⟨x, hxm, h1, h2⟩ := hasW_iff.1 ht.2
  obtain ⟨p, hp, rfl⟩ := List.mem_map.1 hxm
  obtain ⟨i, hi⟩ := List.mem_iff_getElem?.1 hp
  obtain ⟨q, hq⟩ : ∃ q, X.pauses[i]? = some q := ⟨_, List.getElem?_eq_getElem (by rw [h.n]; exact (List.getElem?_eq_some_iff.1 hi).1)⟩
  have hk := h.p i p q hi hq
  have h1' : p.f1 ≤ t := h1
  have h2' : t < max p.f1 p.t0 := h2
  exact hasW_iff.2 ⟨sureP q, List.mem_map.2 ⟨q, List.mem_of_getElem? hq, rfl⟩, by show q.f1 ≤ t; omega, by show t < max q.f1 q.t0; omega⟩
theorem Nar.rid (t : Int) (ht : ridS r t = true) : ridS X t = true := by
  unfold ridS at ht ⊢
  rw [Bool.and_eq_true, Bool.not_eq_true'] at ht ⊢
  refine ⟨h.sure he hx t ht.1, ?_⟩
  cases hh : hasW (X.pauses.map possP) t
  · rfl
  · obtain ⟨x, hxm, h1, h2⟩ := hasW_iff.1 hh
    obtain ⟨q, hq, rfl⟩ := List.mem_map.1 hxm
    obtain ⟨i, hi⟩ := List.mem_iff_getElem?.1 hq
    obtain ⟨p, hp⟩ : ∃ p, r.pauses[i]? = some p := ⟨_, List.getElem?_eq_getElem (by rw [← h.n]; exact (List.getElem?_eq_some_iff.1 hi).1)⟩
    have hk := h.p i p q hp hi
    have h1' : q.f0 ≤ t := h1
    have h2' : t < max q.f0 q.t1 := h2
    have : hasW (r.pauses.map possP) t = true := hasW_iff.2 ⟨possP p, List.mem_map.2 ⟨p, List.mem_of_getElem? hp, rfl⟩, by show p.f0 ≤ t; omega, by show t < max p.f0 p.t1; omega⟩
    rw [this] at ht
    cases ht.2
end
/-- the pauses so far -/
structure NarP (ps qs : List Pse) : Prop where
  n : qs.length = ps.length
  p : ∀ (i : Nat) (p q : Pse), ps[i]? = some p → qs[i]? = some q → p.f0 ≤ q.f0 ∧ q.f1 ≤ p.f1 ∧ p.t0 ≤ q.t0 ∧ q.t1 ≤ p.t1
theorem NarP.step {ps qs : List Pse} (h : NarP ps qs) {p q : Pse} (hk : p.f0 ≤ q.f0 ∧ q.f1 ≤ p.f1 ∧ p.t0 ≤ q.t0 ∧ q.t1 ≤ p.t1) : NarP (ps ++ [p]) (qs ++ [q]) := by
  refine ⟨by simp [h.n], fun i a b ha hb => ?_⟩
  by_cases hi : i < ps.length
  · rw [List.getElem?_append_left hi] at ha
    rw [List.getElem?_append_left (by rw [h.n]; exact hi)] at hb
    exact h.p i a b ha hb
  · rw [List.getElem?_append_right (by omega)] at ha
    rw [List.getElem?_append_right (by rw [h.n]; omega)] at hb
    have hj := (List.getElem?_eq_some_iff.1 ha).1
    simp at hj
    obtain rfl : i = ps.length := by omega
    rw [h.n] at hb
    simp at ha hb
    subst ha; subst hb
    exact hk
/-- a part of an interval -/
def shrLo (lo hi n : Int) : Int := pickV lo hi (n % 16)
def shrHi (lo hi n : Int) : Int := pickV (shrLo lo hi n) hi (n / 16)
theorem shr_in {lo hi n : Int} (h : lo ≤ hi) : lo ≤ shrLo lo hi n ∧ shrLo lo hi n ≤ shrHi lo hi n ∧ shrHi lo hi n ≤ hi := by
  have h1 := pickV_in (n := n % 16) h
  have h2 := pickV_in (n := n / 16) h1.2
  unfold shrHi shrLo
  unfold shrLo at h2
  exact ⟨h1.1, h2⟩
set_option maxHeartbeats 4000000 in
theorem shrunk_calls (w : World) (x : Since w) (lo hi n : Int) (h0 : 0 ≤ lo) (h1 : lo ≤ hi) (h2 : hi ≤ 4294944000) (hn0 : 0 ≤ n) (hn1 : n ≤ 65535) :
    Calls Try.prog 33 #[.agg #[.int .i64 lo, .int .i64 hi], .int .u16 n] x.w fun o w' => o = .returned (.agg #[.int .i64 (shrLo lo hi n), .int .i64 (shrHi lo hi n)]) ∧ ∃ y : Since w, w' = y.w := by
  have hp := pickV_in (n := n % 16) h1
  have Hlo := Lib.hid (show shrLo lo hi n = pickV lo hi (n % 16) from rfl)
  have Hhi := Lib.hid (show shrHi lo hi n = pickV (shrLo lo hi n) hi (n / 16) from rfl)
  rw [Hlo.out] at Hhi
  go_enter Try.func33, Try.ntmps33
  go_upto_region 1 with fail
  have hb0_0 : ∀ y : Since ((x.w.alloc (.cells #[.int .i64 lo, .int .i64 hi] 23)).alloc (.cells #[.int .i64 0, .int .i64 0] 23)), y.w.cell? ⟨x.w.heap.size, 0, none⟩ = some (.int .i64 lo) := fun y => Since.cell (by simp [go_sem]) (by first | (simp; done) | (simp; omega)) y
  have hb0_1 : ∀ y : Since ((x.w.alloc (.cells #[.int .i64 lo, .int .i64 hi] 23)).alloc (.cells #[.int .i64 0, .int .i64 0] 23)), y.w.cell? ⟨x.w.heap.size, 1, none⟩ = some (.int .i64 hi) := fun y => Since.cell (by simp [go_sem]) (by first | (simp; done) | (simp; omega)) y
  have hf0 : ∀ (y : Since ((x.w.alloc (.cells #[.int .i64 lo, .int .i64 hi] 23)).alloc (.cells #[.int .i64 0, .int .i64 0] 23))) (o : Nat), y.w.frozen? ⟨x.w.heap.size, o, none⟩ = false := fun y o => Since.free (by simp [go_sem]) (by first | (simp; done) | (simp; omega)) y
  have hb1_0 : ∀ y : Since ((x.w.alloc (.cells #[.int .i64 lo, .int .i64 hi] 23)).alloc (.cells #[.int .i64 0, .int .i64 0] 23)), y.w.cell? ⟨x.w.heap.size + 1, 0, none⟩ = some (.int .i64 0) := fun y => Since.cell (by simp [go_sem]) (by first | (simp; done) | (simp; omega)) y
  have hb1_1 : ∀ y : Since ((x.w.alloc (.cells #[.int .i64 lo, .int .i64 hi] 23)).alloc (.cells #[.int .i64 0, .int .i64 0] 23)), y.w.cell? ⟨x.w.heap.size + 1, 1, none⟩ = some (.int .i64 0) := fun y => Since.cell (by simp [go_sem]) (by first | (simp; done) | (simp; omega)) y
  have hf1 : ∀ (y : Since ((x.w.alloc (.cells #[.int .i64 lo, .int .i64 hi] 23)).alloc (.cells #[.int .i64 0, .int .i64 0] 23))) (o : Nat), y.w.frozen? ⟨x.w.heap.size + 1, o, none⟩ = false := fun y o => Since.free (by simp [go_sem]) (by first | (simp; done) | (simp; omega)) y
  have hWup : ∃ z : Since w, ((x.w.alloc (.cells #[.int .i64 lo, .int .i64 hi] 23)).alloc (.cells #[.int .i64 0, .int .i64 0] 23)) = z.w := Since.allocs x [.cells #[.int .i64 lo, .int .i64 hi] 23, .cells #[.int .i64 0, .int .i64 0] 23]
  obtain ⟨y0, hy0⟩ := Since.refl ((x.w.alloc (.cells #[.int .i64 lo, .int .i64 hi] 23)).alloc (.cells #[.int .i64 0, .int .i64 0] 23))
  have Hbx := Lib.hid (And.intro x.b.size (show x.w.heap.size + 2 = ((x.w.alloc (.cells #[.int .i64 lo, .int .i64 hi] 23)).alloc (.cells #[.int .i64 0, .int .i64 0] 23)).heap.size from by simp))
  generalize hW : ((x.w.alloc (.cells #[.int .i64 lo, .int .i64 hi] 23)).alloc (.cells #[.int .i64 0, .int .i64 0] 23)) = W at *
  clear hW
  generalize x.w.heap.size = bx at *
  have Hup := Lib.hid (Since.up hWup)
  rw [hy0]
  clear hy0
  clear hWup hf0
  have P1 := Lib.hid (fun y : Since W => pick_calls W y lo hi (n % 16) h0 h1 h2 (by omega) (by omega))
  have P2 := Lib.hid (fun y : Since W => pick_calls W y (pickV lo hi (n % 16)) hi (n / 16) (by omega) (by omega) h2 (by omega) (by omega))
  generalize pickV lo hi (n % 16) = p at *
  generalize pickV p hi (n / 16) = q at *
  have e1 : n.tmod 16 = n % 16 := Int.tmod_eq_emod_of_nonneg hn0
  have e2 : n.tdiv 16 = n / 16 := Int.tdiv_eq_ediv_of_nonneg hn0
  have e3 : IntKind.u16.wrap (n % 16) = n % 16 := by show (n % 16) % 65536 = _; omega
  have e4 : IntKind.u16.wrap (n / 16) = n / 16 := by show (n / 16) % 65536 = _; omega
  go_wp2_with (first | (go_at_call 45; ((with_reducible refine (P1.out _).mono ?_); rintro _ _ ⟨rfl, y1, rfl⟩)) | (go_at_call 45; ((with_reducible refine (P2.out _).mono ?_); rintro _ _ ⟨rfl, y2, rfl⟩)))
  have hsm : ∀ j, j < 2 → (y2.w.cell? ⟨bx + 1, j, none⟩).isSome = true := fun j hj => by
    match j, hj with
    | 0, _ => rw [hb1_0 y2]; rfl
    | 1, _ => rw [hb1_1 y2]; rfl
  obtain ⟨z, hz, hc⟩ := set_many y2 (g := bx + 1) [.int .i64 p, .int .i64 q] hsm (Hup.out y2) (by have := Hbx.out; omega)
  simp only [World.setCells, Nat.reduceAdd] at hz
  rw [hz]
  have hc0 := hc 0 _ rfl
  have hc1 := hc 1 _ rfl
  exact bodyPost_ret (v := .agg #[.int .i64 p, .int .i64 q]) (by simp [results, Try.results33, go_sem, hc0, hc1]) rfl ⟨by rw [Hhi.out, Hlo.out], z, rfl⟩
theorem shrunk_s {W : World} (w' : World) (hw : IsSince W w') (lo hi n : Int) (h0 : 0 ≤ lo) (h1 : lo ≤ hi) (h2 : hi ≤ 4294944000) (hn0 : 0 ≤ n) (hn1 : n ≤ 65535) :
    Calls Try.prog 33 #[.agg #[.int .i64 lo, .int .i64 hi], .int .u16 n] w' (Ends W w' (fun o => o = .returned (.agg #[.int .i64 (shrLo lo hi n), .int .i64 (shrHi lo hi n)]))) :=
  later hw fun x => shrunk_calls w' x lo hi n h0 h1 h2 hn0 hn1
/-- a row of the call's own as a box -/
theorem own_box {w : World} {B e k n : Nat} {v : Value} {xs : List Value} (h : w.ownsRow B e k v n xs) (hn : 0 < n) : ∃ (g cap : Nat), v = .slice (some ⟨g, 0, none⟩) n cap ∧ B ≤ g ∧ BoxIs w g xs := by
  obtain ⟨hl, h | ⟨g, cap, cur, rfl, hg, hh, hc, hm, hs, ht⟩⟩ := h
  · obtain ⟨rfl, hx⟩ := h
    omega
  · refine ⟨g, cap, rfl, hg, (Array.getElem?_eq_some_iff.1 hh).1, fun j v hv => ?_, fun o => by simp only [World.frozen?, hh]; rfl⟩
    rw [← ht] at hv
    rw [List.getElem?_take] at hv
    split at hv
    · simp only [World.cell?, hh]
      simpa using hv
    · cases hv
theorem BoxIs.far {w : World} {g : Nat} {vs : List Value} (h : BoxIs w g vs) (p : Addr) (u : Value) (hne : g ≠ p.block) : BoxIs (w.setCell p u) g vs := by
  refine ⟨by simpa [World.setCell] using h.lt, fun j v hv => ?_, fun o => by rw [World.frozen?_setCell]; exact h.f o⟩
  rw [World.cell?_of_block (w := w) (a := ⟨g, j, none⟩) (Below.heap_setCell w p u g hne)]
  exact h.c j v hv
theorem leg_cells (l : List Leg) (i : Nat) (hi : i < l.length) : ∃ e : Leg, l[i]? = some e ∧ (flat Leg.cs l)[i * 5 + 1]? = some (.int .i64 e.f0) ∧ (flat Leg.cs l)[i * 5 + 2]? = some (.int .i64 e.f1) ∧ (flat Leg.cs l)[i * 5 + 3]? = some (.int .i64 e.t0) ∧ (flat Leg.cs l)[i * 5 + 4]? = some (.int .i64 e.t1) := by
  obtain ⟨e, he⟩ : ∃ e, l[i]? = some e := ⟨_, List.getElem?_eq_getElem hi⟩
  exact ⟨e, he, flat_at Leg.len l i e 1 _ he rfl, flat_at Leg.len l i e 2 _ he rfl, flat_at Leg.len l i e 3 _ he rfl, flat_at Leg.len l i e 4 _ he rfl⟩
theorem els_of_box {α : Type} {enc : α → List Value} {k : Nat} (hk : ∀ x, (enc x).length = k) {w : World} {g : Nat} {l : List α} (h : BoxIs w g (flat enc l)) : Els enc k w (some ⟨g, 0, none⟩) l := fun i x hx =>
  ⟨g, 0, rfl, h.lt, fun j v hv => by rw [Nat.zero_add]; exact h.c (i * k + j) v (flat_at hk l i x j v hx hv)⟩
/-- the first leg begins, the last one ends at other moments -/
def setF (a0 a1 : Int) : List Leg → List Leg
  | [] => []
  | x :: l => ⟨x.b, a0, a1, x.t0, x.t1⟩ :: l
def setT (b0 b1 : Int) : List Leg → List Leg
  | [] => []
  | [x] => [⟨x.b, x.f0, x.f1, b0, b1⟩]
  | x :: y :: l => x :: setT b0 b1 (y :: l)
theorem setF_len (a0 a1 : Int) : ∀ l, (setF a0 a1 l).length = l.length
  | [] => rfl
  | _ :: _ => rfl
theorem setT_len (b0 b1 : Int) : ∀ l, (setT b0 b1 l).length = l.length
  | [] => rfl
  | [_] => rfl
  | _ :: y :: l => by
    have := setT_len b0 b1 (y :: l)
    simp only [setT, List.length_cons] at this ⊢
    omega
theorem flat_setF (a0 a1 : Int) (l : List Leg) : flat Leg.cs (setF a0 a1 l) = ((flat Leg.cs l).set 1 (.int .i64 a0)).set 2 (.int .i64 a1) := by
  cases l <;> rfl
theorem flat_setT (b0 b1 : Int) : ∀ l : List Leg, l ≠ [] → flat Leg.cs (setT b0 b1 l) = ((flat Leg.cs l).set ((l.length - 1) * 5 + 3) (.int .i64 b0)).set ((l.length - 1) * 5 + 4) (.int .i64 b1)
  | [], h => (h rfl).elim
  | [x], _ => rfl
  | x :: y :: l, _ => by
    have ih := flat_setT b0 b1 (y :: l) (by simp)
    have e : flat Leg.cs (setT b0 b1 (x :: y :: l)) = x.cs ++ flat Leg.cs (setT b0 b1 (y :: l)) := rfl
    have e2 : flat Leg.cs (x :: y :: l) = x.cs ++ flat Leg.cs (y :: l) := rfl
    rw [e, e2, ih, show (x :: y :: l).length - 1 = (y :: l).length - 1 + 1 by simp]
    generalize (y :: l).length - 1 = m
    rw [List.set_append_right _ _ (by rw [Leg.len]; omega), List.set_append_right _ _ (by rw [Leg.len]; omega), Leg.len]
    rw [show (m + 1) * 5 + 3 - 5 = m * 5 + 3 by omega, show (m + 1) * 5 + 4 - 5 = m * 5 + 4 by omega]
end Go.Proofs.Ytefodfpnedcodaa
/- The ride with exact moments, walked. -/
namespace Go.Proofs.Ytefodfpnedcodaa
open Go.RowKit

theorem legX_one (x : Leg) : ∀ u ∈ x.cs, u.oneCell' = true := by
  intro u hu
  simp [Leg.cs] at hu
  rcases hu with h | h | h | h | h <;> subst h <;> rfl
theorem pseX_one (x : Pse) : ∀ u ∈ x.cs, u.oneCell' = true := by
  intro u hu
  simp [Pse.cs] at hu
  rcases hu with h | h | h | h <;> subst h <;> rfl
theorem sLegX : SliceOf Try.prog 24 60 (.agg #[.int .i64 0, .int .i64 0, .int .i64 0, .int .i64 0, .int .i64 0]) 5 40 := SliceOf.mk' Try.underlying24 (by kernel_rfl) rfl (by decide)
theorem sPseX : SliceOf Try.prog 25 52 (.agg #[.int .i64 0, .int .i64 0, .int .i64 0, .int .i64 0]) 4 32 := SliceOf.mk' Try.underlying25 (by kernel_rfl) rfl (by decide)
/-- the ride with exact moments -/
def ExRes (w : World) (r : Ride) (o : Ending) (w' : World) : Prop :=
  ∃ (la : Option Addr) (lc : Nat) (pa : Option Addr) (pc : Nat) (y : Since w), o = .returned (.agg #[.int .i64 r.id, .int .i64 r.rd, .int .i64 r.s0, .int .i64 r.s0, .int .i64 r.e0, .int .i64 r.e0, .bool r.op, .slice la r.legs.length lc, .slice pa r.pauses.length pc, .int .i64 r.fw, .int .i64 r.fp, .int .i64 r.wh, .int .i64 r.pl]) ∧ w' = y.w ∧ (exR r la lc pa pc).At y.w
set_option linter.unusedSimpArgs false in
set_option maxRecDepth 100000 in
set_option maxHeartbeats 16000000 in
theorem exact_calls (w : World) (x : Since w) (r : Ride) (h : r.At w) (hlm : r.legs.length ≤ 100) (hpm : r.pauses.length ≤ 100) :
    Calls Try.prog 32 #[.agg #[.int .i64 r.id, .int .i64 r.rd, .int .i64 r.s0, .int .i64 r.s1, .int .i64 r.e0, .int .i64 r.e1, .bool r.op, .slice r.la r.legs.length r.lc, .slice r.pa r.pauses.length r.pc, .int .i64 r.fw, .int .i64 r.fp, .int .i64 r.wh, .int .i64 r.pl]] x.w (ExRes w r) := by
  have H := Lib.hid h
  clear h
  have HP := Lib.hid (fun (la : Option Addr) (lc k j : Nat) (pa : Option Addr) (pc : Nat) (y : Since w) (hk : k = r.legs.length) (hj : j = r.pauses.length) (hl : Els Leg.cs 5 y.w la (r.legs.map exL)) (hp : Els Pse.cs 4 y.w pa (r.pauses.map exP)) => show ExRes w r (.returned (.agg #[.int .i64 r.id, .int .i64 r.rd, .int .i64 r.s0, .int .i64 r.s0, .int .i64 r.e0, .int .i64 r.e0, .bool r.op, .slice la k lc, .slice pa j pc, .int .i64 r.fw, .int .i64 r.fp, .int .i64 r.wh, .int .i64 r.pl])) y.w from by subst hk; subst hj; exact ⟨la, lc, pa, pc, y, rfl, rfl, hl, hp, by show (r.legs.map exL).length ≤ _; rw [List.length_map]; omega, by show (r.pauses.map exP).length ≤ _; rw [List.length_map]; omega⟩)
  generalize ExRes w r = PO at *
  go_enter Try.func32, Try.ntmps32
  go_upto_region 1 with fail
  have hb0_0 : ∀ y : Since ((x.w.alloc (.cells #[.int .i64 r.id, .int .i64 r.rd, .int .i64 r.s0, .int .i64 r.s1, .int .i64 r.e0, .int .i64 r.e1, .bool r.op, .slice r.la r.legs.length r.lc, .slice r.pa r.pauses.length r.pc, .int .i64 r.fw, .int .i64 r.fp, .int .i64 r.wh, .int .i64 r.pl] 27)).alloc (.cells #[.int .i64 0, .int .i64 0, .int .i64 0, .int .i64 0, .int .i64 0, .int .i64 0, .bool false, .slice none 0 0, .slice none 0 0, .int .i64 0, .int .i64 0, .int .i64 0, .int .i64 0] 27)), y.w.cell? ⟨x.w.heap.size, 0, none⟩ = some (.int .i64 r.id) := fun y => Since.cell (by simp [go_sem]) (by first | (simp; done) | (simp; omega)) y
  have hb0_1 : ∀ y : Since ((x.w.alloc (.cells #[.int .i64 r.id, .int .i64 r.rd, .int .i64 r.s0, .int .i64 r.s1, .int .i64 r.e0, .int .i64 r.e1, .bool r.op, .slice r.la r.legs.length r.lc, .slice r.pa r.pauses.length r.pc, .int .i64 r.fw, .int .i64 r.fp, .int .i64 r.wh, .int .i64 r.pl] 27)).alloc (.cells #[.int .i64 0, .int .i64 0, .int .i64 0, .int .i64 0, .int .i64 0, .int .i64 0, .bool false, .slice none 0 0, .slice none 0 0, .int .i64 0, .int .i64 0, .int .i64 0, .int .i64 0] 27)), y.w.cell? ⟨x.w.heap.size, 1, none⟩ = some (.int .i64 r.rd) := fun y => Since.cell (by simp [go_sem]) (by first | (simp; done) | (simp; omega)) y
  have hb0_2 : ∀ y : Since ((x.w.alloc (.cells #[.int .i64 r.id, .int .i64 r.rd, .int .i64 r.s0, .int .i64 r.s1, .int .i64 r.e0, .int .i64 r.e1, .bool r.op, .slice r.la r.legs.length r.lc, .slice r.pa r.pauses.length r.pc, .int .i64 r.fw, .int .i64 r.fp, .int .i64 r.wh, .int .i64 r.pl] 27)).alloc (.cells #[.int .i64 0, .int .i64 0, .int .i64 0, .int .i64 0, .int .i64 0, .int .i64 0, .bool false, .slice none 0 0, .slice none 0 0, .int .i64 0, .int .i64 0, .int .i64 0, .int .i64 0] 27)), y.w.cell? ⟨x.w.heap.size, 2, none⟩ = some (.int .i64 r.s0) := fun y => Since.cell (by simp [go_sem]) (by first | (simp; done) | (simp; omega)) y
  have hb0_3 : ∀ y : Since ((x.w.alloc (.cells #[.int .i64 r.id, .int .i64 r.rd, .int .i64 r.s0, .int .i64 r.s1, .int .i64 r.e0, .int .i64 r.e1, .bool r.op, .slice r.la r.legs.length r.lc, .slice r.pa r.pauses.length r.pc, .int .i64 r.fw, .int .i64 r.fp, .int .i64 r.wh, .int .i64 r.pl] 27)).alloc (.cells #[.int .i64 0, .int .i64 0, .int .i64 0, .int .i64 0, .int .i64 0, .int .i64 0, .bool false, .slice none 0 0, .slice none 0 0, .int .i64 0, .int .i64 0, .int .i64 0, .int .i64 0] 27)), y.w.cell? ⟨x.w.heap.size, 3, none⟩ = some (.int .i64 r.s1) := fun y => Since.cell (by simp [go_sem]) (by first | (simp; done) | (simp; omega)) y
  have hb0_4 : ∀ y : Since ((x.w.alloc (.cells #[.int .i64 r.id, .int .i64 r.rd, .int .i64 r.s0, .int .i64 r.s1, .int .i64 r.e0, .int .i64 r.e1, .bool r.op, .slice r.la r.legs.length r.lc, .slice r.pa r.pauses.length r.pc, .int .i64 r.fw, .int .i64 r.fp, .int .i64 r.wh, .int .i64 r.pl] 27)).alloc (.cells #[.int .i64 0, .int .i64 0, .int .i64 0, .int .i64 0, .int .i64 0, .int .i64 0, .bool false, .slice none 0 0, .slice none 0 0, .int .i64 0, .int .i64 0, .int .i64 0, .int .i64 0] 27)), y.w.cell? ⟨x.w.heap.size, 4, none⟩ = some (.int .i64 r.e0) := fun y => Since.cell (by simp [go_sem]) (by first | (simp; done) | (simp; omega)) y
  have hb0_5 : ∀ y : Since ((x.w.alloc (.cells #[.int .i64 r.id, .int .i64 r.rd, .int .i64 r.s0, .int .i64 r.s1, .int .i64 r.e0, .int .i64 r.e1, .bool r.op, .slice r.la r.legs.length r.lc, .slice r.pa r.pauses.length r.pc, .int .i64 r.fw, .int .i64 r.fp, .int .i64 r.wh, .int .i64 r.pl] 27)).alloc (.cells #[.int .i64 0, .int .i64 0, .int .i64 0, .int .i64 0, .int .i64 0, .int .i64 0, .bool false, .slice none 0 0, .slice none 0 0, .int .i64 0, .int .i64 0, .int .i64 0, .int .i64 0] 27)), y.w.cell? ⟨x.w.heap.size, 5, none⟩ = some (.int .i64 r.e1) := fun y => Since.cell (by simp [go_sem]) (by first | (simp; done) | (simp; omega)) y
  have hb0_6 : ∀ y : Since ((x.w.alloc (.cells #[.int .i64 r.id, .int .i64 r.rd, .int .i64 r.s0, .int .i64 r.s1, .int .i64 r.e0, .int .i64 r.e1, .bool r.op, .slice r.la r.legs.length r.lc, .slice r.pa r.pauses.length r.pc, .int .i64 r.fw, .int .i64 r.fp, .int .i64 r.wh, .int .i64 r.pl] 27)).alloc (.cells #[.int .i64 0, .int .i64 0, .int .i64 0, .int .i64 0, .int .i64 0, .int .i64 0, .bool false, .slice none 0 0, .slice none 0 0, .int .i64 0, .int .i64 0, .int .i64 0, .int .i64 0] 27)), y.w.cell? ⟨x.w.heap.size, 6, none⟩ = some (.bool r.op) := fun y => Since.cell (by simp [go_sem]) (by first | (simp; done) | (simp; omega)) y
  have hb0_7 : ∀ y : Since ((x.w.alloc (.cells #[.int .i64 r.id, .int .i64 r.rd, .int .i64 r.s0, .int .i64 r.s1, .int .i64 r.e0, .int .i64 r.e1, .bool r.op, .slice r.la r.legs.length r.lc, .slice r.pa r.pauses.length r.pc, .int .i64 r.fw, .int .i64 r.fp, .int .i64 r.wh, .int .i64 r.pl] 27)).alloc (.cells #[.int .i64 0, .int .i64 0, .int .i64 0, .int .i64 0, .int .i64 0, .int .i64 0, .bool false, .slice none 0 0, .slice none 0 0, .int .i64 0, .int .i64 0, .int .i64 0, .int .i64 0] 27)), y.w.cell? ⟨x.w.heap.size, 7, none⟩ = some (.slice r.la r.legs.length r.lc) := fun y => Since.cell (by simp [go_sem]) (by first | (simp; done) | (simp; omega)) y
  have hb0_8 : ∀ y : Since ((x.w.alloc (.cells #[.int .i64 r.id, .int .i64 r.rd, .int .i64 r.s0, .int .i64 r.s1, .int .i64 r.e0, .int .i64 r.e1, .bool r.op, .slice r.la r.legs.length r.lc, .slice r.pa r.pauses.length r.pc, .int .i64 r.fw, .int .i64 r.fp, .int .i64 r.wh, .int .i64 r.pl] 27)).alloc (.cells #[.int .i64 0, .int .i64 0, .int .i64 0, .int .i64 0, .int .i64 0, .int .i64 0, .bool false, .slice none 0 0, .slice none 0 0, .int .i64 0, .int .i64 0, .int .i64 0, .int .i64 0] 27)), y.w.cell? ⟨x.w.heap.size, 8, none⟩ = some (.slice r.pa r.pauses.length r.pc) := fun y => Since.cell (by simp [go_sem]) (by first | (simp; done) | (simp; omega)) y
  have hb0_9 : ∀ y : Since ((x.w.alloc (.cells #[.int .i64 r.id, .int .i64 r.rd, .int .i64 r.s0, .int .i64 r.s1, .int .i64 r.e0, .int .i64 r.e1, .bool r.op, .slice r.la r.legs.length r.lc, .slice r.pa r.pauses.length r.pc, .int .i64 r.fw, .int .i64 r.fp, .int .i64 r.wh, .int .i64 r.pl] 27)).alloc (.cells #[.int .i64 0, .int .i64 0, .int .i64 0, .int .i64 0, .int .i64 0, .int .i64 0, .bool false, .slice none 0 0, .slice none 0 0, .int .i64 0, .int .i64 0, .int .i64 0, .int .i64 0] 27)), y.w.cell? ⟨x.w.heap.size, 9, none⟩ = some (.int .i64 r.fw) := fun y => Since.cell (by simp [go_sem]) (by first | (simp; done) | (simp; omega)) y
  have hb0_10 : ∀ y : Since ((x.w.alloc (.cells #[.int .i64 r.id, .int .i64 r.rd, .int .i64 r.s0, .int .i64 r.s1, .int .i64 r.e0, .int .i64 r.e1, .bool r.op, .slice r.la r.legs.length r.lc, .slice r.pa r.pauses.length r.pc, .int .i64 r.fw, .int .i64 r.fp, .int .i64 r.wh, .int .i64 r.pl] 27)).alloc (.cells #[.int .i64 0, .int .i64 0, .int .i64 0, .int .i64 0, .int .i64 0, .int .i64 0, .bool false, .slice none 0 0, .slice none 0 0, .int .i64 0, .int .i64 0, .int .i64 0, .int .i64 0] 27)), y.w.cell? ⟨x.w.heap.size, 10, none⟩ = some (.int .i64 r.fp) := fun y => Since.cell (by simp [go_sem]) (by first | (simp; done) | (simp; omega)) y
  have hb0_11 : ∀ y : Since ((x.w.alloc (.cells #[.int .i64 r.id, .int .i64 r.rd, .int .i64 r.s0, .int .i64 r.s1, .int .i64 r.e0, .int .i64 r.e1, .bool r.op, .slice r.la r.legs.length r.lc, .slice r.pa r.pauses.length r.pc, .int .i64 r.fw, .int .i64 r.fp, .int .i64 r.wh, .int .i64 r.pl] 27)).alloc (.cells #[.int .i64 0, .int .i64 0, .int .i64 0, .int .i64 0, .int .i64 0, .int .i64 0, .bool false, .slice none 0 0, .slice none 0 0, .int .i64 0, .int .i64 0, .int .i64 0, .int .i64 0] 27)), y.w.cell? ⟨x.w.heap.size, 11, none⟩ = some (.int .i64 r.wh) := fun y => Since.cell (by simp [go_sem]) (by first | (simp; done) | (simp; omega)) y
  have hb0_12 : ∀ y : Since ((x.w.alloc (.cells #[.int .i64 r.id, .int .i64 r.rd, .int .i64 r.s0, .int .i64 r.s1, .int .i64 r.e0, .int .i64 r.e1, .bool r.op, .slice r.la r.legs.length r.lc, .slice r.pa r.pauses.length r.pc, .int .i64 r.fw, .int .i64 r.fp, .int .i64 r.wh, .int .i64 r.pl] 27)).alloc (.cells #[.int .i64 0, .int .i64 0, .int .i64 0, .int .i64 0, .int .i64 0, .int .i64 0, .bool false, .slice none 0 0, .slice none 0 0, .int .i64 0, .int .i64 0, .int .i64 0, .int .i64 0] 27)), y.w.cell? ⟨x.w.heap.size, 12, none⟩ = some (.int .i64 r.pl) := fun y => Since.cell (by simp [go_sem]) (by first | (simp; done) | (simp; omega)) y
  have hf0 : ∀ (y : Since ((x.w.alloc (.cells #[.int .i64 r.id, .int .i64 r.rd, .int .i64 r.s0, .int .i64 r.s1, .int .i64 r.e0, .int .i64 r.e1, .bool r.op, .slice r.la r.legs.length r.lc, .slice r.pa r.pauses.length r.pc, .int .i64 r.fw, .int .i64 r.fp, .int .i64 r.wh, .int .i64 r.pl] 27)).alloc (.cells #[.int .i64 0, .int .i64 0, .int .i64 0, .int .i64 0, .int .i64 0, .int .i64 0, .bool false, .slice none 0 0, .slice none 0 0, .int .i64 0, .int .i64 0, .int .i64 0, .int .i64 0] 27))) (o : Nat), y.w.frozen? ⟨x.w.heap.size, o, none⟩ = false := fun y o => Since.free (by simp [go_sem]) (by first | (simp; done) | (simp; omega)) y
  have hb1_0 : ∀ y : Since ((x.w.alloc (.cells #[.int .i64 r.id, .int .i64 r.rd, .int .i64 r.s0, .int .i64 r.s1, .int .i64 r.e0, .int .i64 r.e1, .bool r.op, .slice r.la r.legs.length r.lc, .slice r.pa r.pauses.length r.pc, .int .i64 r.fw, .int .i64 r.fp, .int .i64 r.wh, .int .i64 r.pl] 27)).alloc (.cells #[.int .i64 0, .int .i64 0, .int .i64 0, .int .i64 0, .int .i64 0, .int .i64 0, .bool false, .slice none 0 0, .slice none 0 0, .int .i64 0, .int .i64 0, .int .i64 0, .int .i64 0] 27)), y.w.cell? ⟨x.w.heap.size + 1, 0, none⟩ = some (.int .i64 0) := fun y => Since.cell (by simp [go_sem]) (by first | (simp; done) | (simp; omega)) y
  have hb1_1 : ∀ y : Since ((x.w.alloc (.cells #[.int .i64 r.id, .int .i64 r.rd, .int .i64 r.s0, .int .i64 r.s1, .int .i64 r.e0, .int .i64 r.e1, .bool r.op, .slice r.la r.legs.length r.lc, .slice r.pa r.pauses.length r.pc, .int .i64 r.fw, .int .i64 r.fp, .int .i64 r.wh, .int .i64 r.pl] 27)).alloc (.cells #[.int .i64 0, .int .i64 0, .int .i64 0, .int .i64 0, .int .i64 0, .int .i64 0, .bool false, .slice none 0 0, .slice none 0 0, .int .i64 0, .int .i64 0, .int .i64 0, .int .i64 0] 27)), y.w.cell? ⟨x.w.heap.size + 1, 1, none⟩ = some (.int .i64 0) := fun y => Since.cell (by simp [go_sem]) (by first | (simp; done) | (simp; omega)) y
  have hb1_2 : ∀ y : Since ((x.w.alloc (.cells #[.int .i64 r.id, .int .i64 r.rd, .int .i64 r.s0, .int .i64 r.s1, .int .i64 r.e0, .int .i64 r.e1, .bool r.op, .slice r.la r.legs.length r.lc, .slice r.pa r.pauses.length r.pc, .int .i64 r.fw, .int .i64 r.fp, .int .i64 r.wh, .int .i64 r.pl] 27)).alloc (.cells #[.int .i64 0, .int .i64 0, .int .i64 0, .int .i64 0, .int .i64 0, .int .i64 0, .bool false, .slice none 0 0, .slice none 0 0, .int .i64 0, .int .i64 0, .int .i64 0, .int .i64 0] 27)), y.w.cell? ⟨x.w.heap.size + 1, 2, none⟩ = some (.int .i64 0) := fun y => Since.cell (by simp [go_sem]) (by first | (simp; done) | (simp; omega)) y
  have hb1_3 : ∀ y : Since ((x.w.alloc (.cells #[.int .i64 r.id, .int .i64 r.rd, .int .i64 r.s0, .int .i64 r.s1, .int .i64 r.e0, .int .i64 r.e1, .bool r.op, .slice r.la r.legs.length r.lc, .slice r.pa r.pauses.length r.pc, .int .i64 r.fw, .int .i64 r.fp, .int .i64 r.wh, .int .i64 r.pl] 27)).alloc (.cells #[.int .i64 0, .int .i64 0, .int .i64 0, .int .i64 0, .int .i64 0, .int .i64 0, .bool false, .slice none 0 0, .slice none 0 0, .int .i64 0, .int .i64 0, .int .i64 0, .int .i64 0] 27)), y.w.cell? ⟨x.w.heap.size + 1, 3, none⟩ = some (.int .i64 0) := fun y => Since.cell (by simp [go_sem]) (by first | (simp; done) | (simp; omega)) y
  have hb1_4 : ∀ y : Since ((x.w.alloc (.cells #[.int .i64 r.id, .int .i64 r.rd, .int .i64 r.s0, .int .i64 r.s1, .int .i64 r.e0, .int .i64 r.e1, .bool r.op, .slice r.la r.legs.length r.lc, .slice r.pa r.pauses.length r.pc, .int .i64 r.fw, .int .i64 r.fp, .int .i64 r.wh, .int .i64 r.pl] 27)).alloc (.cells #[.int .i64 0, .int .i64 0, .int .i64 0, .int .i64 0, .int .i64 0, .int .i64 0, .bool false, .slice none 0 0, .slice none 0 0, .int .i64 0, .int .i64 0, .int .i64 0, .int .i64 0] 27)), y.w.cell? ⟨x.w.heap.size + 1, 4, none⟩ = some (.int .i64 0) := fun y => Since.cell (by simp [go_sem]) (by first | (simp; done) | (simp; omega)) y
  have hb1_5 : ∀ y : Since ((x.w.alloc (.cells #[.int .i64 r.id, .int .i64 r.rd, .int .i64 r.s0, .int .i64 r.s1, .int .i64 r.e0, .int .i64 r.e1, .bool r.op, .slice r.la r.legs.length r.lc, .slice r.pa r.pauses.length r.pc, .int .i64 r.fw, .int .i64 r.fp, .int .i64 r.wh, .int .i64 r.pl] 27)).alloc (.cells #[.int .i64 0, .int .i64 0, .int .i64 0, .int .i64 0, .int .i64 0, .int .i64 0, .bool false, .slice none 0 0, .slice none 0 0, .int .i64 0, .int .i64 0, .int .i64 0, .int .i64 0] 27)), y.w.cell? ⟨x.w.heap.size + 1, 5, none⟩ = some (.int .i64 0) := fun y => Since.cell (by simp [go_sem]) (by first | (simp; done) | (simp; omega)) y
  have hb1_6 : ∀ y : Since ((x.w.alloc (.cells #[.int .i64 r.id, .int .i64 r.rd, .int .i64 r.s0, .int .i64 r.s1, .int .i64 r.e0, .int .i64 r.e1, .bool r.op, .slice r.la r.legs.length r.lc, .slice r.pa r.pauses.length r.pc, .int .i64 r.fw, .int .i64 r.fp, .int .i64 r.wh, .int .i64 r.pl] 27)).alloc (.cells #[.int .i64 0, .int .i64 0, .int .i64 0, .int .i64 0, .int .i64 0, .int .i64 0, .bool false, .slice none 0 0, .slice none 0 0, .int .i64 0, .int .i64 0, .int .i64 0, .int .i64 0] 27)), y.w.cell? ⟨x.w.heap.size + 1, 6, none⟩ = some (.bool false) := fun y => Since.cell (by simp [go_sem]) (by first | (simp; done) | (simp; omega)) y
  have hb1_7 : ∀ y : Since ((x.w.alloc (.cells #[.int .i64 r.id, .int .i64 r.rd, .int .i64 r.s0, .int .i64 r.s1, .int .i64 r.e0, .int .i64 r.e1, .bool r.op, .slice r.la r.legs.length r.lc, .slice r.pa r.pauses.length r.pc, .int .i64 r.fw, .int .i64 r.fp, .int .i64 r.wh, .int .i64 r.pl] 27)).alloc (.cells #[.int .i64 0, .int .i64 0, .int .i64 0, .int .i64 0, .int .i64 0, .int .i64 0, .bool false, .slice none 0 0, .slice none 0 0, .int .i64 0, .int .i64 0, .int .i64 0, .int .i64 0] 27)), y.w.cell? ⟨x.w.heap.size + 1, 7, none⟩ = some (.slice none 0 0) := fun y => Since.cell (by simp [go_sem]) (by first | (simp; done) | (simp; omega)) y
  have hb1_8 : ∀ y : Since ((x.w.alloc (.cells #[.int .i64 r.id, .int .i64 r.rd, .int .i64 r.s0, .int .i64 r.s1, .int .i64 r.e0, .int .i64 r.e1, .bool r.op, .slice r.la r.legs.length r.lc, .slice r.pa r.pauses.length r.pc, .int .i64 r.fw, .int .i64 r.fp, .int .i64 r.wh, .int .i64 r.pl] 27)).alloc (.cells #[.int .i64 0, .int .i64 0, .int .i64 0, .int .i64 0, .int .i64 0, .int .i64 0, .bool false, .slice none 0 0, .slice none 0 0, .int .i64 0, .int .i64 0, .int .i64 0, .int .i64 0] 27)), y.w.cell? ⟨x.w.heap.size + 1, 8, none⟩ = some (.slice none 0 0) := fun y => Since.cell (by simp [go_sem]) (by first | (simp; done) | (simp; omega)) y
  have hb1_9 : ∀ y : Since ((x.w.alloc (.cells #[.int .i64 r.id, .int .i64 r.rd, .int .i64 r.s0, .int .i64 r.s1, .int .i64 r.e0, .int .i64 r.e1, .bool r.op, .slice r.la r.legs.length r.lc, .slice r.pa r.pauses.length r.pc, .int .i64 r.fw, .int .i64 r.fp, .int .i64 r.wh, .int .i64 r.pl] 27)).alloc (.cells #[.int .i64 0, .int .i64 0, .int .i64 0, .int .i64 0, .int .i64 0, .int .i64 0, .bool false, .slice none 0 0, .slice none 0 0, .int .i64 0, .int .i64 0, .int .i64 0, .int .i64 0] 27)), y.w.cell? ⟨x.w.heap.size + 1, 9, none⟩ = some (.int .i64 0) := fun y => Since.cell (by simp [go_sem]) (by first | (simp; done) | (simp; omega)) y
  have hb1_10 : ∀ y : Since ((x.w.alloc (.cells #[.int .i64 r.id, .int .i64 r.rd, .int .i64 r.s0, .int .i64 r.s1, .int .i64 r.e0, .int .i64 r.e1, .bool r.op, .slice r.la r.legs.length r.lc, .slice r.pa r.pauses.length r.pc, .int .i64 r.fw, .int .i64 r.fp, .int .i64 r.wh, .int .i64 r.pl] 27)).alloc (.cells #[.int .i64 0, .int .i64 0, .int .i64 0, .int .i64 0, .int .i64 0, .int .i64 0, .bool false, .slice none 0 0, .slice none 0 0, .int .i64 0, .int .i64 0, .int .i64 0, .int .i64 0] 27)), y.w.cell? ⟨x.w.heap.size + 1, 10, none⟩ = some (.int .i64 0) := fun y => Since.cell (by simp [go_sem]) (by first | (simp; done) | (simp; omega)) y
  have hb1_11 : ∀ y : Since ((x.w.alloc (.cells #[.int .i64 r.id, .int .i64 r.rd, .int .i64 r.s0, .int .i64 r.s1, .int .i64 r.e0, .int .i64 r.e1, .bool r.op, .slice r.la r.legs.length r.lc, .slice r.pa r.pauses.length r.pc, .int .i64 r.fw, .int .i64 r.fp, .int .i64 r.wh, .int .i64 r.pl] 27)).alloc (.cells #[.int .i64 0, .int .i64 0, .int .i64 0, .int .i64 0, .int .i64 0, .int .i64 0, .bool false, .slice none 0 0, .slice none 0 0, .int .i64 0, .int .i64 0, .int .i64 0, .int .i64 0] 27)), y.w.cell? ⟨x.w.heap.size + 1, 11, none⟩ = some (.int .i64 0) := fun y => Since.cell (by simp [go_sem]) (by first | (simp; done) | (simp; omega)) y
  have hb1_12 : ∀ y : Since ((x.w.alloc (.cells #[.int .i64 r.id, .int .i64 r.rd, .int .i64 r.s0, .int .i64 r.s1, .int .i64 r.e0, .int .i64 r.e1, .bool r.op, .slice r.la r.legs.length r.lc, .slice r.pa r.pauses.length r.pc, .int .i64 r.fw, .int .i64 r.fp, .int .i64 r.wh, .int .i64 r.pl] 27)).alloc (.cells #[.int .i64 0, .int .i64 0, .int .i64 0, .int .i64 0, .int .i64 0, .int .i64 0, .bool false, .slice none 0 0, .slice none 0 0, .int .i64 0, .int .i64 0, .int .i64 0, .int .i64 0] 27)), y.w.cell? ⟨x.w.heap.size + 1, 12, none⟩ = some (.int .i64 0) := fun y => Since.cell (by simp [go_sem]) (by first | (simp; done) | (simp; omega)) y
  have hf1 : ∀ (y : Since ((x.w.alloc (.cells #[.int .i64 r.id, .int .i64 r.rd, .int .i64 r.s0, .int .i64 r.s1, .int .i64 r.e0, .int .i64 r.e1, .bool r.op, .slice r.la r.legs.length r.lc, .slice r.pa r.pauses.length r.pc, .int .i64 r.fw, .int .i64 r.fp, .int .i64 r.wh, .int .i64 r.pl] 27)).alloc (.cells #[.int .i64 0, .int .i64 0, .int .i64 0, .int .i64 0, .int .i64 0, .int .i64 0, .bool false, .slice none 0 0, .slice none 0 0, .int .i64 0, .int .i64 0, .int .i64 0, .int .i64 0] 27))) (o : Nat), y.w.frozen? ⟨x.w.heap.size + 1, o, none⟩ = false := fun y o => Since.free (by simp [go_sem]) (by first | (simp; done) | (simp; omega)) y
  have hWup : ∃ z : Since w, ((x.w.alloc (.cells #[.int .i64 r.id, .int .i64 r.rd, .int .i64 r.s0, .int .i64 r.s1, .int .i64 r.e0, .int .i64 r.e1, .bool r.op, .slice r.la r.legs.length r.lc, .slice r.pa r.pauses.length r.pc, .int .i64 r.fw, .int .i64 r.fp, .int .i64 r.wh, .int .i64 r.pl] 27)).alloc (.cells #[.int .i64 0, .int .i64 0, .int .i64 0, .int .i64 0, .int .i64 0, .int .i64 0, .bool false, .slice none 0 0, .slice none 0 0, .int .i64 0, .int .i64 0, .int .i64 0, .int .i64 0] 27)) = z.w := Since.allocs x [.cells #[.int .i64 r.id, .int .i64 r.rd, .int .i64 r.s0, .int .i64 r.s1, .int .i64 r.e0, .int .i64 r.e1, .bool r.op, .slice r.la r.legs.length r.lc, .slice r.pa r.pauses.length r.pc, .int .i64 r.fw, .int .i64 r.fp, .int .i64 r.wh, .int .i64 r.pl] 27, .cells #[.int .i64 0, .int .i64 0, .int .i64 0, .int .i64 0, .int .i64 0, .int .i64 0, .bool false, .slice none 0 0, .slice none 0 0, .int .i64 0, .int .i64 0, .int .i64 0, .int .i64 0] 27]
  obtain ⟨y0, hy0⟩ := Since.refl ((x.w.alloc (.cells #[.int .i64 r.id, .int .i64 r.rd, .int .i64 r.s0, .int .i64 r.s1, .int .i64 r.e0, .int .i64 r.e1, .bool r.op, .slice r.la r.legs.length r.lc, .slice r.pa r.pauses.length r.pc, .int .i64 r.fw, .int .i64 r.fp, .int .i64 r.wh, .int .i64 r.pl] 27)).alloc (.cells #[.int .i64 0, .int .i64 0, .int .i64 0, .int .i64 0, .int .i64 0, .int .i64 0, .bool false, .slice none 0 0, .slice none 0 0, .int .i64 0, .int .i64 0, .int .i64 0, .int .i64 0] 27))
  have Hbx := Lib.hid (And.intro x.b.size (show x.w.heap.size + 2 = ((x.w.alloc (.cells #[.int .i64 r.id, .int .i64 r.rd, .int .i64 r.s0, .int .i64 r.s1, .int .i64 r.e0, .int .i64 r.e1, .bool r.op, .slice r.la r.legs.length r.lc, .slice r.pa r.pauses.length r.pc, .int .i64 r.fw, .int .i64 r.fp, .int .i64 r.wh, .int .i64 r.pl] 27)).alloc (.cells #[.int .i64 0, .int .i64 0, .int .i64 0, .int .i64 0, .int .i64 0, .int .i64 0, .bool false, .slice none 0 0, .slice none 0 0, .int .i64 0, .int .i64 0, .int .i64 0, .int .i64 0] 27)).heap.size from by simp))
  generalize hW : ((x.w.alloc (.cells #[.int .i64 r.id, .int .i64 r.rd, .int .i64 r.s0, .int .i64 r.s1, .int .i64 r.e0, .int .i64 r.e1, .bool r.op, .slice r.la r.legs.length r.lc, .slice r.pa r.pauses.length r.pc, .int .i64 r.fw, .int .i64 r.fp, .int .i64 r.wh, .int .i64 r.pl] 27)).alloc (.cells #[.int .i64 0, .int .i64 0, .int .i64 0, .int .i64 0, .int .i64 0, .int .i64 0, .bool false, .slice none 0 0, .slice none 0 0, .int .i64 0, .int .i64 0, .int .i64 0, .int .i64 0] 27)) = W at *
  clear hW
  generalize x.w.heap.size = bx at *
  have Hup := Lib.hid (Since.up hWup)
  rw [hy0]
  clear hy0
  replace H := Lib.hid (H.out.to hWup)
  clear hWup hf0
  go_upto_region 2 with fail
  have hx0 : (y0.w.alloc (.cells #[.int .i64 r.id, .int .i64 r.rd, .int .i64 r.s0, .int .i64 r.s1, .int .i64 r.e0, .int .i64 r.e1, .bool r.op, .slice r.la r.legs.length r.lc, .slice r.pa r.pauses.length r.pc, .int .i64 r.fw, .int .i64 r.fp, .int .i64 r.wh, .int .i64 r.pl] 27)).cell? ⟨y0.w.heap.size, 0, none⟩ = some (.int .i64 r.id) := by simp [go_sem]
  have hx1 : (y0.w.alloc (.cells #[.int .i64 r.id, .int .i64 r.rd, .int .i64 r.s0, .int .i64 r.s1, .int .i64 r.e0, .int .i64 r.e1, .bool r.op, .slice r.la r.legs.length r.lc, .slice r.pa r.pauses.length r.pc, .int .i64 r.fw, .int .i64 r.fp, .int .i64 r.wh, .int .i64 r.pl] 27)).cell? ⟨y0.w.heap.size, 1, none⟩ = some (.int .i64 r.rd) := by simp [go_sem]
  have hx2 : (y0.w.alloc (.cells #[.int .i64 r.id, .int .i64 r.rd, .int .i64 r.s0, .int .i64 r.s1, .int .i64 r.e0, .int .i64 r.e1, .bool r.op, .slice r.la r.legs.length r.lc, .slice r.pa r.pauses.length r.pc, .int .i64 r.fw, .int .i64 r.fp, .int .i64 r.wh, .int .i64 r.pl] 27)).cell? ⟨y0.w.heap.size, 2, none⟩ = some (.int .i64 r.s0) := by simp [go_sem]
  have hx3 : (y0.w.alloc (.cells #[.int .i64 r.id, .int .i64 r.rd, .int .i64 r.s0, .int .i64 r.s1, .int .i64 r.e0, .int .i64 r.e1, .bool r.op, .slice r.la r.legs.length r.lc, .slice r.pa r.pauses.length r.pc, .int .i64 r.fw, .int .i64 r.fp, .int .i64 r.wh, .int .i64 r.pl] 27)).cell? ⟨y0.w.heap.size, 3, none⟩ = some (.int .i64 r.s1) := by simp [go_sem]
  have hx4 : (y0.w.alloc (.cells #[.int .i64 r.id, .int .i64 r.rd, .int .i64 r.s0, .int .i64 r.s1, .int .i64 r.e0, .int .i64 r.e1, .bool r.op, .slice r.la r.legs.length r.lc, .slice r.pa r.pauses.length r.pc, .int .i64 r.fw, .int .i64 r.fp, .int .i64 r.wh, .int .i64 r.pl] 27)).cell? ⟨y0.w.heap.size, 4, none⟩ = some (.int .i64 r.e0) := by simp [go_sem]
  have hx5 : (y0.w.alloc (.cells #[.int .i64 r.id, .int .i64 r.rd, .int .i64 r.s0, .int .i64 r.s1, .int .i64 r.e0, .int .i64 r.e1, .bool r.op, .slice r.la r.legs.length r.lc, .slice r.pa r.pauses.length r.pc, .int .i64 r.fw, .int .i64 r.fp, .int .i64 r.wh, .int .i64 r.pl] 27)).cell? ⟨y0.w.heap.size, 5, none⟩ = some (.int .i64 r.e1) := by simp [go_sem]
  have hx6 : (y0.w.alloc (.cells #[.int .i64 r.id, .int .i64 r.rd, .int .i64 r.s0, .int .i64 r.s1, .int .i64 r.e0, .int .i64 r.e1, .bool r.op, .slice r.la r.legs.length r.lc, .slice r.pa r.pauses.length r.pc, .int .i64 r.fw, .int .i64 r.fp, .int .i64 r.wh, .int .i64 r.pl] 27)).cell? ⟨y0.w.heap.size, 6, none⟩ = some (.bool r.op) := by simp [go_sem]
  have hx7 : (y0.w.alloc (.cells #[.int .i64 r.id, .int .i64 r.rd, .int .i64 r.s0, .int .i64 r.s1, .int .i64 r.e0, .int .i64 r.e1, .bool r.op, .slice r.la r.legs.length r.lc, .slice r.pa r.pauses.length r.pc, .int .i64 r.fw, .int .i64 r.fp, .int .i64 r.wh, .int .i64 r.pl] 27)).cell? ⟨y0.w.heap.size, 7, none⟩ = some (.slice r.la r.legs.length r.lc) := by simp [go_sem]
  have hx8 : (y0.w.alloc (.cells #[.int .i64 r.id, .int .i64 r.rd, .int .i64 r.s0, .int .i64 r.s1, .int .i64 r.e0, .int .i64 r.e1, .bool r.op, .slice r.la r.legs.length r.lc, .slice r.pa r.pauses.length r.pc, .int .i64 r.fw, .int .i64 r.fp, .int .i64 r.wh, .int .i64 r.pl] 27)).cell? ⟨y0.w.heap.size, 8, none⟩ = some (.slice r.pa r.pauses.length r.pc) := by simp [go_sem]
  have hx9 : (y0.w.alloc (.cells #[.int .i64 r.id, .int .i64 r.rd, .int .i64 r.s0, .int .i64 r.s1, .int .i64 r.e0, .int .i64 r.e1, .bool r.op, .slice r.la r.legs.length r.lc, .slice r.pa r.pauses.length r.pc, .int .i64 r.fw, .int .i64 r.fp, .int .i64 r.wh, .int .i64 r.pl] 27)).cell? ⟨y0.w.heap.size, 9, none⟩ = some (.int .i64 r.fw) := by simp [go_sem]
  have hx10 : (y0.w.alloc (.cells #[.int .i64 r.id, .int .i64 r.rd, .int .i64 r.s0, .int .i64 r.s1, .int .i64 r.e0, .int .i64 r.e1, .bool r.op, .slice r.la r.legs.length r.lc, .slice r.pa r.pauses.length r.pc, .int .i64 r.fw, .int .i64 r.fp, .int .i64 r.wh, .int .i64 r.pl] 27)).cell? ⟨y0.w.heap.size, 10, none⟩ = some (.int .i64 r.fp) := by simp [go_sem]
  have hx11 : (y0.w.alloc (.cells #[.int .i64 r.id, .int .i64 r.rd, .int .i64 r.s0, .int .i64 r.s1, .int .i64 r.e0, .int .i64 r.e1, .bool r.op, .slice r.la r.legs.length r.lc, .slice r.pa r.pauses.length r.pc, .int .i64 r.fw, .int .i64 r.fp, .int .i64 r.wh, .int .i64 r.pl] 27)).cell? ⟨y0.w.heap.size, 11, none⟩ = some (.int .i64 r.wh) := by simp [go_sem]
  have hx12 : (y0.w.alloc (.cells #[.int .i64 r.id, .int .i64 r.rd, .int .i64 r.s0, .int .i64 r.s1, .int .i64 r.e0, .int .i64 r.e1, .bool r.op, .slice r.la r.legs.length r.lc, .slice r.pa r.pauses.length r.pc, .int .i64 r.fw, .int .i64 r.fp, .int .i64 r.wh, .int .i64 r.pl] 27)).cell? ⟨y0.w.heap.size, 12, none⟩ = some (.int .i64 r.pl) := by simp [go_sem]
  have hxf : ∀ o, (y0.w.alloc (.cells #[.int .i64 r.id, .int .i64 r.rd, .int .i64 r.s0, .int .i64 r.s1, .int .i64 r.e0, .int .i64 r.e1, .bool r.op, .slice r.la r.legs.length r.lc, .slice r.pa r.pauses.length r.pc, .int .i64 r.fw, .int .i64 r.fp, .int .i64 r.wh, .int .i64 r.pl] 27)).frozen? ⟨y0.w.heap.size, o, none⟩ = false := fun o => by simp [go_sem]
  have hlt0 : y0.w.heap.size < (y0.w.alloc (.cells #[.int .i64 r.id, .int .i64 r.rd, .int .i64 r.s0, .int .i64 r.s1, .int .i64 r.e0, .int .i64 r.e1, .bool r.op, .slice r.la r.legs.length r.lc, .slice r.pa r.pauses.length r.pc, .int .i64 r.fw, .int .i64 r.fp, .int .i64 r.wh, .int .i64 r.pl] 27)).heap.size := by simp
  have hst0 : ∃ zz : Since y0.w, (y0.w.alloc (.cells #[.int .i64 r.id, .int .i64 r.rd, .int .i64 r.s0, .int .i64 r.s1, .int .i64 r.e0, .int .i64 r.e1, .bool r.op, .slice r.la r.legs.length r.lc, .slice r.pa r.pauses.length r.pc, .int .i64 r.fw, .int .i64 r.fp, .int .i64 r.wh, .int .i64 r.pl] 27)) = zz.w := IsSince.alloc (IsSince.self _) _
  have hsz0 := y0.b.size
  obtain ⟨y1, e2⟩ := IsSince.alloc (IsSince.of y0) (.cells #[.int .i64 r.id, .int .i64 r.rd, .int .i64 r.s0, .int .i64 r.s1, .int .i64 r.e0, .int .i64 r.e1, .bool r.op, .slice r.la r.legs.length r.lc, .slice r.pa r.pauses.length r.pc, .int .i64 r.fw, .int .i64 r.fp, .int .i64 r.wh, .int .i64 r.pl] 27)
  rw [e2] at hx0 hx1 hx2 hx3 hx4 hx5 hx6 hx7 hx8 hx9 hx10 hx11 hx12 hxf hlt0 hst0 ⊢
  (have hbx := BoxIs.new y0.w [.int .i64 r.id, .int .i64 r.rd, .int .i64 r.s0, .int .i64 r.s1, .int .i64 r.e0, .int .i64 r.e1, .bool r.op, .slice r.la r.legs.length r.lc, .slice r.pa r.pauses.length r.pc, .int .i64 r.fw, .int .i64 r.fp, .int .i64 r.wh, .int .i64 r.pl] 27; rw [e2] at hbx)
  clear e2 hst0
  generalize y0.w.heap.size = gx at *
  have Hhx0 : ∀ q : Since y1.w, q.w.cell? ⟨gx, 0, none⟩ = some (.int .i64 r.id) := fun q => Since.cell hx0 (by omega) q
  have Hhx1 : ∀ q : Since y1.w, q.w.cell? ⟨gx, 1, none⟩ = some (.int .i64 r.rd) := fun q => Since.cell hx1 (by omega) q
  have Hhx2 : ∀ q : Since y1.w, q.w.cell? ⟨gx, 2, none⟩ = some (.int .i64 r.s0) := fun q => Since.cell hx2 (by omega) q
  have Hhx3 : ∀ q : Since y1.w, q.w.cell? ⟨gx, 3, none⟩ = some (.int .i64 r.s1) := fun q => Since.cell hx3 (by omega) q
  have Hhx4 : ∀ q : Since y1.w, q.w.cell? ⟨gx, 4, none⟩ = some (.int .i64 r.e0) := fun q => Since.cell hx4 (by omega) q
  have Hhx5 : ∀ q : Since y1.w, q.w.cell? ⟨gx, 5, none⟩ = some (.int .i64 r.e1) := fun q => Since.cell hx5 (by omega) q
  have Hhx6 : ∀ q : Since y1.w, q.w.cell? ⟨gx, 6, none⟩ = some (.bool r.op) := fun q => Since.cell hx6 (by omega) q
  have Hhx7 : ∀ q : Since y1.w, q.w.cell? ⟨gx, 7, none⟩ = some (.slice r.la r.legs.length r.lc) := fun q => Since.cell hx7 (by omega) q
  have Hhx8 : ∀ q : Since y1.w, q.w.cell? ⟨gx, 8, none⟩ = some (.slice r.pa r.pauses.length r.pc) := fun q => Since.cell hx8 (by omega) q
  have Hhx9 : ∀ q : Since y1.w, q.w.cell? ⟨gx, 9, none⟩ = some (.int .i64 r.fw) := fun q => Since.cell hx9 (by omega) q
  have Hhx10 : ∀ q : Since y1.w, q.w.cell? ⟨gx, 10, none⟩ = some (.int .i64 r.fp) := fun q => Since.cell hx10 (by omega) q
  have Hhx11 : ∀ q : Since y1.w, q.w.cell? ⟨gx, 11, none⟩ = some (.int .i64 r.wh) := fun q => Since.cell hx11 (by omega) q
  have Hhx12 : ∀ q : Since y1.w, q.w.cell? ⟨gx, 12, none⟩ = some (.int .i64 r.pl) := fun q => Since.cell hx12 (by omega) q
  have Hhxf : ∀ (q : Since y1.w) (o : Nat), q.w.frozen? ⟨gx, o, none⟩ = false := fun q o => Since.free (hxf o) (by omega) q
  have Hhxg := Lib.hid (And.intro hsz0 hlt0)
  clear hlt0 hsz0
  have HX := Lib.hid hbx
  have Hgx := Lib.hid Hhxg.out.1
  clear hbx hx0 Hhx0 hx1 Hhx1 hx2 Hhx2 hx3 Hhx3 hx4 Hhx4 hx5 Hhx5 hx6 Hhx6 hx7 Hhx7 hx8 Hhx8 hx9 Hhx9 hx10 Hhx10 hx11 Hhx11 hx12 Hhx12 hxf Hhxf
  have hxf2 := HX.out.f
  go_upto_region 3 with (go_at_call 48; ((with_reducible refine (least_s (W := W) _ (IsSince.of y1) r.s0 r.s1).mono ?_); rintro _ _ ⟨rfl, y2, rfl, hz⟩; replace HX := Lib.hid (HX.out.to hz); have hxf3 := HX.out.f; have hxc2 := HX.out.c 2 _ rfl; have hxc3 := HX.out.c 3 _ rfl; clear hz))
  clear hxf2 hxf3 hxc2 hxc3
  have hX9 := (HX.out.setj (j := 2) (by simp) (.int .i64 r.s0)).setj (j := 3) (by simp) (.int .i64 r.s0)
  obtain ⟨z1, h1⟩ := y2.set ⟨gx, 2, none⟩ Hgx.out (.int .i64 r.s0)
  obtain ⟨y3, h2⟩ := z1.set ⟨gx, 3, none⟩ Hgx.out (.int .i64 r.s0)
  rw [← h1] at h2
  rw [h2] at hX9 ⊢
  replace HX := Lib.hid hX9
  clear hX9 h1 h2
  have hxf2 := HX.out.f
  go_upto_region 4 with (go_at_call 48; ((with_reducible refine (least_s (W := W) _ (IsSince.of y3) r.e0 r.e1).mono ?_); rintro _ _ ⟨rfl, y4, rfl, hz⟩; replace HX := Lib.hid (HX.out.to hz); have hxf3 := HX.out.f; have hxc2 := HX.out.c 4 _ rfl; have hxc3 := HX.out.c 5 _ rfl; clear hz))
  clear hxf2 hxf3 hxc2 hxc3
  have hX9 := (HX.out.setj (j := 4) (by simp) (.int .i64 r.e0)).setj (j := 5) (by simp) (.int .i64 r.e0)
  obtain ⟨z1, h1⟩ := y4.set ⟨gx, 4, none⟩ Hgx.out (.int .i64 r.e0)
  obtain ⟨y5, h2⟩ := z1.set ⟨gx, 5, none⟩ Hgx.out (.int .i64 r.e0)
  rw [← h1] at h2
  rw [h2] at hX9 ⊢
  replace HX := Lib.hid hX9
  clear hX9 h1 h2
  have hxf2 := HX.out.f
  have hxc2 := HX.out.c 7 _ rfl
  go_upto_region 5 with fail
  clear hxf2 hxc2
  have hX9 := HX.out.setj (j := 7) (by simp) (.slice none 0 0)
  obtain ⟨y6, h2⟩ := y5.set ⟨gx, 7, none⟩ Hgx.out (.slice none 0 0)
  rw [h2] at hX9 ⊢
  replace HX := Lib.hid hX9
  clear hX9 h2
  have hxf2 := HX.out.f
  have hxc2 := HX.out.c 8 _ rfl
  go_upto_region 6 with fail
  clear hxf2 hxc2
  have hX9 := HX.out.setj (j := 8) (by simp) (.slice none 0 0)
  obtain ⟨y7, h2⟩ := y6.set ⟨gx, 8, none⟩ Hgx.out (.slice none 0 0)
  rw [h2] at hX9 ⊢
  replace HX := Lib.hid hX9
  clear hX9 h2
  replace HX := Lib.hid (show BoxIs y7.w gx [.int .i64 r.id, .int .i64 r.rd, .int .i64 r.s0, .int .i64 r.s0, .int .i64 r.e0, .int .i64 r.e0, .bool r.op, .slice none 0 0, .slice none 0 0, .int .i64 r.fw, .int .i64 r.fp, .int .i64 r.wh, .int .i64 r.pl] from HX.out)
  obtain ⟨n, hn⟩ : ∃ n, n = r.legs.length := ⟨_, rfl⟩
  rw [← hn] at hlm hb0_7
  have Hn := Lib.hid hn
  clear hn Hhxg
  go_wp2_with fail
  go_loopw [4] (fun si wr => ∃ (k : Nat) (v : Value) (y : Since W), k ≤ n ∧ si = .int .i64 (k : Int) ∧ wr = y.w ∧ BoxIs y.w gx [.int .i64 r.id, .int .i64 r.rd, .int .i64 r.s0, .int .i64 r.s0, .int .i64 r.e0, .int .i64 r.e0, .bool r.op, v, .slice none 0 0, .int .i64 r.fw, .int .i64 r.fp, .int .i64 r.wh, .int .i64 r.pl] ∧ y.w.ownsRow W.heap.size 60 5 v k (flat Leg.cs ((r.legs.take k).map exL)) ∧ (∀ b, v.ownBlock = some b → b ≠ gx)) (fun si _ => n - (intOf si).toNat)
  case atStart => exact ⟨0, .slice none 0 0, y7, by omega, rfl, rfl, HX.out, ⟨rfl, .inl ⟨rfl, rfl⟩⟩, fun b hb => by cases hb⟩
  case round =>
    obtain ⟨k, v, y, hk, rfl, rfl, hX, hown, hdis⟩ := hrel
    replace HX := Lib.hid hX
    have Hown := Lib.hid hown
    have Hdis := Lib.hid hdis
    clear hX hown hdis
    by_cases hlt : k < n
    · have hk0 : (0 : Int) ≤ (k : Int) := by omega
      have hkl : (k : Int) < (n : Int) := by omega
      obtain ⟨e, he⟩ : ∃ e, r.legs[k]? = some e := ⟨_, List.getElem?_eq_getElem (by have := Hn.out; omega)⟩
      obtain ⟨b1, off1, hal, h1'⟩ := Els.leg H.out.l he
      have Htk := Lib.hid (show r.legs.take (k + 1) = r.legs.take k ++ [e] by rw [List.take_add_one, he]; rfl)
      rw [hal] at hb0_7
      have ra0 := h1'.c0
      have ra1 := h1'.c1
      have ra2 := h1'.c2
      have ra3 := h1'.c3
      have ra4 := h1'.c4
      clear h1' he hal
      have k7 := fun w' (h : IsSince W w') => IsSince.cell hb0_7 h
      have j0 := fun w' (h : IsSince W w') => IsSince.cell ra0 h
      have j1 := fun w' (h : IsSince W w') => IsSince.cell ra1 h
      have j2 := fun w' (h : IsSince W w') => IsSince.cell ra2 h
      have j3 := fun w' (h : IsSince W w') => IsSince.cell ra3 h
      have j4 := fun w' (h : IsSince W w') => IsSince.cell ra4 h
      clear ra0 ra1 ra2 ra3 ra4
      go_wp2_with fail
      clear hb0_7
      have hxc := HX.out.c 7 _ rfl
      refine wp_region_M (fun w' => IsSince W w' ∧ w'.cell? ⟨gx, 7, none⟩ = some v) 26 (by kernel_rfl) ⟨IsSince.drew' (IsSince.of y), hxc⟩ (fun hS => ?_)
      refine wpAnyM_take (i := 0) (v := ?_) rfl (by kernel_rfl) (by kernel_rfl) (by kernel_rfl) (by kernel_rfl) (fun _ _ _ h => h) hS (Or.inl ⟨by rfl, ?_⟩) ?_
      rotate_left
      · (intro w hSw; (try dsimp only at hSw); go_split_ands; go_simp; try (with_reducible rfl))
      (try simp only [Act.put, List.setIfInBounds_toArray, List.set_cons_zero, List.set_cons_succ])
      refine wpAnyM_take (i := 1) (v := ?_) rfl (by kernel_rfl) (by kernel_rfl) (by kernel_rfl) (by kernel_rfl) (fun _ _ _ h => h) hS (Or.inl ⟨by rfl, ?_⟩) ?_
      rotate_left
      · (intro w hSw; (try dsimp only at hSw); go_split_ands; go_simp; try (with_reducible rfl))
      (try simp only [Act.put, List.setIfInBounds_toArray, List.set_cons_zero, List.set_cons_succ])
      refine wpAnyM_take (i := 2) (v := ?_) rfl (by kernel_rfl) (by kernel_rfl) (by kernel_rfl) (by kernel_rfl) (fun _ _ _ h => h) hS (Or.inl ⟨by rfl, ?_⟩) ?_
      rotate_left
      · (intro w hSw; (try dsimp only at hSw); go_split_ands; go_simp; try (with_reducible rfl))
      (try simp only [Act.put, List.setIfInBounds_toArray, List.set_cons_zero, List.set_cons_succ])
      refine wpAnyM_take (i := 3) (v := ?_) rfl (by kernel_rfl) (by kernel_rfl) (by kernel_rfl) (by kernel_rfl) (fun _ _ _ h => h) hS (Or.inl ⟨by rfl, ?_⟩) ?_
      rotate_left
      · (intro w hSw; (try dsimp only at hSw); go_split_ands; go_simp; try (with_reducible rfl))
      (try simp only [Act.put, List.setIfInBounds_toArray, List.set_cons_zero, List.set_cons_succ])
      refine wpAnyM_take (i := 4) (v := ?_) rfl (by kernel_rfl) (by kernel_rfl) (by kernel_rfl) (by kernel_rfl) (fun _ _ _ h => h) hS (Or.inl ⟨by rfl, ?_⟩) ?_
      rotate_left
      · (intro w hSw; (try dsimp only at hSw); go_split_ands; go_simp; try (with_reducible rfl))
      (try simp only [Act.put, List.setIfInBounds_toArray, List.set_cons_zero, List.set_cons_succ])
      refine wpAnyM_take (i := 5) (v := ?_) rfl (by kernel_rfl) (by kernel_rfl) (by kernel_rfl) (by kernel_rfl) (fun _ _ _ h => h) hS (Or.inl ⟨by rfl, ?_⟩) ?_
      rotate_left
      · (intro w hSw; (try dsimp only at hSw); go_split_ands; go_simp; try (with_reducible rfl))
      (try simp only [Act.put, List.setIfInBounds_toArray, List.set_cons_zero, List.set_cons_succ])
      refine wpAnyM_take (i := 6) (v := ?_) rfl (by kernel_rfl) (by kernel_rfl) (by kernel_rfl) (by kernel_rfl) (fun _ _ _ h => h) hS (Or.inl ⟨by rfl, ?_⟩) ?_
      rotate_left
      · (intro w hSw; (try dsimp only at hSw); go_split_ands; go_simp; try (with_reducible rfl))
      (try simp only [Act.put, List.setIfInBounds_toArray, List.set_cons_zero, List.set_cons_succ])
      refine wpAnyM_take (i := 7) (v := ?_) rfl (by kernel_rfl) (by kernel_rfl) (by kernel_rfl) (by kernel_rfl) (fun _ _ _ h => h) hS (Or.inl ⟨by rfl, ?_⟩) ?_
      rotate_left
      · (intro w hSw; (try dsimp only at hSw); go_split_ands; go_simp; try (with_reducible rfl))
      (try simp only [Act.put, List.setIfInBounds_toArray, List.set_cons_zero, List.set_cons_succ])
      refine wpAnyM_take (i := 8) (v := ?_) rfl (by kernel_rfl) (by kernel_rfl) (by kernel_rfl) (by kernel_rfl) (fun _ _ _ h => h) hS (Or.inl ⟨by rfl, ?_⟩) ?_
      rotate_left
      · (intro w hSw; (try dsimp only at hSw); go_split_ands; go_simp; try (with_reducible rfl))
      (try simp only [Act.put, List.setIfInBounds_toArray, List.set_cons_zero, List.set_cons_succ])
      refine wpAnyM_take (i := 9) (v := ?_) rfl (by kernel_rfl) (by kernel_rfl) (by kernel_rfl) (by kernel_rfl) (fun _ _ _ h => h) hS (Or.inl ⟨by rfl, ?_⟩) ?_
      rotate_left
      · (intro w hSw; (try dsimp only at hSw); go_split_ands; go_simp; try (with_reducible rfl))
      (try simp only [Act.put, List.setIfInBounds_toArray, List.set_cons_zero, List.set_cons_succ])
      refine wpAnyM_take (i := 10) (v := ?_) rfl (by kernel_rfl) (by kernel_rfl) (by kernel_rfl) (by kernel_rfl) (fun _ _ _ h => h) hS (Or.inl ⟨by rfl, ?_⟩) ?_
      rotate_left
      · (intro w hSw; (try dsimp only at hSw); go_split_ands; go_simp; try (with_reducible rfl))
      (try simp only [Act.put, List.setIfInBounds_toArray, List.set_cons_zero, List.set_cons_succ])
      refine wpAnyM_take (i := 11) (v := ?_) rfl (by kernel_rfl) (by kernel_rfl) (by kernel_rfl) (by kernel_rfl) (fun _ _ _ h => h) hS (Or.inl ⟨by rfl, ?_⟩) ?_
      rotate_left
      · (intro w hSw; (try dsimp only at hSw); go_split_ands; go_simp; try (with_reducible rfl))
      (try simp only [Act.put, List.setIfInBounds_toArray, List.set_cons_zero, List.set_cons_succ])
      refine wpAnyM_take (i := 12) (v := ?_) rfl (by kernel_rfl) (by kernel_rfl) (by kernel_rfl) (by kernel_rfl) (fun _ _ _ h => h) hS (Or.inl ⟨by rfl, ?_⟩) ?_
      rotate_left
      · (intro w hSw; (try dsimp only at hSw); go_split_ands; go_simp; try (with_reducible rfl))
      (try simp only [Act.put, List.setIfInBounds_toArray, List.set_cons_zero, List.set_cons_succ])
      refine wpAnyM_take (i := 13) (v := ?_) rfl (by kernel_rfl) (by kernel_rfl) (by kernel_rfl) (by kernel_rfl) (fun _ _ _ h => h) hS (Or.inl ⟨by rfl, ?_⟩) ?_
      rotate_left
      · (intro w hSw; (try dsimp only at hSw); go_split_ands; go_simp; try (with_reducible rfl))
      (try simp only [Act.put, List.setIfInBounds_toArray, List.set_cons_zero, List.set_cons_succ])
      refine wpAnyM_take (i := 15) (v := ?_) rfl (by kernel_rfl) (by kernel_rfl) (by kernel_rfl) (by kernel_rfl) (fun _ _ _ h => h) hS (Or.inl ⟨by rfl, ?_⟩) ?_
      rotate_left
      · (intro w hSw; (try dsimp only at hSw); go_split_ands; go_simp; try (with_reducible rfl))
      (try simp only [Act.put, List.setIfInBounds_toArray, List.set_cons_zero, List.set_cons_succ])
      refine wpAnyM_take (i := 16) (v := ?_) rfl (by kernel_rfl) (by kernel_rfl) (by kernel_rfl) (by kernel_rfl) (fun _ _ _ h => h) hS (Or.inl ⟨by rfl, ?_⟩) ?_
      rotate_left
      · (intro w hSw; (try dsimp only at hSw); go_split_ands; go_simp; try (with_reducible rfl))
      (try simp only [Act.put, List.setIfInBounds_toArray, List.set_cons_zero, List.set_cons_succ])
      refine wpAnyM_take (i := 17) (v := ?_) rfl (by kernel_rfl) (by kernel_rfl) (by kernel_rfl) (by kernel_rfl) (fun _ _ _ h => h) hS (Or.inl ⟨by rfl, ?_⟩) ?_
      rotate_left
      · (intro w hSw; (try dsimp only at hSw); go_split_ands; go_simp; try (with_reducible rfl))
      (try simp only [Act.put, List.setIfInBounds_toArray, List.set_cons_zero, List.set_cons_succ])
      refine wpAnyM_take (i := 18) (v := ?_) rfl (by kernel_rfl) (by kernel_rfl) (by kernel_rfl) (by kernel_rfl) (fun _ _ _ h => h) hS (Or.inl ⟨by rfl, ?_⟩) ?_
      rotate_left
      · (intro w hSw; (try dsimp only at hSw); go_split_ands; go_simp; try (with_reducible rfl))
      (try simp only [Act.put, List.setIfInBounds_toArray, List.set_cons_zero, List.set_cons_succ])
      refine wpAnyM_take (i := 19) (v := ?_) rfl (by kernel_rfl) (by kernel_rfl) (by kernel_rfl) (by kernel_rfl) (fun _ _ _ h => h) hS (Or.inl ⟨by rfl, ?_⟩) ?_
      rotate_left
      · (intro w hSw; (try dsimp only at hSw); go_split_ands; go_simp; try (with_reducible rfl))
      (try simp only [Act.put, List.setIfInBounds_toArray, List.set_cons_zero, List.set_cons_succ])
      refine wpAnyM_take (i := 20) (v := ?_) rfl (by kernel_rfl) (by kernel_rfl) (by kernel_rfl) (by kernel_rfl) (fun _ _ _ h => h) hS (Or.inl ⟨by rfl, ?_⟩) ?_
      rotate_left
      · (intro w hSw; (try dsimp only at hSw); go_split_ands; go_simp; try (with_reducible rfl))
      (try simp only [Act.put, List.setIfInBounds_toArray, List.set_cons_zero, List.set_cons_succ])
      refine wpAnyM_one (i := 14) (by kernel_rfl) rfl (fun K hK => ?_)
      (go_simp; (with_reducible refine (least_s (W := W) _ hS.1 e.f0 e.f1).mono ?_); rintro _ _ ⟨rfl, z1, rfl, hz1⟩; have hA := HX.out.drew.to hz1; have hO := own_to (own_to Hown.out (IsSince.drew' (IsSince.self _))) hz1)
      refine hK.out _ _ (Or.inr (⟨IsSince.of z1, hA.c 7 _ rfl⟩)) (fun hS' => ?_)
      replace hS := hS'.resolve_left (by decide)
      clear hK K hS'
      (try simp only [Act.put, List.setIfInBounds_toArray, List.set_cons_zero, List.set_cons_succ])
      refine wpAnyM_one (i := 21) (by kernel_rfl) rfl (fun K hK => ?_)
      (go_simp; (with_reducible refine (least_s (W := W) _ hS.1 e.t0 e.t1).mono ?_); rintro _ _ ⟨rfl, z2, rfl, hz2⟩; replace hA := hA.to hz2; replace hO := own_to hO hz2)
      refine hK.out _ _ (Or.inr (⟨IsSince.of z2, hA.c 7 _ rfl⟩)) (fun hS' => ?_)
      replace hS := hS'.resolve_left (by decide)
      clear hK K hS'
      (try simp only [Act.put, List.setIfInBounds_toArray, List.set_cons_zero, List.set_cons_succ])
      refine wpAnyM_take (i := 22) (v := ?_) rfl (by kernel_rfl) (by kernel_rfl) (by kernel_rfl) (by kernel_rfl) (fun _ _ _ h => h) hS (Or.inl ⟨by rfl, ?_⟩) ?_
      rotate_left
      · (intro w hSw; (try dsimp only at hSw); go_split_ands; go_simp; try (with_reducible rfl))
      (try simp only [Act.put, List.setIfInBounds_toArray, List.set_cons_zero, List.set_cons_succ])
      refine wpAnyM_one (i := 23) (by kernel_rfl) rfl (fun K hK => ?_)
      go_simp
      refine hK.out _ _ (Or.inr (⟨IsSince.alloc (IsSince.of z2) _, (hA.up _).c 7 _ rfl⟩)) (fun hS' => ?_)
      replace hS := hS'.resolve_left (by decide)
      clear hK K hS'
      (try simp only [Act.put, List.setIfInBounds_toArray, List.set_cons_zero, List.set_cons_succ])
      refine wpAnyM_one (i := 24) (by kernel_rfl) rfl (fun K hK => ?_)
      (refine step_appL (k := 5) (w0 := W) hS.1 rfl _ _ 24 rfl W.heap.size (Nat.le_refl _) (IsSince.size hS.1) 60 (.agg #[.int .i64 0, .int .i64 0, .int .i64 0, .int .i64 0, .int .i64 0]) 40 sLegX v k (flat Leg.cs ((r.legs.take k).map exL)) rfl (own_up hO) ⟨z2.w.heap.size, 0, none⟩ 1 1 (exL e).cs rfl rfl (blk_cells _ _ rfl) (legX_one _) Nat.one_pos (by unfold maxLen; omega) (by omega) ?_; intro v2 q2 hown2 hg2 hl2; obtain ⟨a2, n2, c2, rfl⟩ := own_slice hown2; have hX2 := (hA.up _).grown hg2 (fun h => Hdis.out gx h.symm rfl); have hxc2 := hX2.c 7 _ rfl; have hxf2 := hX2.f)
      refine hK.out _ _ (Or.inr (⟨IsSince.of q2, hxc2⟩)) (fun hS' => ?_)
      replace hS := hS'.resolve_left (by decide)
      clear hK K hS'
      (try simp only [Act.put, List.setIfInBounds_toArray, List.set_cons_zero, List.set_cons_succ])
      refine wpAnyM_take (i := 25) (v := ?_) rfl (by kernel_rfl) (by kernel_rfl) (by kernel_rfl) (by kernel_rfl) (fun _ _ _ h => h) hS (Or.inl ⟨by rfl, ?_⟩) ?_
      rotate_left
      · (intro w hSw; (try dsimp only at hSw); go_split_ands; go_simp; try (with_reducible rfl))
      (try simp only [Act.put, List.setIfInBounds_toArray, List.set_cons_zero, List.set_cons_succ])
      refine wpAnyM_one (i := 26) (by kernel_rfl) rfl (fun K hK => ?_)
      go_simp
      refine hK.out _ _ (Or.inl rfl) (fun _ => ?_)
      clear hK K hS
      (try simp only [Act.put, List.setIfInBounds_toArray, List.set_cons_zero, List.set_cons_succ])
      refine wpAnyM_done (by kernel_rfl) ?_
      obtain ⟨y3, h3⟩ := q2.set ⟨gx, 7, none⟩ Hgx.out (.slice a2 n2 c2)
      have hX3 := hX2.setj (j := 7) (by simp) (.slice a2 n2 c2)
      have hd2 : ∀ b, (Value.slice a2 n2 c2).ownBlock = some b → b ≠ gx := fun b hb => by
        rcases hl2 b hb with h1 | h1
        · exact Hdis.out b h1
        · have := hA.lt; simp at h1; omega
      have hO3 := own_setB hown2 ⟨gx, 7, none⟩ (.slice a2 n2 c2) hd2
      rw [h3] at hX3 hO3 ⊢
      have HX3 := Lib.hid (show BoxIs y3.w gx [.int .i64 r.id, .int .i64 r.rd, .int .i64 r.s0, .int .i64 r.s0, .int .i64 r.e0, .int .i64 r.e0, .bool r.op, .slice a2 n2 c2, .slice none 0 0, .int .i64 r.fw, .int .i64 r.fp, .int .i64 r.wh, .int .i64 r.pl] from hX3)
      have HO3 := Lib.hid (show y3.w.ownsRow W.heap.size 60 5 (.slice a2 n2 c2) (k + 1) (flat Leg.cs ((r.legs.take (k + 1)).map exL)) by rw [Htk.out, List.map_append, flat_append]; simp only [List.map_cons, List.map_nil, flat_one]; exact hO3)
      have Hd2 := Lib.hid hd2
      clear hX3 hO3 h3 hd2 hX2 hxc2 hxf2 hown2 hg2 hl2 hA hO hz1 hz2 hxc k7 j0 j1 j2 j3 j4 Htk
      go_wp2_with fail
      go_roundw
      case rel => exact ⟨k + 1, .slice a2 n2 c2, y3, by omega, by go_num, rfl, HX3.out, HO3.out, Hd2.out⟩
      case measure => simp [intOf] <;> omega
    · obtain rfl : k = n := by omega
      obtain ⟨hx1, al, cl, rfl, hx2, hx3, hx4, hx5⟩ := own_els (l := (r.legs.take k).map exL) Leg.len (by decide) Hown.out
      have hlk : ((r.legs.take k).map exL).length = k := by rw [List.length_map, List.length_take]; have := Hn.out; omega
      rw [hlk] at HX Hown Hdis hx2 hx5
      clear hx1 hx2 hx3 hx4 hx5 hlk
      have HownL := Lib.hid Hown.out
      have HdisL := Lib.hid Hdis.out
      clear Hown Hdis
      obtain ⟨n2, hn2⟩ : ∃ n2, n2 = r.pauses.length := ⟨_, rfl⟩
      rw [← hn2] at hpm hb0_8
      have Hn2 := Lib.hid hn2
      clear hn2 hlt
      have hdone : ¬ (k : Int) < (k : Int) := by omega
      go_wp2_with fail
      clear hdone
      go_loopw [5] (fun si wr => ∃ (j : Nat) (v : Value) (z : Since W), j ≤ n2 ∧ si = .int .i64 (j : Int) ∧ wr = z.w ∧ BoxIs z.w gx [.int .i64 r.id, .int .i64 r.rd, .int .i64 r.s0, .int .i64 r.s0, .int .i64 r.e0, .int .i64 r.e0, .bool r.op, .slice al k cl, v, .int .i64 r.fw, .int .i64 r.fp, .int .i64 r.wh, .int .i64 r.pl] ∧ z.w.ownsRow W.heap.size 52 4 v j (flat Pse.cs ((r.pauses.take j).map exP)) ∧ (∀ b, v.ownBlock = some b → b ≠ gx) ∧ z.w.ownsRow W.heap.size 60 5 (.slice al k cl) k (flat Leg.cs ((r.legs.take k).map exL))) (fun si _ => n2 - (intOf si).toNat)
      case atStart => exact ⟨0, .slice none 0 0, y, by omega, rfl, rfl, HX.out, ⟨rfl, .inl ⟨rfl, rfl⟩⟩, (fun b hb => by cases hb), HownL.out⟩
      case round =>
        obtain ⟨j, v, z, hj, rfl, rfl, hX, hown, hdis, hownL⟩ := hrel
        replace HX := Lib.hid hX
        have Hown := Lib.hid hown
        have Hdis := Lib.hid hdis
        replace HownL := Lib.hid hownL
        clear hX hown hdis hownL
        by_cases hlt : j < n2
        · have hk0 : (0 : Int) ≤ (j : Int) := by omega
          have hkl : (j : Int) < (n2 : Int) := by omega
          obtain ⟨e, he⟩ : ∃ e, r.pauses[j]? = some e := ⟨_, List.getElem?_eq_getElem (by have := Hn2.out; omega)⟩
          obtain ⟨b1, off1, hal, h1'⟩ := Els.pse H.out.p he
          have Htk := Lib.hid (show r.pauses.take (j + 1) = r.pauses.take j ++ [e] by rw [List.take_add_one, he]; rfl)
          rw [hal] at hb0_8
          have ra0 := h1'.c0
          have ra1 := h1'.c1
          have ra2 := h1'.c2
          have ra3 := h1'.c3
          clear h1' he hal
          have k8 := fun w' (h : IsSince W w') => IsSince.cell hb0_8 h
          have j0 := fun w' (h : IsSince W w') => IsSince.cell ra0 h
          have j1 := fun w' (h : IsSince W w') => IsSince.cell ra1 h
          have j2 := fun w' (h : IsSince W w') => IsSince.cell ra2 h
          have j3 := fun w' (h : IsSince W w') => IsSince.cell ra3 h
          clear ra0 ra1 ra2 ra3
          go_wp2_with fail
          clear hb0_8
          have hxc := HX.out.c 8 _ rfl
          refine wp_region_M (fun w' => IsSince W w' ∧ w'.cell? ⟨gx, 8, none⟩ = some v) 20 (by kernel_rfl) ⟨IsSince.drew' (IsSince.of z), hxc⟩ (fun hS => ?_)
          refine wpAnyM_take (i := 0) (v := ?_) rfl (by kernel_rfl) (by kernel_rfl) (by kernel_rfl) (by kernel_rfl) (fun _ _ _ h => h) hS (Or.inl ⟨by rfl, ?_⟩) ?_
          rotate_left
          · (intro w hSw; (try dsimp only at hSw); go_split_ands; go_simp; try (with_reducible rfl))
          (try simp only [Act.put, List.setIfInBounds_toArray, List.set_cons_zero, List.set_cons_succ])
          refine wpAnyM_take (i := 1) (v := ?_) rfl (by kernel_rfl) (by kernel_rfl) (by kernel_rfl) (by kernel_rfl) (fun _ _ _ h => h) hS (Or.inl ⟨by rfl, ?_⟩) ?_
          rotate_left
          · (intro w hSw; (try dsimp only at hSw); go_split_ands; go_simp; try (with_reducible rfl))
          (try simp only [Act.put, List.setIfInBounds_toArray, List.set_cons_zero, List.set_cons_succ])
          refine wpAnyM_take (i := 2) (v := ?_) rfl (by kernel_rfl) (by kernel_rfl) (by kernel_rfl) (by kernel_rfl) (fun _ _ _ h => h) hS (Or.inl ⟨by rfl, ?_⟩) ?_
          rotate_left
          · (intro w hSw; (try dsimp only at hSw); go_split_ands; go_simp; try (with_reducible rfl))
          (try simp only [Act.put, List.setIfInBounds_toArray, List.set_cons_zero, List.set_cons_succ])
          refine wpAnyM_take (i := 3) (v := ?_) rfl (by kernel_rfl) (by kernel_rfl) (by kernel_rfl) (by kernel_rfl) (fun _ _ _ h => h) hS (Or.inl ⟨by rfl, ?_⟩) ?_
          rotate_left
          · (intro w hSw; (try dsimp only at hSw); go_split_ands; go_simp; try (with_reducible rfl))
          (try simp only [Act.put, List.setIfInBounds_toArray, List.set_cons_zero, List.set_cons_succ])
          refine wpAnyM_take (i := 4) (v := ?_) rfl (by kernel_rfl) (by kernel_rfl) (by kernel_rfl) (by kernel_rfl) (fun _ _ _ h => h) hS (Or.inl ⟨by rfl, ?_⟩) ?_
          rotate_left
          · (intro w hSw; (try dsimp only at hSw); go_split_ands; go_simp; try (with_reducible rfl))
          (try simp only [Act.put, List.setIfInBounds_toArray, List.set_cons_zero, List.set_cons_succ])
          refine wpAnyM_take (i := 5) (v := ?_) rfl (by kernel_rfl) (by kernel_rfl) (by kernel_rfl) (by kernel_rfl) (fun _ _ _ h => h) hS (Or.inl ⟨by rfl, ?_⟩) ?_
          rotate_left
          · (intro w hSw; (try dsimp only at hSw); go_split_ands; go_simp; try (with_reducible rfl))
          (try simp only [Act.put, List.setIfInBounds_toArray, List.set_cons_zero, List.set_cons_succ])
          refine wpAnyM_take (i := 6) (v := ?_) rfl (by kernel_rfl) (by kernel_rfl) (by kernel_rfl) (by kernel_rfl) (fun _ _ _ h => h) hS (Or.inl ⟨by rfl, ?_⟩) ?_
          rotate_left
          · (intro w hSw; (try dsimp only at hSw); go_split_ands; go_simp; try (with_reducible rfl))
          (try simp only [Act.put, List.setIfInBounds_toArray, List.set_cons_zero, List.set_cons_succ])
          refine wpAnyM_take (i := 7) (v := ?_) rfl (by kernel_rfl) (by kernel_rfl) (by kernel_rfl) (by kernel_rfl) (fun _ _ _ h => h) hS (Or.inl ⟨by rfl, ?_⟩) ?_
          rotate_left
          · (intro w hSw; (try dsimp only at hSw); go_split_ands; go_simp; try (with_reducible rfl))
          (try simp only [Act.put, List.setIfInBounds_toArray, List.set_cons_zero, List.set_cons_succ])
          refine wpAnyM_take (i := 9) (v := ?_) rfl (by kernel_rfl) (by kernel_rfl) (by kernel_rfl) (by kernel_rfl) (fun _ _ _ h => h) hS (Or.inl ⟨by rfl, ?_⟩) ?_
          rotate_left
          · (intro w hSw; (try dsimp only at hSw); go_split_ands; go_simp; try (with_reducible rfl))
          (try simp only [Act.put, List.setIfInBounds_toArray, List.set_cons_zero, List.set_cons_succ])
          refine wpAnyM_take (i := 10) (v := ?_) rfl (by kernel_rfl) (by kernel_rfl) (by kernel_rfl) (by kernel_rfl) (fun _ _ _ h => h) hS (Or.inl ⟨by rfl, ?_⟩) ?_
          rotate_left
          · (intro w hSw; (try dsimp only at hSw); go_split_ands; go_simp; try (with_reducible rfl))
          (try simp only [Act.put, List.setIfInBounds_toArray, List.set_cons_zero, List.set_cons_succ])
          refine wpAnyM_take (i := 11) (v := ?_) rfl (by kernel_rfl) (by kernel_rfl) (by kernel_rfl) (by kernel_rfl) (fun _ _ _ h => h) hS (Or.inl ⟨by rfl, ?_⟩) ?_
          rotate_left
          · (intro w hSw; (try dsimp only at hSw); go_split_ands; go_simp; try (with_reducible rfl))
          (try simp only [Act.put, List.setIfInBounds_toArray, List.set_cons_zero, List.set_cons_succ])
          refine wpAnyM_take (i := 12) (v := ?_) rfl (by kernel_rfl) (by kernel_rfl) (by kernel_rfl) (by kernel_rfl) (fun _ _ _ h => h) hS (Or.inl ⟨by rfl, ?_⟩) ?_
          rotate_left
          · (intro w hSw; (try dsimp only at hSw); go_split_ands; go_simp; try (with_reducible rfl))
          (try simp only [Act.put, List.setIfInBounds_toArray, List.set_cons_zero, List.set_cons_succ])
          refine wpAnyM_take (i := 13) (v := ?_) rfl (by kernel_rfl) (by kernel_rfl) (by kernel_rfl) (by kernel_rfl) (fun _ _ _ h => h) hS (Or.inl ⟨by rfl, ?_⟩) ?_
          rotate_left
          · (intro w hSw; (try dsimp only at hSw); go_split_ands; go_simp; try (with_reducible rfl))
          (try simp only [Act.put, List.setIfInBounds_toArray, List.set_cons_zero, List.set_cons_succ])
          refine wpAnyM_take (i := 14) (v := ?_) rfl (by kernel_rfl) (by kernel_rfl) (by kernel_rfl) (by kernel_rfl) (fun _ _ _ h => h) hS (Or.inl ⟨by rfl, ?_⟩) ?_
          rotate_left
          · (intro w hSw; (try dsimp only at hSw); go_split_ands; go_simp; try (with_reducible rfl))
          (try simp only [Act.put, List.setIfInBounds_toArray, List.set_cons_zero, List.set_cons_succ])
          refine wpAnyM_one (i := 8) (by kernel_rfl) rfl (fun K hK => ?_)
          (go_simp; (with_reducible refine (least_s (W := W) _ hS.1 e.f0 e.f1).mono ?_); rintro _ _ ⟨rfl, z1, rfl, hz1⟩; have hA := HX.out.drew.to hz1; have hO := own_to (own_to Hown.out (IsSince.drew' (IsSince.self _))) hz1; have hOL := own_to (own_to HownL.out (IsSince.drew' (IsSince.self _))) hz1)
          refine hK.out _ _ (Or.inr (⟨IsSince.of z1, hA.c 8 _ rfl⟩)) (fun hS' => ?_)
          replace hS := hS'.resolve_left (by decide)
          clear hK K hS'
          (try simp only [Act.put, List.setIfInBounds_toArray, List.set_cons_zero, List.set_cons_succ])
          refine wpAnyM_one (i := 15) (by kernel_rfl) rfl (fun K hK => ?_)
          (go_simp; (with_reducible refine (least_s (W := W) _ hS.1 e.t0 e.t1).mono ?_); rintro _ _ ⟨rfl, z2, rfl, hz2⟩; replace hA := hA.to hz2; replace hO := own_to hO hz2; replace hOL := own_to hOL hz2)
          refine hK.out _ _ (Or.inr (⟨IsSince.of z2, hA.c 8 _ rfl⟩)) (fun hS' => ?_)
          replace hS := hS'.resolve_left (by decide)
          clear hK K hS'
          (try simp only [Act.put, List.setIfInBounds_toArray, List.set_cons_zero, List.set_cons_succ])
          refine wpAnyM_take (i := 16) (v := ?_) rfl (by kernel_rfl) (by kernel_rfl) (by kernel_rfl) (by kernel_rfl) (fun _ _ _ h => h) hS (Or.inl ⟨by rfl, ?_⟩) ?_
          rotate_left
          · (intro w hSw; (try dsimp only at hSw); go_split_ands; go_simp; try (with_reducible rfl))
          (try simp only [Act.put, List.setIfInBounds_toArray, List.set_cons_zero, List.set_cons_succ])
          refine wpAnyM_one (i := 17) (by kernel_rfl) rfl (fun K hK => ?_)
          go_simp
          refine hK.out _ _ (Or.inr (⟨IsSince.alloc (IsSince.of z2) _, (hA.up _).c 8 _ rfl⟩)) (fun hS' => ?_)
          replace hS := hS'.resolve_left (by decide)
          clear hK K hS'
          (try simp only [Act.put, List.setIfInBounds_toArray, List.set_cons_zero, List.set_cons_succ])
          refine wpAnyM_one (i := 18) (by kernel_rfl) rfl (fun K hK => ?_)
          (refine step_appL (k := 4) (w0 := W) hS.1 rfl _ _ 25 rfl W.heap.size (Nat.le_refl _) (IsSince.size hS.1) 52 (.agg #[.int .i64 0, .int .i64 0, .int .i64 0, .int .i64 0]) 32 sPseX v j (flat Pse.cs ((r.pauses.take j).map exP)) rfl (own_up hO) ⟨z2.w.heap.size, 0, none⟩ 1 1 (exP e).cs rfl rfl (blk_cells _ _ rfl) (pseX_one _) Nat.one_pos (by unfold maxLen; omega) (by omega) ?_; intro v2 q2 hown2 hg2 hl2; obtain ⟨a2, n3, c2, rfl⟩ := own_slice hown2; have hX2 := (hA.up _).grown hg2 (fun h => Hdis.out gx h.symm rfl); have hOL2 := own_otherB (own_up hOL) hg2 (own_up hO) (by decide); have hxc2 := hX2.c 8 _ rfl; have hxf2 := hX2.f)
          refine hK.out _ _ (Or.inr (⟨IsSince.of q2, hxc2⟩)) (fun hS' => ?_)
          replace hS := hS'.resolve_left (by decide)
          clear hK K hS'
          (try simp only [Act.put, List.setIfInBounds_toArray, List.set_cons_zero, List.set_cons_succ])
          refine wpAnyM_take (i := 19) (v := ?_) rfl (by kernel_rfl) (by kernel_rfl) (by kernel_rfl) (by kernel_rfl) (fun _ _ _ h => h) hS (Or.inl ⟨by rfl, ?_⟩) ?_
          rotate_left
          · (intro w hSw; (try dsimp only at hSw); go_split_ands; go_simp; try (with_reducible rfl))
          (try simp only [Act.put, List.setIfInBounds_toArray, List.set_cons_zero, List.set_cons_succ])
          refine wpAnyM_one (i := 20) (by kernel_rfl) rfl (fun K hK => ?_)
          go_simp
          refine hK.out _ _ (Or.inl rfl) (fun _ => ?_)
          clear hK K hS
          (try simp only [Act.put, List.setIfInBounds_toArray, List.set_cons_zero, List.set_cons_succ])
          refine wpAnyM_done (by kernel_rfl) ?_
          obtain ⟨y3, h3⟩ := q2.set ⟨gx, 8, none⟩ Hgx.out (.slice a2 n3 c2)
          have hX3 := hX2.setj (j := 8) (by simp) (.slice a2 n3 c2)
          have hd2 : ∀ b, (Value.slice a2 n3 c2).ownBlock = some b → b ≠ gx := fun b hb => by
            rcases hl2 b hb with h1 | h1
            · exact Hdis.out b h1
            · have := hA.lt; simp at h1; omega
          have hO3 := own_setB hown2 ⟨gx, 8, none⟩ (.slice a2 n3 c2) hd2
          have hOL3 := own_setB hOL2 ⟨gx, 8, none⟩ (.slice a2 n3 c2) HdisL.out
          rw [h3] at hX3 hO3 hOL3 ⊢
          have HX3 := Lib.hid (show BoxIs y3.w gx [.int .i64 r.id, .int .i64 r.rd, .int .i64 r.s0, .int .i64 r.s0, .int .i64 r.e0, .int .i64 r.e0, .bool r.op, .slice al k cl, .slice a2 n3 c2, .int .i64 r.fw, .int .i64 r.fp, .int .i64 r.wh, .int .i64 r.pl] from hX3)
          have HO3 := Lib.hid (show y3.w.ownsRow W.heap.size 52 4 (.slice a2 n3 c2) (j + 1) (flat Pse.cs ((r.pauses.take (j + 1)).map exP)) by rw [Htk.out, List.map_append, flat_append]; simp only [List.map_cons, List.map_nil, flat_one]; exact hO3)
          have HOL3 := Lib.hid hOL3
          have Hd2 := Lib.hid hd2
          clear hX3 hO3 hOL3 hOL2 hOL h3 hd2 hX2 hxc2 hxf2 hown2 hg2 hl2 hA hO hz1 hz2 hxc k8 j0 j1 j2 j3 Htk
          go_wp2_with fail
          go_roundw
          case rel => exact ⟨j + 1, .slice a2 n3 c2, y3, by omega, by go_num, rfl, HX3.out, HO3.out, Hd2.out, HOL3.out⟩
          case measure => simp [intOf] <;> omega
        · obtain rfl : j = n2 := by omega
          obtain ⟨hx1, ap, cp, rfl, hx2, hx3, hx4, hx5⟩ := own_els (l := (r.pauses.take j).map exP) Pse.len (by decide) Hown.out
          have hpk : ((r.pauses.take j).map exP).length = j := by rw [List.length_map, List.length_take]; have := Hn2.out; omega
          rw [hpk] at HX Hown Hdis hx2 hx5
          clear hx1 hx2 hx3 hx4 hx5 hpk
          have m0 := HX.out.c 0 _ rfl
          have m1 := HX.out.c 1 _ rfl
          have m2 := HX.out.c 2 _ rfl
          have m3 := HX.out.c 3 _ rfl
          have m4 := HX.out.c 4 _ rfl
          have m5 := HX.out.c 5 _ rfl
          have m6 := HX.out.c 6 _ rfl
          have m7 := HX.out.c 7 _ rfl
          have m8 := HX.out.c 8 _ rfl
          have m9 := HX.out.c 9 _ rfl
          have m10 := HX.out.c 10 _ rfl
          have m11 := HX.out.c 11 _ rfl
          have m12 := HX.out.c 12 _ rfl
          have HoL := Lib.hid (own_setsB (bx + 1) [.int .i64 r.id, .int .i64 r.rd, .int .i64 r.s0, .int .i64 r.s0, .int .i64 r.e0, .int .i64 r.e0, .bool r.op, .slice al k cl, .slice ap j cp, .int .i64 r.fw, .int .i64 r.fp, .int .i64 r.wh, .int .i64 r.pl] 0 _ HownL.out (fun b hb => by have h1 := own_block HownL.out b hb; have h2 := Hbx.out; omega))
          have HoP := Lib.hid (own_setsB (bx + 1) [.int .i64 r.id, .int .i64 r.rd, .int .i64 r.s0, .int .i64 r.s0, .int .i64 r.e0, .int .i64 r.e0, .bool r.op, .slice al k cl, .slice ap j cp, .int .i64 r.fw, .int .i64 r.fp, .int .i64 r.wh, .int .i64 r.pl] 0 _ Hown.out (fun b hb => by have h1 := own_block Hown.out b hb; have h2 := Hbx.out; omega))
          have hdone : ¬ (j : Int) < (j : Int) := by omega
          go_wp2_with fail
          have hsm : ∀ j, j < 13 → (z.w.cell? ⟨bx + 1, j, none⟩).isSome = true := fun j hj => by
            match j, hj with
            | 0, _ => rw [hb1_0 z]; rfl
            | 1, _ => rw [hb1_1 z]; rfl
            | 2, _ => rw [hb1_2 z]; rfl
            | 3, _ => rw [hb1_3 z]; rfl
            | 4, _ => rw [hb1_4 z]; rfl
            | 5, _ => rw [hb1_5 z]; rfl
            | 6, _ => rw [hb1_6 z]; rfl
            | 7, _ => rw [hb1_7 z]; rfl
            | 8, _ => rw [hb1_8 z]; rfl
            | 9, _ => rw [hb1_9 z]; rfl
            | 10, _ => rw [hb1_10 z]; rfl
            | 11, _ => rw [hb1_11 z]; rfl
            | 12, _ => rw [hb1_12 z]; rfl
          obtain ⟨Z, hz, hc⟩ := set_many z (g := bx + 1) [.int .i64 r.id, .int .i64 r.rd, .int .i64 r.s0, .int .i64 r.s0, .int .i64 r.e0, .int .i64 r.e0, .bool r.op, .slice al k cl, .slice ap j cp, .int .i64 r.fw, .int .i64 r.fp, .int .i64 r.wh, .int .i64 r.pl] hsm (Hup.out z) (by have := Hbx.out; omega)
          simp only [World.setCells, Nat.reduceAdd] at hz
          rw [hz]
          have hc0 := hc 0 _ rfl
          have hc1 := hc 1 _ rfl
          have hc2 := hc 2 _ rfl
          have hc3 := hc 3 _ rfl
          have hc4 := hc 4 _ rfl
          have hc5 := hc 5 _ rfl
          have hc6 := hc 6 _ rfl
          have hc7 := hc 7 _ rfl
          have hc8 := hc 8 _ rfl
          have hc9 := hc 9 _ rfl
          have hc10 := hc 10 _ rfl
          have hc11 := hc 11 _ rfl
          have hc12 := hc 12 _ rfl
          have hkn : r.legs.take k = r.legs := List.take_of_length_le (by have := Hn.out; omega)
          have hjn : r.pauses.take j = r.pauses := List.take_of_length_le (by have := Hn2.out; omega)
          have hoL := HoL.out
          have hoP := HoP.out
          rw [hkn] at hoL
          rw [hjn] at hoP
          obtain ⟨hk1, a3, c3, he3, _, hE3, _, _⟩ := own_els Leg.len (by decide) hoL
          obtain ⟨hj1, a4, c4, he4, _, hE4, _, _⟩ := own_els Pse.len (by decide) hoP
          simp only [Value.slice.injEq] at he3 he4
          obtain ⟨rfl, _, rfl⟩ := he3
          obtain ⟨rfl, _, rfl⟩ := he4
          simp only [World.setCells, Nat.reduceAdd] at hE3 hE4
          rw [hz] at hE3 hE4
          exact bodyPost_ret (v := .agg #[.int .i64 r.id, .int .i64 r.rd, .int .i64 r.s0, .int .i64 r.s0, .int .i64 r.e0, .int .i64 r.e0, .bool r.op, .slice al k cl, .slice ap j cp, .int .i64 r.fw, .int .i64 r.fp, .int .i64 r.wh, .int .i64 r.pl]) (by simp [results, Try.results32, go_sem, hc0, hc1, hc2, hc3, hc4, hc5, hc6, hc7, hc8, hc9, hc10, hc11, hc12]) rfl (HP.out al cl k j ap cp Z Hn.out Hn2.out hE3 hE4)
end Go.Proofs.Ytefodfpnedcodaa
/- The law IntervalNarrows, walked. -/
namespace Go.Proofs.Ytefodfpnedcodaa
open Go.RowKit

set_option linter.unusedSimpArgs false in
set_option maxRecDepth 100000 in
set_option maxHeartbeats 8000000 in
theorem intervalNarrows_calls (w : World) (x : Since w) (r : Ride) (a : Option Addr) (l : List Int) (c : Nat) (h : r.At w) (hm : U16Row w a l) (hl : l.length ≤ 9223372036854775807) (hI : ∀ i, 0 ≤ at0 l i ∧ at0 l i ≤ 65535) :
    Calls Try.prog 9 #[.agg #[.int .i64 r.id, .int .i64 r.rd, .int .i64 r.s0, .int .i64 r.s1, .int .i64 r.e0, .int .i64 r.e1, .bool r.op, .slice r.la r.legs.length r.lc, .slice r.pa r.pauses.length r.pc, .int .i64 r.fw, .int .i64 r.fp, .int .i64 r.wh, .int .i64 r.pl], .slice a l.length c] x.w fun o w' => o = .returned (.bool true) ∧ ∃ y : Since w, w' = y.w := by
  have H := Lib.hid h
  clear h
  have HM := Lib.hid hm
  have HI := Lib.hid hI
  clear hm hI
  have Hf := Lib.hid (fun (w : World) (x : Since w) (h : r.At w) => few23_calls w x r h)
  have Hk := Lib.hid (fun (w : World) (x : Since w) (h : r.At w) => rcheck23_calls w x r h)
  have Hfew := Lib.hid (show few23 r = (decide (r.legs.length ≤ 100) && decide (r.pauses.length ≤ 100)) from rfl)
  cases hfw : few23 r with
  | false =>
    rw [hfw] at Hf
    clear hfw Hk
    go_enter Try.func9, Try.ntmps9
    go_upto_region 1 with fail
    have hb0_0 : ∀ y : Since (x.w.alloc (.cells #[.int .i64 r.id, .int .i64 r.rd, .int .i64 r.s0, .int .i64 r.s1, .int .i64 r.e0, .int .i64 r.e1, .bool r.op, .slice r.la r.legs.length r.lc, .slice r.pa r.pauses.length r.pc, .int .i64 r.fw, .int .i64 r.fp, .int .i64 r.wh, .int .i64 r.pl] 27)), y.w.cell? ⟨x.w.heap.size, 0, none⟩ = some (.int .i64 r.id) := fun y => Since.cell (by simp [go_sem]) (by first | (simp; done) | (simp; omega)) y
    have hb0_1 : ∀ y : Since (x.w.alloc (.cells #[.int .i64 r.id, .int .i64 r.rd, .int .i64 r.s0, .int .i64 r.s1, .int .i64 r.e0, .int .i64 r.e1, .bool r.op, .slice r.la r.legs.length r.lc, .slice r.pa r.pauses.length r.pc, .int .i64 r.fw, .int .i64 r.fp, .int .i64 r.wh, .int .i64 r.pl] 27)), y.w.cell? ⟨x.w.heap.size, 1, none⟩ = some (.int .i64 r.rd) := fun y => Since.cell (by simp [go_sem]) (by first | (simp; done) | (simp; omega)) y
    have hb0_2 : ∀ y : Since (x.w.alloc (.cells #[.int .i64 r.id, .int .i64 r.rd, .int .i64 r.s0, .int .i64 r.s1, .int .i64 r.e0, .int .i64 r.e1, .bool r.op, .slice r.la r.legs.length r.lc, .slice r.pa r.pauses.length r.pc, .int .i64 r.fw, .int .i64 r.fp, .int .i64 r.wh, .int .i64 r.pl] 27)), y.w.cell? ⟨x.w.heap.size, 2, none⟩ = some (.int .i64 r.s0) := fun y => Since.cell (by simp [go_sem]) (by first | (simp; done) | (simp; omega)) y
    have hb0_3 : ∀ y : Since (x.w.alloc (.cells #[.int .i64 r.id, .int .i64 r.rd, .int .i64 r.s0, .int .i64 r.s1, .int .i64 r.e0, .int .i64 r.e1, .bool r.op, .slice r.la r.legs.length r.lc, .slice r.pa r.pauses.length r.pc, .int .i64 r.fw, .int .i64 r.fp, .int .i64 r.wh, .int .i64 r.pl] 27)), y.w.cell? ⟨x.w.heap.size, 3, none⟩ = some (.int .i64 r.s1) := fun y => Since.cell (by simp [go_sem]) (by first | (simp; done) | (simp; omega)) y
    have hb0_4 : ∀ y : Since (x.w.alloc (.cells #[.int .i64 r.id, .int .i64 r.rd, .int .i64 r.s0, .int .i64 r.s1, .int .i64 r.e0, .int .i64 r.e1, .bool r.op, .slice r.la r.legs.length r.lc, .slice r.pa r.pauses.length r.pc, .int .i64 r.fw, .int .i64 r.fp, .int .i64 r.wh, .int .i64 r.pl] 27)), y.w.cell? ⟨x.w.heap.size, 4, none⟩ = some (.int .i64 r.e0) := fun y => Since.cell (by simp [go_sem]) (by first | (simp; done) | (simp; omega)) y
    have hb0_5 : ∀ y : Since (x.w.alloc (.cells #[.int .i64 r.id, .int .i64 r.rd, .int .i64 r.s0, .int .i64 r.s1, .int .i64 r.e0, .int .i64 r.e1, .bool r.op, .slice r.la r.legs.length r.lc, .slice r.pa r.pauses.length r.pc, .int .i64 r.fw, .int .i64 r.fp, .int .i64 r.wh, .int .i64 r.pl] 27)), y.w.cell? ⟨x.w.heap.size, 5, none⟩ = some (.int .i64 r.e1) := fun y => Since.cell (by simp [go_sem]) (by first | (simp; done) | (simp; omega)) y
    have hb0_6 : ∀ y : Since (x.w.alloc (.cells #[.int .i64 r.id, .int .i64 r.rd, .int .i64 r.s0, .int .i64 r.s1, .int .i64 r.e0, .int .i64 r.e1, .bool r.op, .slice r.la r.legs.length r.lc, .slice r.pa r.pauses.length r.pc, .int .i64 r.fw, .int .i64 r.fp, .int .i64 r.wh, .int .i64 r.pl] 27)), y.w.cell? ⟨x.w.heap.size, 6, none⟩ = some (.bool r.op) := fun y => Since.cell (by simp [go_sem]) (by first | (simp; done) | (simp; omega)) y
    have hb0_7 : ∀ y : Since (x.w.alloc (.cells #[.int .i64 r.id, .int .i64 r.rd, .int .i64 r.s0, .int .i64 r.s1, .int .i64 r.e0, .int .i64 r.e1, .bool r.op, .slice r.la r.legs.length r.lc, .slice r.pa r.pauses.length r.pc, .int .i64 r.fw, .int .i64 r.fp, .int .i64 r.wh, .int .i64 r.pl] 27)), y.w.cell? ⟨x.w.heap.size, 7, none⟩ = some (.slice r.la r.legs.length r.lc) := fun y => Since.cell (by simp [go_sem]) (by first | (simp; done) | (simp; omega)) y
    have hb0_8 : ∀ y : Since (x.w.alloc (.cells #[.int .i64 r.id, .int .i64 r.rd, .int .i64 r.s0, .int .i64 r.s1, .int .i64 r.e0, .int .i64 r.e1, .bool r.op, .slice r.la r.legs.length r.lc, .slice r.pa r.pauses.length r.pc, .int .i64 r.fw, .int .i64 r.fp, .int .i64 r.wh, .int .i64 r.pl] 27)), y.w.cell? ⟨x.w.heap.size, 8, none⟩ = some (.slice r.pa r.pauses.length r.pc) := fun y => Since.cell (by simp [go_sem]) (by first | (simp; done) | (simp; omega)) y
    have hb0_9 : ∀ y : Since (x.w.alloc (.cells #[.int .i64 r.id, .int .i64 r.rd, .int .i64 r.s0, .int .i64 r.s1, .int .i64 r.e0, .int .i64 r.e1, .bool r.op, .slice r.la r.legs.length r.lc, .slice r.pa r.pauses.length r.pc, .int .i64 r.fw, .int .i64 r.fp, .int .i64 r.wh, .int .i64 r.pl] 27)), y.w.cell? ⟨x.w.heap.size, 9, none⟩ = some (.int .i64 r.fw) := fun y => Since.cell (by simp [go_sem]) (by first | (simp; done) | (simp; omega)) y
    have hb0_10 : ∀ y : Since (x.w.alloc (.cells #[.int .i64 r.id, .int .i64 r.rd, .int .i64 r.s0, .int .i64 r.s1, .int .i64 r.e0, .int .i64 r.e1, .bool r.op, .slice r.la r.legs.length r.lc, .slice r.pa r.pauses.length r.pc, .int .i64 r.fw, .int .i64 r.fp, .int .i64 r.wh, .int .i64 r.pl] 27)), y.w.cell? ⟨x.w.heap.size, 10, none⟩ = some (.int .i64 r.fp) := fun y => Since.cell (by simp [go_sem]) (by first | (simp; done) | (simp; omega)) y
    have hb0_11 : ∀ y : Since (x.w.alloc (.cells #[.int .i64 r.id, .int .i64 r.rd, .int .i64 r.s0, .int .i64 r.s1, .int .i64 r.e0, .int .i64 r.e1, .bool r.op, .slice r.la r.legs.length r.lc, .slice r.pa r.pauses.length r.pc, .int .i64 r.fw, .int .i64 r.fp, .int .i64 r.wh, .int .i64 r.pl] 27)), y.w.cell? ⟨x.w.heap.size, 11, none⟩ = some (.int .i64 r.wh) := fun y => Since.cell (by simp [go_sem]) (by first | (simp; done) | (simp; omega)) y
    have hb0_12 : ∀ y : Since (x.w.alloc (.cells #[.int .i64 r.id, .int .i64 r.rd, .int .i64 r.s0, .int .i64 r.s1, .int .i64 r.e0, .int .i64 r.e1, .bool r.op, .slice r.la r.legs.length r.lc, .slice r.pa r.pauses.length r.pc, .int .i64 r.fw, .int .i64 r.fp, .int .i64 r.wh, .int .i64 r.pl] 27)), y.w.cell? ⟨x.w.heap.size, 12, none⟩ = some (.int .i64 r.pl) := fun y => Since.cell (by simp [go_sem]) (by first | (simp; done) | (simp; omega)) y
    have hf0 : ∀ (y : Since (x.w.alloc (.cells #[.int .i64 r.id, .int .i64 r.rd, .int .i64 r.s0, .int .i64 r.s1, .int .i64 r.e0, .int .i64 r.e1, .bool r.op, .slice r.la r.legs.length r.lc, .slice r.pa r.pauses.length r.pc, .int .i64 r.fw, .int .i64 r.fp, .int .i64 r.wh, .int .i64 r.pl] 27))) (o : Nat), y.w.frozen? ⟨x.w.heap.size, o, none⟩ = false := fun y o => Since.free (by simp [go_sem]) (by first | (simp; done) | (simp; omega)) y
    have hWup : ∃ z : Since w, (x.w.alloc (.cells #[.int .i64 r.id, .int .i64 r.rd, .int .i64 r.s0, .int .i64 r.s1, .int .i64 r.e0, .int .i64 r.e1, .bool r.op, .slice r.la r.legs.length r.lc, .slice r.pa r.pauses.length r.pc, .int .i64 r.fw, .int .i64 r.fp, .int .i64 r.wh, .int .i64 r.pl] 27)) = z.w := x.alloc _
    obtain ⟨y0, hy0⟩ := Since.refl (x.w.alloc (.cells #[.int .i64 r.id, .int .i64 r.rd, .int .i64 r.s0, .int .i64 r.s1, .int .i64 r.e0, .int .i64 r.e1, .bool r.op, .slice r.la r.legs.length r.lc, .slice r.pa r.pauses.length r.pc, .int .i64 r.fw, .int .i64 r.fp, .int .i64 r.wh, .int .i64 r.pl] 27))
    have Hbx := Lib.hid (And.intro x.b.size (show x.w.heap.size + 1 = (x.w.alloc (.cells #[.int .i64 r.id, .int .i64 r.rd, .int .i64 r.s0, .int .i64 r.s1, .int .i64 r.e0, .int .i64 r.e1, .bool r.op, .slice r.la r.legs.length r.lc, .slice r.pa r.pauses.length r.pc, .int .i64 r.fw, .int .i64 r.fp, .int .i64 r.wh, .int .i64 r.pl] 27)).heap.size from by simp))
    generalize hW : (x.w.alloc (.cells #[.int .i64 r.id, .int .i64 r.rd, .int .i64 r.s0, .int .i64 r.s1, .int .i64 r.e0, .int .i64 r.e1, .bool r.op, .slice r.la r.legs.length r.lc, .slice r.pa r.pauses.length r.pc, .int .i64 r.fw, .int .i64 r.fp, .int .i64 r.wh, .int .i64 r.pl] 27)) = W at *
    clear hW
    generalize x.w.heap.size = bx at *
    have Hup := Lib.hid (Since.up hWup)
    rw [hy0]
    clear hy0
    replace H := Lib.hid (H.out.to hWup)
    clear hWup
    go_wp2_with (first | (go_at_call 10; ((with_reducible refine (Hf.out W y0 H.out).mono ?_); rintro _ _ ⟨rfl, y1, rfl⟩)) | (go_at_call 11; ((with_reducible refine (awake_calls W y1).mono ?_); rintro _ _ ⟨rfl, yz, rfl⟩)))
    go_ret
    exact ⟨rfl, Hup.out yz⟩
  | true =>
    rw [hfw] at Hf
    have hpl : r.pauses.length ≤ 100 := by
      rw [Hfew.out, Bool.and_eq_true, decide_eq_true_eq, decide_eq_true_eq] at hfw; exact hfw.2
    have hll : r.legs.length ≤ 100 := by
      rw [Hfew.out, Bool.and_eq_true, decide_eq_true_eq, decide_eq_true_eq] at hfw; exact hfw.1
    clear hfw Hfew
    by_cases he : ivE r = 0
    case neg =>
      have hez : (ivE r != 0) = true := by simpa using he
      clear he
      go_enter Try.func9, Try.ntmps9
      go_upto_region 1 with fail
      have hb0_0 : ∀ y : Since (x.w.alloc (.cells #[.int .i64 r.id, .int .i64 r.rd, .int .i64 r.s0, .int .i64 r.s1, .int .i64 r.e0, .int .i64 r.e1, .bool r.op, .slice r.la r.legs.length r.lc, .slice r.pa r.pauses.length r.pc, .int .i64 r.fw, .int .i64 r.fp, .int .i64 r.wh, .int .i64 r.pl] 27)), y.w.cell? ⟨x.w.heap.size, 0, none⟩ = some (.int .i64 r.id) := fun y => Since.cell (by simp [go_sem]) (by first | (simp; done) | (simp; omega)) y
      have hb0_1 : ∀ y : Since (x.w.alloc (.cells #[.int .i64 r.id, .int .i64 r.rd, .int .i64 r.s0, .int .i64 r.s1, .int .i64 r.e0, .int .i64 r.e1, .bool r.op, .slice r.la r.legs.length r.lc, .slice r.pa r.pauses.length r.pc, .int .i64 r.fw, .int .i64 r.fp, .int .i64 r.wh, .int .i64 r.pl] 27)), y.w.cell? ⟨x.w.heap.size, 1, none⟩ = some (.int .i64 r.rd) := fun y => Since.cell (by simp [go_sem]) (by first | (simp; done) | (simp; omega)) y
      have hb0_2 : ∀ y : Since (x.w.alloc (.cells #[.int .i64 r.id, .int .i64 r.rd, .int .i64 r.s0, .int .i64 r.s1, .int .i64 r.e0, .int .i64 r.e1, .bool r.op, .slice r.la r.legs.length r.lc, .slice r.pa r.pauses.length r.pc, .int .i64 r.fw, .int .i64 r.fp, .int .i64 r.wh, .int .i64 r.pl] 27)), y.w.cell? ⟨x.w.heap.size, 2, none⟩ = some (.int .i64 r.s0) := fun y => Since.cell (by simp [go_sem]) (by first | (simp; done) | (simp; omega)) y
      have hb0_3 : ∀ y : Since (x.w.alloc (.cells #[.int .i64 r.id, .int .i64 r.rd, .int .i64 r.s0, .int .i64 r.s1, .int .i64 r.e0, .int .i64 r.e1, .bool r.op, .slice r.la r.legs.length r.lc, .slice r.pa r.pauses.length r.pc, .int .i64 r.fw, .int .i64 r.fp, .int .i64 r.wh, .int .i64 r.pl] 27)), y.w.cell? ⟨x.w.heap.size, 3, none⟩ = some (.int .i64 r.s1) := fun y => Since.cell (by simp [go_sem]) (by first | (simp; done) | (simp; omega)) y
      have hb0_4 : ∀ y : Since (x.w.alloc (.cells #[.int .i64 r.id, .int .i64 r.rd, .int .i64 r.s0, .int .i64 r.s1, .int .i64 r.e0, .int .i64 r.e1, .bool r.op, .slice r.la r.legs.length r.lc, .slice r.pa r.pauses.length r.pc, .int .i64 r.fw, .int .i64 r.fp, .int .i64 r.wh, .int .i64 r.pl] 27)), y.w.cell? ⟨x.w.heap.size, 4, none⟩ = some (.int .i64 r.e0) := fun y => Since.cell (by simp [go_sem]) (by first | (simp; done) | (simp; omega)) y
      have hb0_5 : ∀ y : Since (x.w.alloc (.cells #[.int .i64 r.id, .int .i64 r.rd, .int .i64 r.s0, .int .i64 r.s1, .int .i64 r.e0, .int .i64 r.e1, .bool r.op, .slice r.la r.legs.length r.lc, .slice r.pa r.pauses.length r.pc, .int .i64 r.fw, .int .i64 r.fp, .int .i64 r.wh, .int .i64 r.pl] 27)), y.w.cell? ⟨x.w.heap.size, 5, none⟩ = some (.int .i64 r.e1) := fun y => Since.cell (by simp [go_sem]) (by first | (simp; done) | (simp; omega)) y
      have hb0_6 : ∀ y : Since (x.w.alloc (.cells #[.int .i64 r.id, .int .i64 r.rd, .int .i64 r.s0, .int .i64 r.s1, .int .i64 r.e0, .int .i64 r.e1, .bool r.op, .slice r.la r.legs.length r.lc, .slice r.pa r.pauses.length r.pc, .int .i64 r.fw, .int .i64 r.fp, .int .i64 r.wh, .int .i64 r.pl] 27)), y.w.cell? ⟨x.w.heap.size, 6, none⟩ = some (.bool r.op) := fun y => Since.cell (by simp [go_sem]) (by first | (simp; done) | (simp; omega)) y
      have hb0_7 : ∀ y : Since (x.w.alloc (.cells #[.int .i64 r.id, .int .i64 r.rd, .int .i64 r.s0, .int .i64 r.s1, .int .i64 r.e0, .int .i64 r.e1, .bool r.op, .slice r.la r.legs.length r.lc, .slice r.pa r.pauses.length r.pc, .int .i64 r.fw, .int .i64 r.fp, .int .i64 r.wh, .int .i64 r.pl] 27)), y.w.cell? ⟨x.w.heap.size, 7, none⟩ = some (.slice r.la r.legs.length r.lc) := fun y => Since.cell (by simp [go_sem]) (by first | (simp; done) | (simp; omega)) y
      have hb0_8 : ∀ y : Since (x.w.alloc (.cells #[.int .i64 r.id, .int .i64 r.rd, .int .i64 r.s0, .int .i64 r.s1, .int .i64 r.e0, .int .i64 r.e1, .bool r.op, .slice r.la r.legs.length r.lc, .slice r.pa r.pauses.length r.pc, .int .i64 r.fw, .int .i64 r.fp, .int .i64 r.wh, .int .i64 r.pl] 27)), y.w.cell? ⟨x.w.heap.size, 8, none⟩ = some (.slice r.pa r.pauses.length r.pc) := fun y => Since.cell (by simp [go_sem]) (by first | (simp; done) | (simp; omega)) y
      have hb0_9 : ∀ y : Since (x.w.alloc (.cells #[.int .i64 r.id, .int .i64 r.rd, .int .i64 r.s0, .int .i64 r.s1, .int .i64 r.e0, .int .i64 r.e1, .bool r.op, .slice r.la r.legs.length r.lc, .slice r.pa r.pauses.length r.pc, .int .i64 r.fw, .int .i64 r.fp, .int .i64 r.wh, .int .i64 r.pl] 27)), y.w.cell? ⟨x.w.heap.size, 9, none⟩ = some (.int .i64 r.fw) := fun y => Since.cell (by simp [go_sem]) (by first | (simp; done) | (simp; omega)) y
      have hb0_10 : ∀ y : Since (x.w.alloc (.cells #[.int .i64 r.id, .int .i64 r.rd, .int .i64 r.s0, .int .i64 r.s1, .int .i64 r.e0, .int .i64 r.e1, .bool r.op, .slice r.la r.legs.length r.lc, .slice r.pa r.pauses.length r.pc, .int .i64 r.fw, .int .i64 r.fp, .int .i64 r.wh, .int .i64 r.pl] 27)), y.w.cell? ⟨x.w.heap.size, 10, none⟩ = some (.int .i64 r.fp) := fun y => Since.cell (by simp [go_sem]) (by first | (simp; done) | (simp; omega)) y
      have hb0_11 : ∀ y : Since (x.w.alloc (.cells #[.int .i64 r.id, .int .i64 r.rd, .int .i64 r.s0, .int .i64 r.s1, .int .i64 r.e0, .int .i64 r.e1, .bool r.op, .slice r.la r.legs.length r.lc, .slice r.pa r.pauses.length r.pc, .int .i64 r.fw, .int .i64 r.fp, .int .i64 r.wh, .int .i64 r.pl] 27)), y.w.cell? ⟨x.w.heap.size, 11, none⟩ = some (.int .i64 r.wh) := fun y => Since.cell (by simp [go_sem]) (by first | (simp; done) | (simp; omega)) y
      have hb0_12 : ∀ y : Since (x.w.alloc (.cells #[.int .i64 r.id, .int .i64 r.rd, .int .i64 r.s0, .int .i64 r.s1, .int .i64 r.e0, .int .i64 r.e1, .bool r.op, .slice r.la r.legs.length r.lc, .slice r.pa r.pauses.length r.pc, .int .i64 r.fw, .int .i64 r.fp, .int .i64 r.wh, .int .i64 r.pl] 27)), y.w.cell? ⟨x.w.heap.size, 12, none⟩ = some (.int .i64 r.pl) := fun y => Since.cell (by simp [go_sem]) (by first | (simp; done) | (simp; omega)) y
      have hf0 : ∀ (y : Since (x.w.alloc (.cells #[.int .i64 r.id, .int .i64 r.rd, .int .i64 r.s0, .int .i64 r.s1, .int .i64 r.e0, .int .i64 r.e1, .bool r.op, .slice r.la r.legs.length r.lc, .slice r.pa r.pauses.length r.pc, .int .i64 r.fw, .int .i64 r.fp, .int .i64 r.wh, .int .i64 r.pl] 27))) (o : Nat), y.w.frozen? ⟨x.w.heap.size, o, none⟩ = false := fun y o => Since.free (by simp [go_sem]) (by first | (simp; done) | (simp; omega)) y
      have hWup : ∃ z : Since w, (x.w.alloc (.cells #[.int .i64 r.id, .int .i64 r.rd, .int .i64 r.s0, .int .i64 r.s1, .int .i64 r.e0, .int .i64 r.e1, .bool r.op, .slice r.la r.legs.length r.lc, .slice r.pa r.pauses.length r.pc, .int .i64 r.fw, .int .i64 r.fp, .int .i64 r.wh, .int .i64 r.pl] 27)) = z.w := x.alloc _
      obtain ⟨y0, hy0⟩ := Since.refl (x.w.alloc (.cells #[.int .i64 r.id, .int .i64 r.rd, .int .i64 r.s0, .int .i64 r.s1, .int .i64 r.e0, .int .i64 r.e1, .bool r.op, .slice r.la r.legs.length r.lc, .slice r.pa r.pauses.length r.pc, .int .i64 r.fw, .int .i64 r.fp, .int .i64 r.wh, .int .i64 r.pl] 27))
      have Hbx := Lib.hid (And.intro x.b.size (show x.w.heap.size + 1 = (x.w.alloc (.cells #[.int .i64 r.id, .int .i64 r.rd, .int .i64 r.s0, .int .i64 r.s1, .int .i64 r.e0, .int .i64 r.e1, .bool r.op, .slice r.la r.legs.length r.lc, .slice r.pa r.pauses.length r.pc, .int .i64 r.fw, .int .i64 r.fp, .int .i64 r.wh, .int .i64 r.pl] 27)).heap.size from by simp))
      generalize hW : (x.w.alloc (.cells #[.int .i64 r.id, .int .i64 r.rd, .int .i64 r.s0, .int .i64 r.s1, .int .i64 r.e0, .int .i64 r.e1, .bool r.op, .slice r.la r.legs.length r.lc, .slice r.pa r.pauses.length r.pc, .int .i64 r.fw, .int .i64 r.fp, .int .i64 r.wh, .int .i64 r.pl] 27)) = W at *
      clear hW
      generalize x.w.heap.size = bx at *
      have Hup := Lib.hid (Since.up hWup)
      rw [hy0]
      clear hy0
      replace H := Lib.hid (H.out.to hWup)
      clear hWup
      go_wp2_with (first | (go_at_call 10; ((with_reducible refine (Hf.out W y0 H.out).mono ?_); rintro _ _ ⟨rfl, y1, rfl⟩)) | (go_at_call 25; ((with_reducible refine (Hk.out W y1 H.out).mono ?_); rintro _ _ ⟨rfl, y2, rfl⟩)) | (go_at_call 11; ((with_reducible refine (awake_calls W y2).mono ?_); rintro _ _ ⟨rfl, yz, rfl⟩)))
      go_ret
      exact ⟨rfl, Hup.out yz⟩
    case pos =>
      have He := Lib.hid he
      rw [he] at Hk
      clear he
      go_enter Try.func9, Try.ntmps9
      go_upto_region 1 with fail
      have hb0_0 : ∀ y : Since (x.w.alloc (.cells #[.int .i64 r.id, .int .i64 r.rd, .int .i64 r.s0, .int .i64 r.s1, .int .i64 r.e0, .int .i64 r.e1, .bool r.op, .slice r.la r.legs.length r.lc, .slice r.pa r.pauses.length r.pc, .int .i64 r.fw, .int .i64 r.fp, .int .i64 r.wh, .int .i64 r.pl] 27)), y.w.cell? ⟨x.w.heap.size, 0, none⟩ = some (.int .i64 r.id) := fun y => Since.cell (by simp [go_sem]) (by first | (simp; done) | (simp; omega)) y
      have hb0_1 : ∀ y : Since (x.w.alloc (.cells #[.int .i64 r.id, .int .i64 r.rd, .int .i64 r.s0, .int .i64 r.s1, .int .i64 r.e0, .int .i64 r.e1, .bool r.op, .slice r.la r.legs.length r.lc, .slice r.pa r.pauses.length r.pc, .int .i64 r.fw, .int .i64 r.fp, .int .i64 r.wh, .int .i64 r.pl] 27)), y.w.cell? ⟨x.w.heap.size, 1, none⟩ = some (.int .i64 r.rd) := fun y => Since.cell (by simp [go_sem]) (by first | (simp; done) | (simp; omega)) y
      have hb0_2 : ∀ y : Since (x.w.alloc (.cells #[.int .i64 r.id, .int .i64 r.rd, .int .i64 r.s0, .int .i64 r.s1, .int .i64 r.e0, .int .i64 r.e1, .bool r.op, .slice r.la r.legs.length r.lc, .slice r.pa r.pauses.length r.pc, .int .i64 r.fw, .int .i64 r.fp, .int .i64 r.wh, .int .i64 r.pl] 27)), y.w.cell? ⟨x.w.heap.size, 2, none⟩ = some (.int .i64 r.s0) := fun y => Since.cell (by simp [go_sem]) (by first | (simp; done) | (simp; omega)) y
      have hb0_3 : ∀ y : Since (x.w.alloc (.cells #[.int .i64 r.id, .int .i64 r.rd, .int .i64 r.s0, .int .i64 r.s1, .int .i64 r.e0, .int .i64 r.e1, .bool r.op, .slice r.la r.legs.length r.lc, .slice r.pa r.pauses.length r.pc, .int .i64 r.fw, .int .i64 r.fp, .int .i64 r.wh, .int .i64 r.pl] 27)), y.w.cell? ⟨x.w.heap.size, 3, none⟩ = some (.int .i64 r.s1) := fun y => Since.cell (by simp [go_sem]) (by first | (simp; done) | (simp; omega)) y
      have hb0_4 : ∀ y : Since (x.w.alloc (.cells #[.int .i64 r.id, .int .i64 r.rd, .int .i64 r.s0, .int .i64 r.s1, .int .i64 r.e0, .int .i64 r.e1, .bool r.op, .slice r.la r.legs.length r.lc, .slice r.pa r.pauses.length r.pc, .int .i64 r.fw, .int .i64 r.fp, .int .i64 r.wh, .int .i64 r.pl] 27)), y.w.cell? ⟨x.w.heap.size, 4, none⟩ = some (.int .i64 r.e0) := fun y => Since.cell (by simp [go_sem]) (by first | (simp; done) | (simp; omega)) y
      have hb0_5 : ∀ y : Since (x.w.alloc (.cells #[.int .i64 r.id, .int .i64 r.rd, .int .i64 r.s0, .int .i64 r.s1, .int .i64 r.e0, .int .i64 r.e1, .bool r.op, .slice r.la r.legs.length r.lc, .slice r.pa r.pauses.length r.pc, .int .i64 r.fw, .int .i64 r.fp, .int .i64 r.wh, .int .i64 r.pl] 27)), y.w.cell? ⟨x.w.heap.size, 5, none⟩ = some (.int .i64 r.e1) := fun y => Since.cell (by simp [go_sem]) (by first | (simp; done) | (simp; omega)) y
      have hb0_6 : ∀ y : Since (x.w.alloc (.cells #[.int .i64 r.id, .int .i64 r.rd, .int .i64 r.s0, .int .i64 r.s1, .int .i64 r.e0, .int .i64 r.e1, .bool r.op, .slice r.la r.legs.length r.lc, .slice r.pa r.pauses.length r.pc, .int .i64 r.fw, .int .i64 r.fp, .int .i64 r.wh, .int .i64 r.pl] 27)), y.w.cell? ⟨x.w.heap.size, 6, none⟩ = some (.bool r.op) := fun y => Since.cell (by simp [go_sem]) (by first | (simp; done) | (simp; omega)) y
      have hb0_7 : ∀ y : Since (x.w.alloc (.cells #[.int .i64 r.id, .int .i64 r.rd, .int .i64 r.s0, .int .i64 r.s1, .int .i64 r.e0, .int .i64 r.e1, .bool r.op, .slice r.la r.legs.length r.lc, .slice r.pa r.pauses.length r.pc, .int .i64 r.fw, .int .i64 r.fp, .int .i64 r.wh, .int .i64 r.pl] 27)), y.w.cell? ⟨x.w.heap.size, 7, none⟩ = some (.slice r.la r.legs.length r.lc) := fun y => Since.cell (by simp [go_sem]) (by first | (simp; done) | (simp; omega)) y
      have hb0_8 : ∀ y : Since (x.w.alloc (.cells #[.int .i64 r.id, .int .i64 r.rd, .int .i64 r.s0, .int .i64 r.s1, .int .i64 r.e0, .int .i64 r.e1, .bool r.op, .slice r.la r.legs.length r.lc, .slice r.pa r.pauses.length r.pc, .int .i64 r.fw, .int .i64 r.fp, .int .i64 r.wh, .int .i64 r.pl] 27)), y.w.cell? ⟨x.w.heap.size, 8, none⟩ = some (.slice r.pa r.pauses.length r.pc) := fun y => Since.cell (by simp [go_sem]) (by first | (simp; done) | (simp; omega)) y
      have hb0_9 : ∀ y : Since (x.w.alloc (.cells #[.int .i64 r.id, .int .i64 r.rd, .int .i64 r.s0, .int .i64 r.s1, .int .i64 r.e0, .int .i64 r.e1, .bool r.op, .slice r.la r.legs.length r.lc, .slice r.pa r.pauses.length r.pc, .int .i64 r.fw, .int .i64 r.fp, .int .i64 r.wh, .int .i64 r.pl] 27)), y.w.cell? ⟨x.w.heap.size, 9, none⟩ = some (.int .i64 r.fw) := fun y => Since.cell (by simp [go_sem]) (by first | (simp; done) | (simp; omega)) y
      have hb0_10 : ∀ y : Since (x.w.alloc (.cells #[.int .i64 r.id, .int .i64 r.rd, .int .i64 r.s0, .int .i64 r.s1, .int .i64 r.e0, .int .i64 r.e1, .bool r.op, .slice r.la r.legs.length r.lc, .slice r.pa r.pauses.length r.pc, .int .i64 r.fw, .int .i64 r.fp, .int .i64 r.wh, .int .i64 r.pl] 27)), y.w.cell? ⟨x.w.heap.size, 10, none⟩ = some (.int .i64 r.fp) := fun y => Since.cell (by simp [go_sem]) (by first | (simp; done) | (simp; omega)) y
      have hb0_11 : ∀ y : Since (x.w.alloc (.cells #[.int .i64 r.id, .int .i64 r.rd, .int .i64 r.s0, .int .i64 r.s1, .int .i64 r.e0, .int .i64 r.e1, .bool r.op, .slice r.la r.legs.length r.lc, .slice r.pa r.pauses.length r.pc, .int .i64 r.fw, .int .i64 r.fp, .int .i64 r.wh, .int .i64 r.pl] 27)), y.w.cell? ⟨x.w.heap.size, 11, none⟩ = some (.int .i64 r.wh) := fun y => Since.cell (by simp [go_sem]) (by first | (simp; done) | (simp; omega)) y
      have hb0_12 : ∀ y : Since (x.w.alloc (.cells #[.int .i64 r.id, .int .i64 r.rd, .int .i64 r.s0, .int .i64 r.s1, .int .i64 r.e0, .int .i64 r.e1, .bool r.op, .slice r.la r.legs.length r.lc, .slice r.pa r.pauses.length r.pc, .int .i64 r.fw, .int .i64 r.fp, .int .i64 r.wh, .int .i64 r.pl] 27)), y.w.cell? ⟨x.w.heap.size, 12, none⟩ = some (.int .i64 r.pl) := fun y => Since.cell (by simp [go_sem]) (by first | (simp; done) | (simp; omega)) y
      have hf0 : ∀ (y : Since (x.w.alloc (.cells #[.int .i64 r.id, .int .i64 r.rd, .int .i64 r.s0, .int .i64 r.s1, .int .i64 r.e0, .int .i64 r.e1, .bool r.op, .slice r.la r.legs.length r.lc, .slice r.pa r.pauses.length r.pc, .int .i64 r.fw, .int .i64 r.fp, .int .i64 r.wh, .int .i64 r.pl] 27))) (o : Nat), y.w.frozen? ⟨x.w.heap.size, o, none⟩ = false := fun y o => Since.free (by simp [go_sem]) (by first | (simp; done) | (simp; omega)) y
      have hWup : ∃ z : Since w, (x.w.alloc (.cells #[.int .i64 r.id, .int .i64 r.rd, .int .i64 r.s0, .int .i64 r.s1, .int .i64 r.e0, .int .i64 r.e1, .bool r.op, .slice r.la r.legs.length r.lc, .slice r.pa r.pauses.length r.pc, .int .i64 r.fw, .int .i64 r.fp, .int .i64 r.wh, .int .i64 r.pl] 27)) = z.w := x.alloc _
      obtain ⟨y0, hy0⟩ := Since.refl (x.w.alloc (.cells #[.int .i64 r.id, .int .i64 r.rd, .int .i64 r.s0, .int .i64 r.s1, .int .i64 r.e0, .int .i64 r.e1, .bool r.op, .slice r.la r.legs.length r.lc, .slice r.pa r.pauses.length r.pc, .int .i64 r.fw, .int .i64 r.fp, .int .i64 r.wh, .int .i64 r.pl] 27))
      have Hbx := Lib.hid (And.intro x.b.size (show x.w.heap.size + 1 = (x.w.alloc (.cells #[.int .i64 r.id, .int .i64 r.rd, .int .i64 r.s0, .int .i64 r.s1, .int .i64 r.e0, .int .i64 r.e1, .bool r.op, .slice r.la r.legs.length r.lc, .slice r.pa r.pauses.length r.pc, .int .i64 r.fw, .int .i64 r.fp, .int .i64 r.wh, .int .i64 r.pl] 27)).heap.size from by simp))
      generalize hW : (x.w.alloc (.cells #[.int .i64 r.id, .int .i64 r.rd, .int .i64 r.s0, .int .i64 r.s1, .int .i64 r.e0, .int .i64 r.e1, .bool r.op, .slice r.la r.legs.length r.lc, .slice r.pa r.pauses.length r.pc, .int .i64 r.fw, .int .i64 r.fp, .int .i64 r.wh, .int .i64 r.pl] 27)) = W at *
      clear hW
      generalize x.w.heap.size = bx at *
      have Hup := Lib.hid (Since.up hWup)
      rw [hy0]
      clear hy0
      replace HM := Lib.hid (HM.out.to hWup)
      replace H := Lib.hid (H.out.to hWup)
      have HW := Lib.hid hWup
      have HU := Lib.hid (show IsSince w W from hWup)
      clear hWup hf0 Hbx Hup
      go_upto_region 3 with (first | (go_at_call 10; ((with_reducible refine (Hf.out W y0 H.out).mono ?_); rintro _ _ ⟨rfl, y1, rfl⟩)) | (go_at_call 25; ((with_reducible refine (Hk.out W y1 H.out).mono ?_); rintro _ _ ⟨rfl, y2, rfl⟩)))
      clear Hf Hk
      have hef : (ivE r != 0) = false := by have := He.out; simpa using this
      have hrk := rideOk_of He.out
      obtain ⟨s1, s2, s3⟩ := hrk.s
      obtain ⟨e1, e2, e3⟩ := hrk.e
      obtain ⟨ln1, ln2⟩ := hrk.ln
      have Hrk := Lib.hid hrk
      clear hrk
      have hop := ((ivE_zero r).1 He.out).2
      have Hop := Lib.hid hop
      clear hop
      have hm0 := HI.out 0
      have hm1 := HI.out 1
      have Ha0 := Lib.hid (fun (w' : World) (hw : IsSince W w') => at_s (W := W) w' hw a l c 0 0 HM.out hl (by omega) rfl)
      have Ha1 := Lib.hid (fun (w' : World) (hw : IsSince W w') => at_s (W := W) w' hw a l c 1 1 HM.out hl (by omega) rfl)
      generalize at0 l 0 = m0 at *
      generalize at0 l 1 = m1 at *
      obtain ⟨m02, m03⟩ := hm0
      obtain ⟨m12, m13⟩ := hm1
      go_upto_region 4 with fail
      have hx0 : (y2.w.alloc (.cells #[.int .i64 r.id, .int .i64 r.rd, .int .i64 r.s0, .int .i64 r.s1, .int .i64 r.e0, .int .i64 r.e1, .bool r.op, .slice r.la r.legs.length r.lc, .slice r.pa r.pauses.length r.pc, .int .i64 r.fw, .int .i64 r.fp, .int .i64 r.wh, .int .i64 r.pl] 27)).cell? ⟨y2.w.heap.size, 0, none⟩ = some (.int .i64 r.id) := by simp [go_sem]
      have hx1 : (y2.w.alloc (.cells #[.int .i64 r.id, .int .i64 r.rd, .int .i64 r.s0, .int .i64 r.s1, .int .i64 r.e0, .int .i64 r.e1, .bool r.op, .slice r.la r.legs.length r.lc, .slice r.pa r.pauses.length r.pc, .int .i64 r.fw, .int .i64 r.fp, .int .i64 r.wh, .int .i64 r.pl] 27)).cell? ⟨y2.w.heap.size, 1, none⟩ = some (.int .i64 r.rd) := by simp [go_sem]
      have hx2 : (y2.w.alloc (.cells #[.int .i64 r.id, .int .i64 r.rd, .int .i64 r.s0, .int .i64 r.s1, .int .i64 r.e0, .int .i64 r.e1, .bool r.op, .slice r.la r.legs.length r.lc, .slice r.pa r.pauses.length r.pc, .int .i64 r.fw, .int .i64 r.fp, .int .i64 r.wh, .int .i64 r.pl] 27)).cell? ⟨y2.w.heap.size, 2, none⟩ = some (.int .i64 r.s0) := by simp [go_sem]
      have hx3 : (y2.w.alloc (.cells #[.int .i64 r.id, .int .i64 r.rd, .int .i64 r.s0, .int .i64 r.s1, .int .i64 r.e0, .int .i64 r.e1, .bool r.op, .slice r.la r.legs.length r.lc, .slice r.pa r.pauses.length r.pc, .int .i64 r.fw, .int .i64 r.fp, .int .i64 r.wh, .int .i64 r.pl] 27)).cell? ⟨y2.w.heap.size, 3, none⟩ = some (.int .i64 r.s1) := by simp [go_sem]
      have hx4 : (y2.w.alloc (.cells #[.int .i64 r.id, .int .i64 r.rd, .int .i64 r.s0, .int .i64 r.s1, .int .i64 r.e0, .int .i64 r.e1, .bool r.op, .slice r.la r.legs.length r.lc, .slice r.pa r.pauses.length r.pc, .int .i64 r.fw, .int .i64 r.fp, .int .i64 r.wh, .int .i64 r.pl] 27)).cell? ⟨y2.w.heap.size, 4, none⟩ = some (.int .i64 r.e0) := by simp [go_sem]
      have hx5 : (y2.w.alloc (.cells #[.int .i64 r.id, .int .i64 r.rd, .int .i64 r.s0, .int .i64 r.s1, .int .i64 r.e0, .int .i64 r.e1, .bool r.op, .slice r.la r.legs.length r.lc, .slice r.pa r.pauses.length r.pc, .int .i64 r.fw, .int .i64 r.fp, .int .i64 r.wh, .int .i64 r.pl] 27)).cell? ⟨y2.w.heap.size, 5, none⟩ = some (.int .i64 r.e1) := by simp [go_sem]
      have hx6 : (y2.w.alloc (.cells #[.int .i64 r.id, .int .i64 r.rd, .int .i64 r.s0, .int .i64 r.s1, .int .i64 r.e0, .int .i64 r.e1, .bool r.op, .slice r.la r.legs.length r.lc, .slice r.pa r.pauses.length r.pc, .int .i64 r.fw, .int .i64 r.fp, .int .i64 r.wh, .int .i64 r.pl] 27)).cell? ⟨y2.w.heap.size, 6, none⟩ = some (.bool r.op) := by simp [go_sem]
      have hx7 : (y2.w.alloc (.cells #[.int .i64 r.id, .int .i64 r.rd, .int .i64 r.s0, .int .i64 r.s1, .int .i64 r.e0, .int .i64 r.e1, .bool r.op, .slice r.la r.legs.length r.lc, .slice r.pa r.pauses.length r.pc, .int .i64 r.fw, .int .i64 r.fp, .int .i64 r.wh, .int .i64 r.pl] 27)).cell? ⟨y2.w.heap.size, 7, none⟩ = some (.slice r.la r.legs.length r.lc) := by simp [go_sem]
      have hx8 : (y2.w.alloc (.cells #[.int .i64 r.id, .int .i64 r.rd, .int .i64 r.s0, .int .i64 r.s1, .int .i64 r.e0, .int .i64 r.e1, .bool r.op, .slice r.la r.legs.length r.lc, .slice r.pa r.pauses.length r.pc, .int .i64 r.fw, .int .i64 r.fp, .int .i64 r.wh, .int .i64 r.pl] 27)).cell? ⟨y2.w.heap.size, 8, none⟩ = some (.slice r.pa r.pauses.length r.pc) := by simp [go_sem]
      have hx9 : (y2.w.alloc (.cells #[.int .i64 r.id, .int .i64 r.rd, .int .i64 r.s0, .int .i64 r.s1, .int .i64 r.e0, .int .i64 r.e1, .bool r.op, .slice r.la r.legs.length r.lc, .slice r.pa r.pauses.length r.pc, .int .i64 r.fw, .int .i64 r.fp, .int .i64 r.wh, .int .i64 r.pl] 27)).cell? ⟨y2.w.heap.size, 9, none⟩ = some (.int .i64 r.fw) := by simp [go_sem]
      have hx10 : (y2.w.alloc (.cells #[.int .i64 r.id, .int .i64 r.rd, .int .i64 r.s0, .int .i64 r.s1, .int .i64 r.e0, .int .i64 r.e1, .bool r.op, .slice r.la r.legs.length r.lc, .slice r.pa r.pauses.length r.pc, .int .i64 r.fw, .int .i64 r.fp, .int .i64 r.wh, .int .i64 r.pl] 27)).cell? ⟨y2.w.heap.size, 10, none⟩ = some (.int .i64 r.fp) := by simp [go_sem]
      have hx11 : (y2.w.alloc (.cells #[.int .i64 r.id, .int .i64 r.rd, .int .i64 r.s0, .int .i64 r.s1, .int .i64 r.e0, .int .i64 r.e1, .bool r.op, .slice r.la r.legs.length r.lc, .slice r.pa r.pauses.length r.pc, .int .i64 r.fw, .int .i64 r.fp, .int .i64 r.wh, .int .i64 r.pl] 27)).cell? ⟨y2.w.heap.size, 11, none⟩ = some (.int .i64 r.wh) := by simp [go_sem]
      have hx12 : (y2.w.alloc (.cells #[.int .i64 r.id, .int .i64 r.rd, .int .i64 r.s0, .int .i64 r.s1, .int .i64 r.e0, .int .i64 r.e1, .bool r.op, .slice r.la r.legs.length r.lc, .slice r.pa r.pauses.length r.pc, .int .i64 r.fw, .int .i64 r.fp, .int .i64 r.wh, .int .i64 r.pl] 27)).cell? ⟨y2.w.heap.size, 12, none⟩ = some (.int .i64 r.pl) := by simp [go_sem]
      have hxf : ∀ o, (y2.w.alloc (.cells #[.int .i64 r.id, .int .i64 r.rd, .int .i64 r.s0, .int .i64 r.s1, .int .i64 r.e0, .int .i64 r.e1, .bool r.op, .slice r.la r.legs.length r.lc, .slice r.pa r.pauses.length r.pc, .int .i64 r.fw, .int .i64 r.fp, .int .i64 r.wh, .int .i64 r.pl] 27)).frozen? ⟨y2.w.heap.size, o, none⟩ = false := fun o => by simp [go_sem]
      have hlt0 : y2.w.heap.size < (y2.w.alloc (.cells #[.int .i64 r.id, .int .i64 r.rd, .int .i64 r.s0, .int .i64 r.s1, .int .i64 r.e0, .int .i64 r.e1, .bool r.op, .slice r.la r.legs.length r.lc, .slice r.pa r.pauses.length r.pc, .int .i64 r.fw, .int .i64 r.fp, .int .i64 r.wh, .int .i64 r.pl] 27)).heap.size := by simp
      have hst0 : ∃ zz : Since y2.w, (y2.w.alloc (.cells #[.int .i64 r.id, .int .i64 r.rd, .int .i64 r.s0, .int .i64 r.s1, .int .i64 r.e0, .int .i64 r.e1, .bool r.op, .slice r.la r.legs.length r.lc, .slice r.pa r.pauses.length r.pc, .int .i64 r.fw, .int .i64 r.fp, .int .i64 r.wh, .int .i64 r.pl] 27)) = zz.w := IsSince.alloc (IsSince.self _) _
      have hsz0 := y2.b.size
      obtain ⟨y4, e2⟩ := IsSince.alloc (IsSince.of y2) (.cells #[.int .i64 r.id, .int .i64 r.rd, .int .i64 r.s0, .int .i64 r.s1, .int .i64 r.e0, .int .i64 r.e1, .bool r.op, .slice r.la r.legs.length r.lc, .slice r.pa r.pauses.length r.pc, .int .i64 r.fw, .int .i64 r.fp, .int .i64 r.wh, .int .i64 r.pl] 27)
      rw [e2] at hx0 hx1 hx2 hx3 hx4 hx5 hx6 hx7 hx8 hx9 hx10 hx11 hx12 hxf hlt0 hst0 ⊢
      (have hbx := BoxIs.new y2.w [.int .i64 r.id, .int .i64 r.rd, .int .i64 r.s0, .int .i64 r.s1, .int .i64 r.e0, .int .i64 r.e1, .bool r.op, .slice r.la r.legs.length r.lc, .slice r.pa r.pauses.length r.pc, .int .i64 r.fw, .int .i64 r.fp, .int .i64 r.wh, .int .i64 r.pl] 27; rw [e2] at hbx)
      clear e2 hst0
      generalize y2.w.heap.size = gx at *
      have Hhx0 : ∀ q : Since y4.w, q.w.cell? ⟨gx, 0, none⟩ = some (.int .i64 r.id) := fun q => Since.cell hx0 (by omega) q
      have Hhx1 : ∀ q : Since y4.w, q.w.cell? ⟨gx, 1, none⟩ = some (.int .i64 r.rd) := fun q => Since.cell hx1 (by omega) q
      have Hhx2 : ∀ q : Since y4.w, q.w.cell? ⟨gx, 2, none⟩ = some (.int .i64 r.s0) := fun q => Since.cell hx2 (by omega) q
      have Hhx3 : ∀ q : Since y4.w, q.w.cell? ⟨gx, 3, none⟩ = some (.int .i64 r.s1) := fun q => Since.cell hx3 (by omega) q
      have Hhx4 : ∀ q : Since y4.w, q.w.cell? ⟨gx, 4, none⟩ = some (.int .i64 r.e0) := fun q => Since.cell hx4 (by omega) q
      have Hhx5 : ∀ q : Since y4.w, q.w.cell? ⟨gx, 5, none⟩ = some (.int .i64 r.e1) := fun q => Since.cell hx5 (by omega) q
      have Hhx6 : ∀ q : Since y4.w, q.w.cell? ⟨gx, 6, none⟩ = some (.bool r.op) := fun q => Since.cell hx6 (by omega) q
      have Hhx7 : ∀ q : Since y4.w, q.w.cell? ⟨gx, 7, none⟩ = some (.slice r.la r.legs.length r.lc) := fun q => Since.cell hx7 (by omega) q
      have Hhx8 : ∀ q : Since y4.w, q.w.cell? ⟨gx, 8, none⟩ = some (.slice r.pa r.pauses.length r.pc) := fun q => Since.cell hx8 (by omega) q
      have Hhx9 : ∀ q : Since y4.w, q.w.cell? ⟨gx, 9, none⟩ = some (.int .i64 r.fw) := fun q => Since.cell hx9 (by omega) q
      have Hhx10 : ∀ q : Since y4.w, q.w.cell? ⟨gx, 10, none⟩ = some (.int .i64 r.fp) := fun q => Since.cell hx10 (by omega) q
      have Hhx11 : ∀ q : Since y4.w, q.w.cell? ⟨gx, 11, none⟩ = some (.int .i64 r.wh) := fun q => Since.cell hx11 (by omega) q
      have Hhx12 : ∀ q : Since y4.w, q.w.cell? ⟨gx, 12, none⟩ = some (.int .i64 r.pl) := fun q => Since.cell hx12 (by omega) q
      have Hhxf : ∀ (q : Since y4.w) (o : Nat), q.w.frozen? ⟨gx, o, none⟩ = false := fun q o => Since.free (hxf o) (by omega) q
      have Hhxg := Lib.hid (And.intro hsz0 hlt0)
      clear hlt0 hsz0
      have HX := Lib.hid hbx
      have Hgx := Lib.hid Hhxg.out.1
      clear hbx Hhxg hx0 Hhx0 hx1 Hhx1 hx2 Hhx2 hx3 Hhx3 hx4 Hhx4 hx5 Hhx5 hx6 Hhx6 hx7 Hhx7 hx8 Hhx8 hx9 Hhx9 hx10 Hhx10 hx11 Hhx11 hx12 Hhx12 hxf Hhxf
      have k2 := fun w' (h : IsSince W w') => IsSince.cell hb0_2 h
      have k3 := fun w' (h : IsSince W w') => IsSince.cell hb0_3 h
      refine wp_region_M (fun w' => IsSince W w') 6 (by kernel_rfl) (IsSince.drew' (IsSince.of y4)) (fun hS => ?_)
      refine wpAnyM_take (i := 0) (v := ?_) rfl (by kernel_rfl) (by kernel_rfl) (by kernel_rfl) (by kernel_rfl) (fun _ _ _ h => h) hS (Or.inl ⟨by rfl, ?_⟩) ?_
      rotate_left
      · (intro w hSw; (try dsimp only at hSw); go_split_ands; go_simp; try (with_reducible rfl))
      (try simp only [Act.put, List.setIfInBounds_toArray, List.set_cons_zero, List.set_cons_succ])
      refine wpAnyM_take (i := 1) (v := ?_) rfl (by kernel_rfl) (by kernel_rfl) (by kernel_rfl) (by kernel_rfl) (fun _ _ _ h => h) hS (Or.inl ⟨by rfl, ?_⟩) ?_
      rotate_left
      · (intro w hSw; (try dsimp only at hSw); go_split_ands; go_simp; try (with_reducible rfl))
      (try simp only [Act.put, List.setIfInBounds_toArray, List.set_cons_zero, List.set_cons_succ])
      refine wpAnyM_take (i := 2) (v := ?_) rfl (by kernel_rfl) (by kernel_rfl) (by kernel_rfl) (by kernel_rfl) (fun _ _ _ h => h) hS (Or.inl ⟨by rfl, ?_⟩) ?_
      rotate_left
      · (intro w hSw; (try dsimp only at hSw); go_split_ands; go_simp; try (with_reducible rfl))
      (try simp only [Act.put, List.setIfInBounds_toArray, List.set_cons_zero, List.set_cons_succ])
      refine wpAnyM_one (i := 3) (by kernel_rfl) rfl (fun K hK => ?_)
      (go_simp; (with_reducible refine (Ha0.out _ hS).mono ?_); rintro _ _ ⟨rfl, y5, rfl, hz1⟩; have hA := HX.out.drew.to hz1)
      refine hK.out _ _ (Or.inr (IsSince.of y5)) (fun hS' => ?_)
      replace hS := hS'.resolve_left (by decide)
      clear hK K hS'
      (try simp only [Act.put, List.setIfInBounds_toArray, List.set_cons_zero, List.set_cons_succ])
      refine wpAnyM_one (i := 4) (by kernel_rfl) rfl (fun K hK => ?_)
      (go_simp; (with_reducible refine (shrunk_s (W := W) _ hS r.s0 r.s1 m0 (by omega) (by omega) (by omega) (by omega) (by omega)).mono ?_); rintro _ _ ⟨rfl, y6, rfl, hz2⟩; replace hA := hA.to hz2)
      refine hK.out _ _ (Or.inr (IsSince.of y6)) (fun hS' => ?_)
      replace hS := hS'.resolve_left (by decide)
      clear hK K hS'
      (try simp only [Act.put, List.setIfInBounds_toArray, List.set_cons_zero, List.set_cons_succ])
      refine wpAnyM_take (i := 5) (v := ?_) rfl (by kernel_rfl) (by kernel_rfl) (by kernel_rfl) (by kernel_rfl) (fun _ _ _ h => h) hS (Or.inl ⟨by rfl, ?_⟩) ?_
      rotate_left
      · (intro w hSw; (try dsimp only at hSw); go_split_ands; go_simp; try (with_reducible rfl))
      (try simp only [Act.put, List.setIfInBounds_toArray, List.set_cons_zero, List.set_cons_succ])
      have hxc2 := hA.c 2 _ rfl
      have hxc3 := hA.c 3 _ rfl
      have hxf2 := hA.f
      refine wpAnyM_one (i := 6) (by kernel_rfl) rfl (fun K hK => ?_)
      go_simp
      refine hK.out _ _ (Or.inl rfl) (fun _ => ?_)
      clear hK K hS
      (try simp only [Act.put, List.setIfInBounds_toArray, List.set_cons_zero, List.set_cons_succ])
      refine wpAnyM_done (by kernel_rfl) ?_
      clear hxc2 hxc3 hxf2 k2 k3 hz1 hz2
      have hX9 := (hA.setj (j := 2) (by simp) (.int .i64 (shrLo r.s0 r.s1 m0))).setj (j := 3) (by simp) (.int .i64 (shrHi r.s0 r.s1 m0))
      obtain ⟨z1, h1⟩ := y6.set ⟨gx, 2, none⟩ Hgx.out (.int .i64 (shrLo r.s0 r.s1 m0))
      obtain ⟨y7, h2⟩ := z1.set ⟨gx, 3, none⟩ Hgx.out (.int .i64 (shrHi r.s0 r.s1 m0))
      rw [← h1] at h2
      rw [h2] at hX9 ⊢
      replace HX := Lib.hid hX9
      clear hX9 h1 h2 hA
      have hsh := shr_in (n := m0) (show r.s0 ≤ r.s1 by omega)
      generalize shrLo r.s0 r.s1 m0 = a0 at *
      generalize shrHi r.s0 r.s1 m0 = a1 at *
      obtain ⟨a2, a3, a4⟩ := hsh
      replace HX := Lib.hid (show BoxIs _ gx [.int .i64 r.id, .int .i64 r.rd, .int .i64 a0, .int .i64 a1, .int .i64 r.e0, .int .i64 r.e1, .bool r.op, .slice r.la r.legs.length r.lc, .slice r.pa r.pauses.length r.pc, .int .i64 r.fw, .int .i64 r.fp, .int .i64 r.wh, .int .i64 r.pl] from HX.out)
      have k4 := fun w' (h : IsSince W w') => IsSince.cell hb0_4 h
      have k5 := fun w' (h : IsSince W w') => IsSince.cell hb0_5 h
      go_wp2_with fail
      refine wp_region_M (fun w' => IsSince W w') 6 (by kernel_rfl) (IsSince.drew' (IsSince.of y7)) (fun hS => ?_)
      refine wpAnyM_take (i := 0) (v := ?_) rfl (by kernel_rfl) (by kernel_rfl) (by kernel_rfl) (by kernel_rfl) (fun _ _ _ h => h) hS (Or.inl ⟨by rfl, ?_⟩) ?_
      rotate_left
      · (intro w hSw; (try dsimp only at hSw); go_split_ands; go_simp; try (with_reducible rfl))
      (try simp only [Act.put, List.setIfInBounds_toArray, List.set_cons_zero, List.set_cons_succ])
      refine wpAnyM_take (i := 1) (v := ?_) rfl (by kernel_rfl) (by kernel_rfl) (by kernel_rfl) (by kernel_rfl) (fun _ _ _ h => h) hS (Or.inl ⟨by rfl, ?_⟩) ?_
      rotate_left
      · (intro w hSw; (try dsimp only at hSw); go_split_ands; go_simp; try (with_reducible rfl))
      (try simp only [Act.put, List.setIfInBounds_toArray, List.set_cons_zero, List.set_cons_succ])
      refine wpAnyM_take (i := 2) (v := ?_) rfl (by kernel_rfl) (by kernel_rfl) (by kernel_rfl) (by kernel_rfl) (fun _ _ _ h => h) hS (Or.inl ⟨by rfl, ?_⟩) ?_
      rotate_left
      · (intro w hSw; (try dsimp only at hSw); go_split_ands; go_simp; try (with_reducible rfl))
      (try simp only [Act.put, List.setIfInBounds_toArray, List.set_cons_zero, List.set_cons_succ])
      refine wpAnyM_one (i := 3) (by kernel_rfl) rfl (fun K hK => ?_)
      (go_simp; (with_reducible refine (Ha1.out _ hS).mono ?_); rintro _ _ ⟨rfl, y8, rfl, hz1⟩; have hA := HX.out.drew.to hz1)
      refine hK.out _ _ (Or.inr (IsSince.of y8)) (fun hS' => ?_)
      replace hS := hS'.resolve_left (by decide)
      clear hK K hS'
      (try simp only [Act.put, List.setIfInBounds_toArray, List.set_cons_zero, List.set_cons_succ])
      refine wpAnyM_one (i := 4) (by kernel_rfl) rfl (fun K hK => ?_)
      (go_simp; (with_reducible refine (shrunk_s (W := W) _ hS r.e0 r.e1 m1 (by omega) (by omega) (by omega) (by omega) (by omega)).mono ?_); rintro _ _ ⟨rfl, y9, rfl, hz2⟩; replace hA := hA.to hz2)
      refine hK.out _ _ (Or.inr (IsSince.of y9)) (fun hS' => ?_)
      replace hS := hS'.resolve_left (by decide)
      clear hK K hS'
      (try simp only [Act.put, List.setIfInBounds_toArray, List.set_cons_zero, List.set_cons_succ])
      refine wpAnyM_take (i := 5) (v := ?_) rfl (by kernel_rfl) (by kernel_rfl) (by kernel_rfl) (by kernel_rfl) (fun _ _ _ h => h) hS (Or.inl ⟨by rfl, ?_⟩) ?_
      rotate_left
      · (intro w hSw; (try dsimp only at hSw); go_split_ands; go_simp; try (with_reducible rfl))
      (try simp only [Act.put, List.setIfInBounds_toArray, List.set_cons_zero, List.set_cons_succ])
      have hxc2 := hA.c 4 _ rfl
      have hxc3 := hA.c 5 _ rfl
      have hxf2 := hA.f
      refine wpAnyM_one (i := 6) (by kernel_rfl) rfl (fun K hK => ?_)
      go_simp
      refine hK.out _ _ (Or.inl rfl) (fun _ => ?_)
      clear hK K hS
      (try simp only [Act.put, List.setIfInBounds_toArray, List.set_cons_zero, List.set_cons_succ])
      refine wpAnyM_done (by kernel_rfl) ?_
      clear hxc2 hxc3 hxf2 k4 k5 hz1 hz2
      have hX9 := (hA.setj (j := 4) (by simp) (.int .i64 (shrLo r.e0 r.e1 m1))).setj (j := 5) (by simp) (.int .i64 (shrHi r.e0 r.e1 m1))
      obtain ⟨z1, h1⟩ := y9.set ⟨gx, 4, none⟩ Hgx.out (.int .i64 (shrLo r.e0 r.e1 m1))
      obtain ⟨y10, h2⟩ := z1.set ⟨gx, 5, none⟩ Hgx.out (.int .i64 (shrHi r.e0 r.e1 m1))
      rw [← h1] at h2
      rw [h2] at hX9 ⊢
      replace HX := Lib.hid hX9
      clear hX9 h1 h2 hA
      have hsh := shr_in (n := m1) (show r.e0 ≤ r.e1 by omega)
      generalize shrLo r.e0 r.e1 m1 = b0 at *
      generalize shrHi r.e0 r.e1 m1 = b1 at *
      obtain ⟨b2, b3, b4⟩ := hsh
      replace HX := Lib.hid (show BoxIs _ gx [.int .i64 r.id, .int .i64 r.rd, .int .i64 a0, .int .i64 a1, .int .i64 b0, .int .i64 b1, .bool r.op, .slice r.la r.legs.length r.lc, .slice r.pa r.pauses.length r.pc, .int .i64 r.fw, .int .i64 r.fp, .int .i64 r.wh, .int .i64 r.pl] from HX.out)
      have hxf2 := HX.out.f
      have hxc2 := HX.out.c 7 _ rfl
      go_upto_region 7 with fail
      clear hxf2 hxc2
      have hX9 := HX.out.setj (j := 7) (by simp) (.slice none 0 0)
      obtain ⟨y11, h2⟩ := y10.set ⟨gx, 7, none⟩ Hgx.out (.slice none 0 0)
      rw [h2] at hX9 ⊢
      replace HX := Lib.hid hX9
      clear hX9 h2
      replace HX := Lib.hid (show BoxIs _ gx [.int .i64 r.id, .int .i64 r.rd, .int .i64 a0, .int .i64 a1, .int .i64 b0, .int .i64 b1, .bool r.op, .slice none 0 0, .slice r.pa r.pauses.length r.pc, .int .i64 r.fw, .int .i64 r.fp, .int .i64 r.wh, .int .i64 r.pl] from HX.out)
      have hxf2 := HX.out.f
      have hxc2 := HX.out.c 8 _ rfl
      go_upto_region 8 with fail
      clear hxf2 hxc2
      have hX9 := HX.out.setj (j := 8) (by simp) (.slice none 0 0)
      obtain ⟨y12, h2⟩ := y11.set ⟨gx, 8, none⟩ Hgx.out (.slice none 0 0)
      rw [h2] at hX9 ⊢
      replace HX := Lib.hid hX9
      clear hX9 h2
      replace HX := Lib.hid (show BoxIs _ gx [.int .i64 r.id, .int .i64 r.rd, .int .i64 a0, .int .i64 a1, .int .i64 b0, .int .i64 b1, .bool r.op, .slice none 0 0, .slice none 0 0, .int .i64 r.fw, .int .i64 r.fp, .int .i64 r.wh, .int .i64 r.pl] from HX.out)
      obtain ⟨ad, had⟩ : ∃ ad, r.la = some ad := by
        obtain ⟨e, he⟩ : ∃ e, r.legs[0]? = some e := ⟨_, List.getElem?_eq_getElem (by omega)⟩
        obtain ⟨b, off, hb, _⟩ := H.out.l 0 e he
        exact ⟨_, hb⟩
      have hels := (H.out.l).to (IsSince.of y12)
      rw [had] at hels hb0_7
      have Hels := Lib.hid hels
      have Had := Lib.hid had
      clear hels had
      have hxc2 := HX.out.c 7 _ rfl
      go_wp2_with (at_builtin; (refine wpList_appendEls (w0 := W) (enc := Leg.cs) (k := 5) Leg.len (by decide) legX_one (IsSince.of y12) rfl _ _ 24 rfl y12.w.heap.size y12.b.size (Nat.le_refl _) 60 (.agg #[.int .i64 0, .int .i64 0, .int .i64 0, .int .i64 0, .int .i64 0]) 40 sLegX (.slice none 0 0) 0 [] rfl ⟨rfl, .inl ⟨rfl, rfl⟩⟩ (some ad) r.legs r.lc rfl Hels.out (fun h => by cases h) (by unfold maxLen; omega) (by omega) ?_; intro v2 q2 hown2 _ hg2; rw [Nat.zero_add, List.nil_append] at hown2; obtain ⟨gl, cl, rfl, hgl, hbl⟩ := own_box hown2 (by omega); have hA := HX.out.grown hg2 (by simp [Value.ownBlock]); have hxc3 := hA.c 7 _ rfl; have hxf3 := hA.f; refine Hid.out ?_))
      have HX2 := Lib.hid hA
      have HL := Lib.hid hbl
      have Hgl := Lib.hid (show W.heap.size ≤ gl ∧ gx < gl from ⟨Nat.le_trans y12.b.size hgl, by have := HX.out.lt; omega⟩)
      clear hown2 hg2 hbl hA hgl hxc2 Hels
      refine Lib.hid ?_
      go_upto_region 9 with fail
      clear hxc3 hxf3
      have hX9 := HX2.out.setj (j := 7) (by simp) (.slice (some ⟨gl, 0, none⟩) r.legs.length cl)
      have hL9 := HL.out.far ⟨gx, 7, none⟩ (.slice (some ⟨gl, 0, none⟩) r.legs.length cl) (by have := Hgl.out.2; show gl ≠ gx; omega)
      obtain ⟨y13, h2⟩ := q2.set ⟨gx, 7, none⟩ Hgx.out (.slice (some ⟨gl, 0, none⟩) r.legs.length cl)
      rw [h2] at hX9 hL9 ⊢
      replace HX := Lib.hid (show BoxIs y13.w gx [.int .i64 r.id, .int .i64 r.rd, .int .i64 a0, .int .i64 a1, .int .i64 b0, .int .i64 b1, .bool r.op, .slice (some ⟨gl, 0, none⟩) r.legs.length cl, .slice none 0 0, .int .i64 r.fw, .int .i64 r.fp, .int .i64 r.wh, .int .i64 r.pl] from hX9)
      replace HL := Lib.hid hL9
      clear hX9 hL9 h2 HX2
      obtain ⟨n, hn⟩ : ∃ n, n = r.legs.length := ⟨_, rfl⟩
      rw [← hn] at HX hb0_7 ln1 ln2 hll
      have Hn := Lib.hid hn
      obtain ⟨u0, _, hu1, hu2, _, _⟩ := leg_cells r.legs 0 (by omega)
      clear hn
      have x1 := HL.out.c _ _ hu1
      have x2 := HL.out.c _ _ hu2
      simp only [Nat.zero_mul, Nat.zero_add] at x1 x2
      have xf := HL.out.f
      have x7 := HX.out.c 7 _ rfl
      have x3 := HX.out.c 2 _ rfl
      have x4 := HX.out.c 3 _ rfl
      have n0 : (0 : Int) < (n : Int) := by omega
      go_upto_region 10 with fail
      have hL9 := (HL.out.setj (j := 1) (by have := (List.getElem?_eq_some_iff.1 hu1).1; simpa using this) (.int .i64 a0)).setj (j := 2) (by have := (List.getElem?_eq_some_iff.1 hu2).1; rw [List.length_set]; simpa using this) (.int .i64 a1)
      have hX9 := (HX.out.far ⟨gl, 1, none⟩ (.int .i64 a0) (by have := Hgl.out.2; show gx ≠ gl; omega)).far ⟨gl, 2, none⟩ (.int .i64 a1) (by have := Hgl.out.2; show gx ≠ gl; omega)
      obtain ⟨z1, h1⟩ := y13.set ⟨gl, 1, none⟩ Hgl.out.1 (.int .i64 a0)
      obtain ⟨y14, h2⟩ := z1.set ⟨gl, 2, none⟩ Hgl.out.1 (.int .i64 a1)
      rw [← h1] at h2
      rw [h2] at hX9 hL9 ⊢
      replace HX := Lib.hid hX9
      replace HL := Lib.hid (show BoxIs y14.w gl (flat Leg.cs (setF a0 a1 r.legs)) by rw [flat_setF]; exact hL9)
      clear hX9 hL9 h1 h2 x1 x2 x3 x4 x7 xf hu1 hu2
      obtain ⟨m, hm⟩ : ∃ m : Nat, (n : Int) - 1 = (m : Int) := ⟨n - 1, by omega⟩
      have w1 : IntKind.i64.wrap ((n : Int) - 1) = (m : Int) := by rw [hm]; exact IntWalk.i64_in _ (by omega)
      have hm0 : (0 : Int) ≤ (m : Int) := by omega
      have hmn : (m : Int) < (n : Int) := by omega
      have Hm := Lib.hid hm
      clear hm
      obtain ⟨u1, _, _, _, hu3, hu4⟩ := leg_cells (setF a0 a1 r.legs) m (by rw [setF_len]; have := Hn.out; omega)
      have x1 := HL.out.c _ _ hu3
      have x2 := HL.out.c _ _ hu4
      have xf := HL.out.f
      have x7 := HX.out.c 7 _ rfl
      have x3 := HX.out.c 4 _ rfl
      have x4 := HX.out.c 5 _ rfl
      go_upto_region 11 with fail
      have hlt5 : m < (setF a0 a1 r.legs).length := by rw [setF_len]; have := Hn.out; omega
      have hL9 := (HL.out.setj (j := m * 5 + 3) (List.getElem?_eq_some_iff.1 hu3).1 (.int .i64 b0)).setj (j := m * 5 + 4) (by rw [List.length_set]; exact (List.getElem?_eq_some_iff.1 hu4).1) (.int .i64 b1)
      have hX9 := (HX.out.far ⟨gl, m * 5 + 3, none⟩ (.int .i64 b0) (by have := Hgl.out.2; show gx ≠ gl; omega)).far ⟨gl, m * 5 + 4, none⟩ (.int .i64 b1) (by have := Hgl.out.2; show gx ≠ gl; omega)
      obtain ⟨z1, h1⟩ := y14.set ⟨gl, m * 5 + 3, none⟩ Hgl.out.1 (.int .i64 b0)
      obtain ⟨y15, h2⟩ := z1.set ⟨gl, m * 5 + 4, none⟩ Hgl.out.1 (.int .i64 b1)
      rw [← h1] at h2
      rw [h2] at hX9 hL9 ⊢
      obtain ⟨LG, hLG⟩ : ∃ LG, LG = setT b0 b1 (setF a0 a1 r.legs) := ⟨_, rfl⟩
      have hLl : LG.length = n := by rw [hLG, setT_len, setF_len]; exact Hn.out.symm
      replace HX := Lib.hid hX9
      replace HL := Lib.hid (show BoxIs y15.w gl (flat Leg.cs LG) by rw [hLG, flat_setT _ _ _ (by intro h; rw [h] at hlt5; simp at hlt5), show (setF a0 a1 r.legs).length - 1 = m by rw [setF_len]; have := Hn.out; have := Hm.out; omega]; exact hL9)
      have HLl := Lib.hid hLl
      clear hX9 hL9 h1 h2 x1 x2 x3 x4 x7 xf hu3 hu4 w1 hm0 hmn hLG hLl hlt5 n0 Ha0 Ha1
      obtain ⟨np, hnp⟩ : ∃ np, np = r.pauses.length := ⟨_, rfl⟩
      rw [← hnp] at hb0_8 hpl
      have Hnp := Lib.hid hnp
      clear hnp
      obtain ⟨B2, hB2⟩ : ∃ B2, B2 = y15.w.heap.size := ⟨_, rfl⟩
      have HB2 := Lib.hid (show W.heap.size ≤ B2 ∧ gx < B2 ∧ gl < B2 ∧ B2 ≤ y15.w.heap.size from ⟨by rw [hB2]; exact y15.b.size, by rw [hB2]; exact HX.out.lt, by rw [hB2]; exact HL.out.lt, Nat.le_of_eq hB2⟩)
      clear hB2
      go_wp2_with fail
      go_loopw [6] (fun si wr => ∃ (k : Nat) (v : Value) (Ps : List Pse) (z : Since W), k ≤ np ∧ si = .int .i64 (k : Int) ∧ wr = z.w ∧ BoxIs z.w gx [.int .i64 r.id, .int .i64 r.rd, .int .i64 a0, .int .i64 a1, .int .i64 b0, .int .i64 b1, .bool r.op, .slice (some ⟨gl, 0, none⟩) n cl, v, .int .i64 r.fw, .int .i64 r.fp, .int .i64 r.wh, .int .i64 r.pl] ∧ BoxIs z.w gl (flat Leg.cs LG) ∧ z.w.ownsRow B2 52 4 v k (flat Pse.cs Ps) ∧ NarP (r.pauses.take k) Ps ∧ B2 ≤ z.w.heap.size) (fun si _ => np - (intOf si).toNat)
      case atStart => exact ⟨0, .slice none 0 0, [], y15, by omega, rfl, rfl, HX.out, HL.out, ⟨rfl, .inl ⟨rfl, rfl⟩⟩, ⟨rfl, fun i p q h => by simp at h⟩, HB2.out.2.2.2⟩
      case round =>
        obtain ⟨k, v, Ps, z, hk, rfl, rfl, hX, hL, hown, hN, hB⟩ := hrel
        replace HX := Lib.hid hX
        replace HL := Lib.hid hL
        have Hown := Lib.hid hown
        have HN := Lib.hid hN
        clear hX hL hown hN
        by_cases hlt : k < np
        · obtain ⟨e, he⟩ : ∃ e, r.pauses[k]? = some e := ⟨_, List.getElem?_eq_getElem (by have := Hnp.out; omega)⟩
          obtain ⟨p1, p2, p3, p4, p5, p6, _⟩ := Hrk.out.p e (List.mem_of_getElem? he)
          have hk0 : (0 : Int) ≤ (k : Int) := by omega
          have hkl : (k : Int) < (np : Int) := by omega
          have Htk := Lib.hid (show r.pauses.take (k + 1) = r.pauses.take k ++ [e] by rw [List.take_add_one, he]; rfl)
          obtain ⟨b1', off1, hal, h1'⟩ := Els.pse H.out.p he
          rw [hal] at hb0_8
          have ra0 := h1'.c0
          have ra1 := h1'.c1
          have ra2 := h1'.c2
          have ra3 := h1'.c3
          clear h1' he hal
          have k8 := fun w' (h : IsSince W w') => IsSince.cell hb0_8 h
          have j0 := fun w' (h : IsSince W w') => IsSince.cell ra0 h
          have j1 := fun w' (h : IsSince W w') => IsSince.cell ra1 h
          have j2 := fun w' (h : IsSince W w') => IsSince.cell ra2 h
          have j3 := fun w' (h : IsSince W w') => IsSince.cell ra3 h
          clear ra0 ra1 ra2 ra3
          have w1 : IntKind.i64.wrap (2 * (k : Int)) = 2 * (k : Int) := IntWalk.i64_in _ (by omega)
          have w2 : IntKind.i64.wrap (2 * (k : Int) + 2) = 2 * (k : Int) + 2 := IntWalk.i64_in _ (by omega)
          have w3 : IntKind.i64.wrap (2 * (k : Int) + 3) = 2 * (k : Int) + 3 := IntWalk.i64_in _ (by omega)
          obtain ⟨m22, m23⟩ := HI.out (2 * k + 2)
          obtain ⟨m32, m33⟩ := HI.out (2 * k + 3)
          have Ha0 := Lib.hid (fun (w' : World) (hw : IsSince W w') => at_s (W := W) w' hw a l c (2 * k + 2) (2 * (k : Int) + 2) HM.out hl (by omega) (by omega))
          have Ha1 := Lib.hid (fun (w' : World) (hw : IsSince W w') => at_s (W := W) w' hw a l c (2 * k + 3) (2 * (k : Int) + 3) HM.out hl (by omega) (by omega))
          generalize at0 l (2 * k + 2) = m2 at *
          generalize at0 l (2 * k + 3) = m3 at *
          go_wp2_with fail
          clear hb0_8
          have hxc := HX.out.c 8 _ rfl
          refine wp_region_M (fun w' => IsSince W w' ∧ w'.cell? ⟨gx, 8, none⟩ = some v) 30 (by kernel_rfl) ⟨IsSince.drew' (IsSince.of z), hxc⟩ (fun hS => ?_)
          refine wpAnyM_take (i := 0) (v := ?_) rfl (by kernel_rfl) (by kernel_rfl) (by kernel_rfl) (by kernel_rfl) (fun _ _ _ h => h) hS (Or.inl ⟨by rfl, ?_⟩) ?_
          rotate_left
          · (intro w hSw; (try dsimp only at hSw); go_split_ands; go_simp; try (with_reducible rfl))
          (try simp only [Act.put, List.setIfInBounds_toArray, List.set_cons_zero, List.set_cons_succ])
          refine wpAnyM_take (i := 1) (v := ?_) rfl (by kernel_rfl) (by kernel_rfl) (by kernel_rfl) (by kernel_rfl) (fun _ _ _ h => h) hS (Or.inl ⟨by rfl, ?_⟩) ?_
          rotate_left
          · (intro w hSw; (try dsimp only at hSw); go_split_ands; go_simp; try (with_reducible rfl))
          (try simp only [Act.put, List.setIfInBounds_toArray, List.set_cons_zero, List.set_cons_succ])
          refine wpAnyM_take (i := 2) (v := ?_) rfl (by kernel_rfl) (by kernel_rfl) (by kernel_rfl) (by kernel_rfl) (fun _ _ _ h => h) hS (Or.inl ⟨by rfl, ?_⟩) ?_
          rotate_left
          · (intro w hSw; (try dsimp only at hSw); go_split_ands; go_simp; try (with_reducible rfl))
          (try simp only [Act.put, List.setIfInBounds_toArray, List.set_cons_zero, List.set_cons_succ])
          refine wpAnyM_take (i := 3) (v := ?_) rfl (by kernel_rfl) (by kernel_rfl) (by kernel_rfl) (by kernel_rfl) (fun _ _ _ h => h) hS (Or.inl ⟨by rfl, ?_⟩) ?_
          rotate_left
          · (intro w hSw; (try dsimp only at hSw); go_split_ands; go_simp; try (with_reducible rfl))
          (try simp only [Act.put, List.setIfInBounds_toArray, List.set_cons_zero, List.set_cons_succ])
          refine wpAnyM_take (i := 4) (v := ?_) rfl (by kernel_rfl) (by kernel_rfl) (by kernel_rfl) (by kernel_rfl) (fun _ _ _ h => h) hS (Or.inl ⟨by rfl, ?_⟩) ?_
          rotate_left
          · (intro w hSw; (try dsimp only at hSw); go_split_ands; go_simp; try (with_reducible rfl))
          (try simp only [Act.put, List.setIfInBounds_toArray, List.set_cons_zero, List.set_cons_succ])
          refine wpAnyM_take (i := 5) (v := ?_) rfl (by kernel_rfl) (by kernel_rfl) (by kernel_rfl) (by kernel_rfl) (fun _ _ _ h => h) hS (Or.inl ⟨by rfl, ?_⟩) ?_
          rotate_left
          · (intro w hSw; (try dsimp only at hSw); go_split_ands; go_simp; try (with_reducible rfl))
          (try simp only [Act.put, List.setIfInBounds_toArray, List.set_cons_zero, List.set_cons_succ])
          refine wpAnyM_take (i := 6) (v := ?_) rfl (by kernel_rfl) (by kernel_rfl) (by kernel_rfl) (by kernel_rfl) (fun _ _ _ h => h) hS (Or.inl ⟨by rfl, ?_⟩) ?_
          rotate_left
          · (intro w hSw; (try dsimp only at hSw); go_split_ands; go_simp; try (with_reducible rfl))
          (try simp only [Act.put, List.setIfInBounds_toArray, List.set_cons_zero, List.set_cons_succ])
          refine wpAnyM_take (i := 7) (v := ?_) rfl (by kernel_rfl) (by kernel_rfl) (by kernel_rfl) (by kernel_rfl) (fun _ _ _ h => h) hS (Or.inl ⟨by rfl, ?_⟩) ?_
          rotate_left
          · (intro w hSw; (try dsimp only at hSw); go_split_ands; go_simp; try (with_reducible rfl))
          (try simp only [Act.put, List.setIfInBounds_toArray, List.set_cons_zero, List.set_cons_succ])
          refine wpAnyM_take (i := 8) (v := ?_) rfl (by kernel_rfl) (by kernel_rfl) (by kernel_rfl) (by kernel_rfl) (fun _ _ _ h => h) hS (Or.inl ⟨by rfl, ?_⟩) ?_
          rotate_left
          · (intro w hSw; (try dsimp only at hSw); go_split_ands; go_simp; try (with_reducible rfl))
          (try simp only [Act.put, List.setIfInBounds_toArray, List.set_cons_zero, List.set_cons_succ])
          refine wpAnyM_take (i := 9) (v := ?_) rfl (by kernel_rfl) (by kernel_rfl) (by kernel_rfl) (by kernel_rfl) (fun _ _ _ h => h) hS (Or.inl ⟨by rfl, ?_⟩) ?_
          rotate_left
          · (intro w hSw; (try dsimp only at hSw); go_split_ands; go_simp; try (with_reducible rfl))
          (try simp only [Act.put, List.setIfInBounds_toArray, List.set_cons_zero, List.set_cons_succ])
          refine wpAnyM_take (i := 10) (v := ?_) rfl (by kernel_rfl) (by kernel_rfl) (by kernel_rfl) (by kernel_rfl) (fun _ _ _ h => h) hS (Or.inl ⟨by rfl, ?_⟩) ?_
          rotate_left
          · (intro w hSw; (try dsimp only at hSw); go_split_ands; go_simp; try (with_reducible rfl))
          (try simp only [Act.put, List.setIfInBounds_toArray, List.set_cons_zero, List.set_cons_succ])
          refine wpAnyM_take (i := 11) (v := ?_) rfl (by kernel_rfl) (by kernel_rfl) (by kernel_rfl) (by kernel_rfl) (fun _ _ _ h => h) hS (Or.inl ⟨by rfl, ?_⟩) ?_
          rotate_left
          · (intro w hSw; (try dsimp only at hSw); go_split_ands; go_simp; try (with_reducible rfl))
          (try simp only [Act.put, List.setIfInBounds_toArray, List.set_cons_zero, List.set_cons_succ])
          refine wpAnyM_take (i := 14) (v := ?_) rfl (by kernel_rfl) (by kernel_rfl) (by kernel_rfl) (by kernel_rfl) (fun _ _ _ h => h) hS (Or.inl ⟨by rfl, ?_⟩) ?_
          rotate_left
          · (intro w hSw; (try dsimp only at hSw); go_split_ands; go_simp; try (with_reducible rfl))
          (try simp only [Act.put, List.setIfInBounds_toArray, List.set_cons_zero, List.set_cons_succ])
          refine wpAnyM_take (i := 15) (v := ?_) rfl (by kernel_rfl) (by kernel_rfl) (by kernel_rfl) (by kernel_rfl) (fun _ _ _ h => h) hS (Or.inl ⟨by rfl, ?_⟩) ?_
          rotate_left
          · (intro w hSw; (try dsimp only at hSw); go_split_ands; go_simp; try (with_reducible rfl))
          (try simp only [Act.put, List.setIfInBounds_toArray, List.set_cons_zero, List.set_cons_succ])
          refine wpAnyM_take (i := 16) (v := ?_) rfl (by kernel_rfl) (by kernel_rfl) (by kernel_rfl) (by kernel_rfl) (fun _ _ _ h => h) hS (Or.inl ⟨by rfl, ?_⟩) ?_
          rotate_left
          · (intro w hSw; (try dsimp only at hSw); go_split_ands; go_simp; try (with_reducible rfl))
          (try simp only [Act.put, List.setIfInBounds_toArray, List.set_cons_zero, List.set_cons_succ])
          refine wpAnyM_take (i := 17) (v := ?_) rfl (by kernel_rfl) (by kernel_rfl) (by kernel_rfl) (by kernel_rfl) (fun _ _ _ h => h) hS (Or.inl ⟨by rfl, ?_⟩) ?_
          rotate_left
          · (intro w hSw; (try dsimp only at hSw); go_split_ands; go_simp; try (with_reducible rfl))
          (try simp only [Act.put, List.setIfInBounds_toArray, List.set_cons_zero, List.set_cons_succ])
          refine wpAnyM_take (i := 18) (v := ?_) rfl (by kernel_rfl) (by kernel_rfl) (by kernel_rfl) (by kernel_rfl) (fun _ _ _ h => h) hS (Or.inl ⟨by rfl, ?_⟩) ?_
          rotate_left
          · (intro w hSw; (try dsimp only at hSw); go_split_ands; go_simp; try (with_reducible rfl))
          (try simp only [Act.put, List.setIfInBounds_toArray, List.set_cons_zero, List.set_cons_succ])
          refine wpAnyM_take (i := 19) (v := ?_) rfl (by kernel_rfl) (by kernel_rfl) (by kernel_rfl) (by kernel_rfl) (fun _ _ _ h => h) hS (Or.inl ⟨by rfl, ?_⟩) ?_
          rotate_left
          · (intro w hSw; (try dsimp only at hSw); go_split_ands; go_simp; try (with_reducible rfl))
          (try simp only [Act.put, List.setIfInBounds_toArray, List.set_cons_zero, List.set_cons_succ])
          refine wpAnyM_take (i := 20) (v := ?_) rfl (by kernel_rfl) (by kernel_rfl) (by kernel_rfl) (by kernel_rfl) (fun _ _ _ h => h) hS (Or.inl ⟨by rfl, ?_⟩) ?_
          rotate_left
          · (intro w hSw; (try dsimp only at hSw); go_split_ands; go_simp; try (with_reducible rfl))
          (try simp only [Act.put, List.setIfInBounds_toArray, List.set_cons_zero, List.set_cons_succ])
          refine wpAnyM_take (i := 21) (v := ?_) rfl (by kernel_rfl) (by kernel_rfl) (by kernel_rfl) (by kernel_rfl) (fun _ _ _ h => h) hS (Or.inl ⟨by rfl, ?_⟩) ?_
          rotate_left
          · (intro w hSw; (try dsimp only at hSw); go_split_ands; go_simp; try (with_reducible rfl))
          (try simp only [Act.put, List.setIfInBounds_toArray, List.set_cons_zero, List.set_cons_succ])
          refine wpAnyM_take (i := 22) (v := ?_) rfl (by kernel_rfl) (by kernel_rfl) (by kernel_rfl) (by kernel_rfl) (fun _ _ _ h => h) hS (Or.inl ⟨by rfl, ?_⟩) ?_
          rotate_left
          · (intro w hSw; (try dsimp only at hSw); go_split_ands; go_simp; try (with_reducible rfl))
          (try simp only [Act.put, List.setIfInBounds_toArray, List.set_cons_zero, List.set_cons_succ])
          refine wpAnyM_take (i := 23) (v := ?_) rfl (by kernel_rfl) (by kernel_rfl) (by kernel_rfl) (by kernel_rfl) (fun _ _ _ h => h) hS (Or.inl ⟨by rfl, ?_⟩) ?_
          rotate_left
          · (intro w hSw; (try dsimp only at hSw); go_split_ands; go_simp; try (with_reducible rfl))
          (try simp only [Act.put, List.setIfInBounds_toArray, List.set_cons_zero, List.set_cons_succ])
          refine wpAnyM_one (i := 12) (by kernel_rfl) rfl (fun K hK => ?_)
          (go_simp; (with_reducible refine (Ha0.out _ hS.1).mono ?_); rintro _ _ ⟨rfl, z1, rfl, hz⟩; have hA := HX.out.drew.to hz; have hO := own_to (own_to Hown.out (IsSince.drew' (IsSince.self _))) hz; have hL := HL.out.drew.to hz; have hBz := Nat.le_trans hB (IsSince.size (IsSince.trans (IsSince.drew' (IsSince.self z.w)) hz)); clear hz)
          refine hK.out _ _ (Or.inr (⟨IsSince.of z1, hA.c 8 _ rfl⟩)) (fun hS' => ?_)
          replace hS := hS'.resolve_left (by decide)
          clear hK K hS'
          (try simp only [Act.put, List.setIfInBounds_toArray, List.set_cons_zero, List.set_cons_succ])
          refine wpAnyM_one (i := 13) (by kernel_rfl) rfl (fun K hK => ?_)
          (go_simp; (with_reducible refine (shrunk_s (W := W) _ hS.1 e.f0 e.f1 m2 (by omega) (by omega) (by omega) (by omega) (by omega)).mono ?_); rintro _ _ ⟨rfl, z2, rfl, hz⟩; replace hA := hA.to hz; replace hO := own_to hO hz; replace hL := hL.to hz; replace hBz := Nat.le_trans hBz (IsSince.size hz); clear hz)
          refine hK.out _ _ (Or.inr (⟨IsSince.of z2, hA.c 8 _ rfl⟩)) (fun hS' => ?_)
          replace hS := hS'.resolve_left (by decide)
          clear hK K hS'
          (try simp only [Act.put, List.setIfInBounds_toArray, List.set_cons_zero, List.set_cons_succ])
          refine wpAnyM_one (i := 24) (by kernel_rfl) rfl (fun K hK => ?_)
          (go_simp; (with_reducible refine (Ha1.out _ hS.1).mono ?_); rintro _ _ ⟨rfl, z3, rfl, hz⟩; replace hA := hA.to hz; replace hO := own_to hO hz; replace hL := hL.to hz; replace hBz := Nat.le_trans hBz (IsSince.size hz); clear hz)
          refine hK.out _ _ (Or.inr (⟨IsSince.of z3, hA.c 8 _ rfl⟩)) (fun hS' => ?_)
          replace hS := hS'.resolve_left (by decide)
          clear hK K hS'
          (try simp only [Act.put, List.setIfInBounds_toArray, List.set_cons_zero, List.set_cons_succ])
          refine wpAnyM_one (i := 25) (by kernel_rfl) rfl (fun K hK => ?_)
          (go_simp; (with_reducible refine (shrunk_s (W := W) _ hS.1 e.t0 e.t1 m3 (by omega) (by omega) (by omega) (by omega) (by omega)).mono ?_); rintro _ _ ⟨rfl, z4, rfl, hz⟩; replace hA := hA.to hz; replace hO := own_to hO hz; replace hL := hL.to hz; replace hBz := Nat.le_trans hBz (IsSince.size hz); clear hz)
          refine hK.out _ _ (Or.inr (⟨IsSince.of z4, hA.c 8 _ rfl⟩)) (fun hS' => ?_)
          replace hS := hS'.resolve_left (by decide)
          clear hK K hS'
          (try simp only [Act.put, List.setIfInBounds_toArray, List.set_cons_zero, List.set_cons_succ])
          have q1 := shr_in (n := m2) (show e.f0 ≤ e.f1 by omega)
          have q2' := shr_in (n := m3) (show e.t0 ≤ e.t1 by omega)
          obtain ⟨c0, hc0⟩ : ∃ c0, c0 = shrLo e.f0 e.f1 m2 := ⟨_, rfl⟩
          obtain ⟨c1, hc1⟩ : ∃ c1, c1 = shrHi e.f0 e.f1 m2 := ⟨_, rfl⟩
          obtain ⟨d0, hd0⟩ : ∃ d0, d0 = shrLo e.t0 e.t1 m3 := ⟨_, rfl⟩
          obtain ⟨d1, hd1⟩ : ∃ d1, d1 = shrHi e.t0 e.t1 m3 := ⟨_, rfl⟩
          rw [← hc0, ← hc1, ← hd0, ← hd1]
          rw [← hc0, ← hc1] at q1
          rw [← hd0, ← hd1] at q2'
          clear hc0 hc1 hd0 hd1
          refine wpAnyM_take (i := 26) (v := ?_) rfl (by kernel_rfl) (by kernel_rfl) (by kernel_rfl) (by kernel_rfl) (fun _ _ _ h => h) hS (Or.inl ⟨by rfl, ?_⟩) ?_
          rotate_left
          · (intro w hSw; (try dsimp only at hSw); go_split_ands; go_simp; try (with_reducible rfl))
          (try simp only [Act.put, List.setIfInBounds_toArray, List.set_cons_zero, List.set_cons_succ])
          refine wpAnyM_one (i := 27) (by kernel_rfl) rfl (fun K hK => ?_)
          go_simp
          refine hK.out _ _ (Or.inr (⟨IsSince.alloc (IsSince.of z4) _, (hA.up _).c 8 _ rfl⟩)) (fun hS' => ?_)
          replace hS := hS'.resolve_left (by decide)
          clear hK K hS'
          (try simp only [Act.put, List.setIfInBounds_toArray, List.set_cons_zero, List.set_cons_succ])
          refine wpAnyM_one (i := 28) (by kernel_rfl) rfl (fun K hK => ?_)
          (refine step_appL (k := 4) (w0 := W) hS.1 rfl _ _ 25 rfl B2 HB2.out.1 (by have := hBz; simp; omega) 52 (.agg #[.int .i64 0, .int .i64 0, .int .i64 0, .int .i64 0]) 32 sPseX v k (flat Pse.cs Ps) rfl (own_up hO) ⟨z4.w.heap.size, 0, none⟩ 1 1 (⟨c0, c1, d0, d1⟩ : Pse).cs rfl rfl (blk_cells _ _ rfl) (pseX_one _) Nat.one_pos (by unfold maxLen; omega) (by omega) ?_; intro v2 q2 hown2 hg2 hl2; obtain ⟨a2, n3, c2, rfl⟩ := own_slice hown2; have hX2 := (hA.up _).grown hg2 (fun h => by have := own_block hO gx h.symm; have := HB2.out.2.1; omega); have hL2 := (hL.up _).grown hg2 (fun h => by have := own_block hO gl h.symm; have := HB2.out.2.2.1; omega); have hB3 : B2 ≤ q2.w.heap.size := Nat.le_trans hBz (Nat.le_trans (by simp) hg2.size); have hxc2 := hX2.c 8 _ rfl; have hxf2 := hX2.f)
          refine hK.out _ _ (Or.inr (⟨IsSince.of q2, hxc2⟩)) (fun hS' => ?_)
          replace hS := hS'.resolve_left (by decide)
          clear hK K hS'
          (try simp only [Act.put, List.setIfInBounds_toArray, List.set_cons_zero, List.set_cons_succ])
          refine wpAnyM_take (i := 29) (v := ?_) rfl (by kernel_rfl) (by kernel_rfl) (by kernel_rfl) (by kernel_rfl) (fun _ _ _ h => h) hS (Or.inl ⟨by rfl, ?_⟩) ?_
          rotate_left
          · (intro w hSw; (try dsimp only at hSw); go_split_ands; go_simp; try (with_reducible rfl))
          (try simp only [Act.put, List.setIfInBounds_toArray, List.set_cons_zero, List.set_cons_succ])
          refine wpAnyM_one (i := 30) (by kernel_rfl) rfl (fun K hK => ?_)
          go_simp
          refine hK.out _ _ (Or.inl rfl) (fun _ => ?_)
          clear hK K hS
          (try simp only [Act.put, List.setIfInBounds_toArray, List.set_cons_zero, List.set_cons_succ])
          refine wpAnyM_done (by kernel_rfl) ?_
          obtain ⟨y3, h3⟩ := q2.set ⟨gx, 8, none⟩ Hgx.out (.slice a2 n3 c2)
          have hX3 := hX2.setj (j := 8) (by simp) (.slice a2 n3 c2)
          have hL3 := hL2.far ⟨gx, 8, none⟩ (.slice a2 n3 c2) (by have := Hgl.out.2; show gl ≠ gx; omega)
          have hO3 := own_setB hown2 ⟨gx, 8, none⟩ (.slice a2 n3 c2) (fun b hb => by have := own_block hown2 b hb; have := HB2.out.2.1; show b ≠ gx; omega)
          have hB4 : B2 ≤ y3.w.heap.size := by rw [← h3]; simpa [World.setCell] using hB3
          rw [h3] at hX3 hL3 hO3 ⊢
          have HX3 := Lib.hid (show BoxIs y3.w gx [.int .i64 r.id, .int .i64 r.rd, .int .i64 a0, .int .i64 a1, .int .i64 b0, .int .i64 b1, .bool r.op, .slice (some ⟨gl, 0, none⟩) n cl, .slice a2 n3 c2, .int .i64 r.fw, .int .i64 r.fp, .int .i64 r.wh, .int .i64 r.pl] from hX3)
          have HL3 := Lib.hid hL3
          have HO3 := Lib.hid (show y3.w.ownsRow B2 52 4 (.slice a2 n3 c2) (k + 1) (flat Pse.cs (Ps ++ [(⟨c0, c1, d0, d1⟩ : Pse)])) by rw [flat_append, flat_one]; exact hO3)
          have HN3 := Lib.hid (show NarP (r.pauses.take (k + 1)) (Ps ++ [(⟨c0, c1, d0, d1⟩ : Pse)]) by rw [Htk.out]; exact HN.out.step ⟨q1.1, q1.2.2, q2'.1, q2'.2.2⟩)
          clear hX3 hL3 hO3 h3 hX2 hL2 hL hxc2 hxf2 hown2 hg2 hl2 hA hO hxc k8 j0 j1 j2 j3 Htk hBz hB3 w1 w2 w3 Ha0 Ha1 q1 q2'
          go_wp2_with fail
          go_roundw
          case rel => exact ⟨k + 1, .slice a2 n3 c2, Ps ++ [⟨c0, c1, d0, d1⟩], y3, by omega, by go_num, rfl, HX3.out, HL3.out, HO3.out, HN3.out, hB4⟩
          case measure => simp [intOf] <;> omega
        · obtain rfl : k = np := by omega
          rw [← Had.out, Hn.out] at hb0_7
          rw [Hnp.out] at hb0_8 hpl
          rw [Hn.out] at hll
          have hdone : ¬ (k : Int) < (r.pauses.length : Int) := by have := Hnp.out; omega
          obtain ⟨hx1, ap, cp, rfl, hx2, hPs, hx4, hx5⟩ := own_els (l := Ps) Pse.len (by decide) Hown.out
          obtain ⟨X, hXb, hXa, hXn, hXo⟩ : ∃ X : Ride, BoxIs z.w gx [.int .i64 X.id, .int .i64 X.rd, .int .i64 X.s0, .int .i64 X.s1, .int .i64 X.e0, .int .i64 X.e1, .bool X.op, .slice X.la X.legs.length X.lc, .slice X.pa X.pauses.length X.pc, .int .i64 X.fw, .int .i64 X.fp, .int .i64 X.wh, .int .i64 X.pl] ∧ X.At z.w ∧ Nar r X ∧ X.op = false := by
            refine ⟨⟨r.id, r.rd, a0, a1, b0, b1, r.op, some ⟨gl, 0, none⟩, LG, cl, ap, Ps, cp, r.fw, r.fp, r.wh, r.pl⟩, ?_, ⟨els_of_box Leg.len HL.out, hPs, ?_, ?_⟩, ⟨⟨a2, a3, a4⟩, ⟨b2, b3, b4⟩, ?_, ?_⟩, Hop.out⟩
            · show BoxIs z.w gx [.int .i64 r.id, .int .i64 r.rd, .int .i64 a0, .int .i64 a1, .int .i64 b0, .int .i64 b1, .bool r.op, .slice (some ⟨gl, 0, none⟩) LG.length cl, .slice ap Ps.length cp, .int .i64 r.fw, .int .i64 r.fp, .int .i64 r.wh, .int .i64 r.pl]
              rw [HLl.out]; exact HX.out
            · show LG.length ≤ _; rw [HLl.out]; omega
            · show Ps.length ≤ _; have := HN.out.n; rw [List.length_take] at this; omega
            · show Ps.length = _; have := HN.out.n; rw [List.length_take] at this; have := Hnp.out; omega
            · have := HN.out.p; rwa [List.take_of_length_le (by have := Hnp.out; omega)] at this
          have HXb := Lib.hid hXb
          have HT := Lib.hid hXa
          have HNr := Lib.hid hXn
          have HXo := Lib.hid hXo
          have Hpx := Lib.hid (show X.pauses.length ≤ 100 by rw [HNr.out.n]; exact hpl)
          clear hXb hXa hXn hXo hx1 hx2 hPs hx4 hx5 HX HL Hown HN HLl Had Hnp Hn Hm HB2 Hgl Hgx HM HI
          replace H := Lib.hid (H.out.to ⟨z, rfl⟩)
          replace HU := Lib.hid (HU.out.trans (IsSince.of z))
          replace hb0_0 := Since.cellTo ⟨z, rfl⟩ hb0_0
          replace hb0_1 := Since.cellTo ⟨z, rfl⟩ hb0_1
          replace hb0_2 := Since.cellTo ⟨z, rfl⟩ hb0_2
          replace hb0_3 := Since.cellTo ⟨z, rfl⟩ hb0_3
          replace hb0_4 := Since.cellTo ⟨z, rfl⟩ hb0_4
          replace hb0_5 := Since.cellTo ⟨z, rfl⟩ hb0_5
          replace hb0_6 := Since.cellTo ⟨z, rfl⟩ hb0_6
          replace hb0_7 := Since.cellTo ⟨z, rfl⟩ hb0_7
          replace hb0_8 := Since.cellTo ⟨z, rfl⟩ hb0_8
          replace hb0_9 := Since.cellTo ⟨z, rfl⟩ hb0_9
          replace hb0_10 := Since.cellTo ⟨z, rfl⟩ hb0_10
          replace hb0_11 := Since.cellTo ⟨z, rfl⟩ hb0_11
          replace hb0_12 := Since.cellTo ⟨z, rfl⟩ hb0_12
          have Hhx0 := fun q : Since z.w => (HXb.out.since q).c 0 _ rfl
          have Hhx1 := fun q : Since z.w => (HXb.out.since q).c 1 _ rfl
          have Hhx2 := fun q : Since z.w => (HXb.out.since q).c 2 _ rfl
          have Hhx3 := fun q : Since z.w => (HXb.out.since q).c 3 _ rfl
          have Hhx4 := fun q : Since z.w => (HXb.out.since q).c 4 _ rfl
          have Hhx5 := fun q : Since z.w => (HXb.out.since q).c 5 _ rfl
          have Hhx6 := fun q : Since z.w => (HXb.out.since q).c 6 _ rfl
          have Hhx7 := fun q : Since z.w => (HXb.out.since q).c 7 _ rfl
          have Hhx8 := fun q : Since z.w => (HXb.out.since q).c 8 _ rfl
          have Hhx9 := fun q : Since z.w => (HXb.out.since q).c 9 _ rfl
          have Hhx10 := fun q : Since z.w => (HXb.out.since q).c 10 _ rfl
          have Hhx11 := fun q : Since z.w => (HXb.out.since q).c 11 _ rfl
          have Hhx12 := fun q : Since z.w => (HXb.out.since q).c 12 _ rfl
          clear HXb
          obtain ⟨q0, hq0⟩ := Since.refl z.w
          rw [hq0]
          clear hq0
          replace H := Lib.hid (H.out.to ⟨q0, rfl⟩)
          replace HT := Lib.hid (HT.out.to ⟨q0, rfl⟩)
          have Hck := Lib.hid (later (W := z.w) (IsSince.of q0) fun x => rcheck_calls q0.w x X HT.out)
          by_cases hx : rideE X = 0
          case neg =>
            have hxn : (rideE X != 0) = true := by simpa using hx
            clear hx
            generalize rideE X = ex at *
            go_wp2_with (first | (go_at_call 35; ((with_reducible refine Hck.out.mono ?_); rintro _ _ ⟨rfl, y1, rfl, hz⟩; replace H := Lib.hid (H.out.to hz); replace HT := Lib.hid (HT.out.to hz); clear hz)) | (go_at_call 11; ((with_reducible refine (awake_calls _ y1).mono ?_); rintro _ _ ⟨rfl, yz, rfl⟩)))
            go_ret
            exact ⟨rfl, HU.out.trans (IsSince.of yz)⟩
          case pos =>
            have hxe := (ivE_zero X).2 ⟨hx, HXo.out⟩
            have Hxe := Lib.hid hxe
            rw [hx] at Hck
            clear hx
            have HSr := Lib.hid (fun (W : World) (w' : World) (hw : IsSince W w') (h : r.At w') => later (W := W) hw fun x => sure_calls w' x r h)
            rw [He.out] at HSr
            have HPr := Lib.hid (fun (W : World) (w' : World) (hw : IsSince W w') (h : r.At w') => later (W := W) hw fun x => possible_calls w' x r h)
            rw [He.out] at HPr
            have HUr := Lib.hid (fun (W : World) (w' : World) (hw : IsSince W w') (h : r.At w') => show Calls Try.prog 16 #[.agg #[.int .i64 r.id, .int .i64 r.rd, .int .i64 r.s0, .int .i64 r.s1, .int .i64 r.e0, .int .i64 r.e1, .bool r.op, .slice r.la r.legs.length r.lc, .slice r.pa r.pauses.length r.pc, .int .i64 r.fw, .int .i64 r.fp, .int .i64 r.wh, .int .i64 r.pl]] w' (SetResS W w' (SetOk (ivE r) (pauS r) (1 + r.pauses.length)) (ivE r)) from (pausing_calls w' (Since.self w') r h).mono fun _ _ k => setResS hw k)
            rw [He.out] at HUr
            have HRr := Lib.hid (fun (W : World) (w' : World) (hw : IsSince W w') (h : r.At w') => show Calls Try.prog 18 #[.agg #[.int .i64 r.id, .int .i64 r.rd, .int .i64 r.s0, .int .i64 r.s1, .int .i64 r.e0, .int .i64 r.e1, .bool r.op, .slice r.la r.legs.length r.lc, .slice r.pa r.pauses.length r.pc, .int .i64 r.fw, .int .i64 r.fp, .int .i64 r.wh, .int .i64 r.pl]] w' (SetResS W w' (SetOk (ivE r) (ridS r) (1 + r.pauses.length)) (ivE r)) from (riding_calls w' (Since.self w') r h).mono fun _ _ k => setResS hw k)
            rw [He.out] at HRr
            have HSX := Lib.hid (fun (W : World) (w' : World) (hw : IsSince W w') (h : X.At w') => later (W := W) hw fun x => sure_calls w' x X h)
            rw [Hxe.out] at HSX
            have HPX := Lib.hid (fun (W : World) (w' : World) (hw : IsSince W w') (h : X.At w') => later (W := W) hw fun x => possible_calls w' x X h)
            rw [Hxe.out] at HPX
            have HUX := Lib.hid (fun (W : World) (w' : World) (hw : IsSince W w') (h : X.At w') => show Calls Try.prog 16 #[.agg #[.int .i64 X.id, .int .i64 X.rd, .int .i64 X.s0, .int .i64 X.s1, .int .i64 X.e0, .int .i64 X.e1, .bool X.op, .slice X.la X.legs.length X.lc, .slice X.pa X.pauses.length X.pc, .int .i64 X.fw, .int .i64 X.fp, .int .i64 X.wh, .int .i64 X.pl]] w' (SetResS W w' (SetOk (ivE X) (pauS X) (1 + X.pauses.length)) (ivE X)) from (pausing_calls w' (Since.self w') X h).mono fun _ _ k => setResS hw k)
            rw [Hxe.out] at HUX
            have HRX := Lib.hid (fun (W : World) (w' : World) (hw : IsSince W w') (h : X.At w') => show Calls Try.prog 18 #[.agg #[.int .i64 X.id, .int .i64 X.rd, .int .i64 X.s0, .int .i64 X.s1, .int .i64 X.e0, .int .i64 X.e1, .bool X.op, .slice X.la X.legs.length X.lc, .slice X.pa X.pauses.length X.pc, .int .i64 X.fw, .int .i64 X.fp, .int .i64 X.wh, .int .i64 X.pl]] w' (SetResS W w' (SetOk (ivE X) (ridS X) (1 + X.pauses.length)) (ivE X)) from (riding_calls w' (Since.self w') X h).mono fun _ _ k => setResS hw k)
            rw [Hxe.out] at HRX
            clear hxe
            go_upto_region 17 with (go_at_call 35; ((with_reducible refine Hck.out.mono ?_); rintro _ _ ⟨rfl, y1, rfl, hz⟩; replace H := Lib.hid (H.out.to hz); replace HT := Lib.hid (HT.out.to hz); clear hz))
            clear Hck
            go_upto_region 18 with (go_at_call 12; ((with_reducible refine (HSr.out z.w _ (IsSince.of y1) H.out).mono ?_); rintro _ _ ⟨rfl, y41, rfl, hz⟩; replace H := Lib.hid (H.out.to hz); replace HT := Lib.hid (HT.out.to hz); clear hz))
            clear HSr
            have ha0 : (y41.w.alloc (.cells #[.int .i64 (sureW r).f, .int .i64 (sureW r).t] 31)).cell? ⟨y41.w.heap.size, 0, none⟩ = some (.int .i64 (sureW r).f) := by simp [go_sem]
            have ha1 : (y41.w.alloc (.cells #[.int .i64 (sureW r).f, .int .i64 (sureW r).t] 31)).cell? ⟨y41.w.heap.size, 1, none⟩ = some (.int .i64 (sureW r).t) := by simp [go_sem]
            have haf : ∀ o, (y41.w.alloc (.cells #[.int .i64 (sureW r).f, .int .i64 (sureW r).t] 31)).frozen? ⟨y41.w.heap.size, o, none⟩ = false := fun o => by simp [go_sem]
            have hlt0 : y41.w.heap.size < (y41.w.alloc (.cells #[.int .i64 (sureW r).f, .int .i64 (sureW r).t] 31)).heap.size := by simp
            have hst0 : ∃ zz : Since y41.w, (y41.w.alloc (.cells #[.int .i64 (sureW r).f, .int .i64 (sureW r).t] 31)) = zz.w := IsSince.alloc (IsSince.self _) _
            have hsz0 := y41.b.size
            obtain ⟨y42, e2⟩ := IsSince.alloc (IsSince.of y41) (.cells #[.int .i64 (sureW r).f, .int .i64 (sureW r).t] 31)
            rw [e2] at ha0 ha1 haf hlt0 hst0 ⊢
            (replace H := Lib.hid (H.out.to hst0); replace HT := Lib.hid (HT.out.to hst0))
            clear e2 hst0
            generalize y41.w.heap.size = gha at *
            have Hha0 : ∀ q : Since y42.w, q.w.cell? ⟨gha, 0, none⟩ = some (.int .i64 (sureW r).f) := fun q => Since.cell ha0 (by omega) q
            have Hha1 : ∀ q : Since y42.w, q.w.cell? ⟨gha, 1, none⟩ = some (.int .i64 (sureW r).t) := fun q => Since.cell ha1 (by omega) q
            have Hhaf : ∀ (q : Since y42.w) (o : Nat), q.w.frozen? ⟨gha, o, none⟩ = false := fun q o => Since.free (haf o) (by omega) q
            have Hhag := Lib.hid (And.intro hsz0 hlt0)
            clear hlt0 hsz0
            clear ha0 ha1 haf Hhaf Hhag
            replace HU := Lib.hid (HU.out.trans (IsSince.of y42))
            replace hb0_0 := Since.cellTo ⟨y42, rfl⟩ hb0_0
            replace hb0_1 := Since.cellTo ⟨y42, rfl⟩ hb0_1
            replace hb0_2 := Since.cellTo ⟨y42, rfl⟩ hb0_2
            replace hb0_3 := Since.cellTo ⟨y42, rfl⟩ hb0_3
            replace hb0_4 := Since.cellTo ⟨y42, rfl⟩ hb0_4
            replace hb0_5 := Since.cellTo ⟨y42, rfl⟩ hb0_5
            replace hb0_6 := Since.cellTo ⟨y42, rfl⟩ hb0_6
            replace hb0_7 := Since.cellTo ⟨y42, rfl⟩ hb0_7
            replace hb0_8 := Since.cellTo ⟨y42, rfl⟩ hb0_8
            replace hb0_9 := Since.cellTo ⟨y42, rfl⟩ hb0_9
            replace hb0_10 := Since.cellTo ⟨y42, rfl⟩ hb0_10
            replace hb0_11 := Since.cellTo ⟨y42, rfl⟩ hb0_11
            replace hb0_12 := Since.cellTo ⟨y42, rfl⟩ hb0_12
            replace Hhx0 := Since.cellTo ⟨y42, rfl⟩ Hhx0
            replace Hhx1 := Since.cellTo ⟨y42, rfl⟩ Hhx1
            replace Hhx2 := Since.cellTo ⟨y42, rfl⟩ Hhx2
            replace Hhx3 := Since.cellTo ⟨y42, rfl⟩ Hhx3
            replace Hhx4 := Since.cellTo ⟨y42, rfl⟩ Hhx4
            replace Hhx5 := Since.cellTo ⟨y42, rfl⟩ Hhx5
            replace Hhx6 := Since.cellTo ⟨y42, rfl⟩ Hhx6
            replace Hhx7 := Since.cellTo ⟨y42, rfl⟩ Hhx7
            replace Hhx8 := Since.cellTo ⟨y42, rfl⟩ Hhx8
            replace Hhx9 := Since.cellTo ⟨y42, rfl⟩ Hhx9
            replace Hhx10 := Since.cellTo ⟨y42, rfl⟩ Hhx10
            replace Hhx11 := Since.cellTo ⟨y42, rfl⟩ Hhx11
            replace Hhx12 := Since.cellTo ⟨y42, rfl⟩ Hhx12
            obtain ⟨q42, hq0⟩ := Since.refl y42.w
            rw [hq0]
            clear hq0
            replace H := Lib.hid (H.out.to ⟨q42, rfl⟩)
            replace HT := Lib.hid (HT.out.to ⟨q42, rfl⟩)
            go_upto_region 19 with (go_at_call 12; ((with_reducible refine (HSX.out y42.w _ (IsSince.of q42) HT.out).mono ?_); rintro _ _ ⟨rfl, y43, rfl, hz⟩; replace H := Lib.hid (H.out.to hz); replace HT := Lib.hid (HT.out.to hz); clear hz))
            clear HSX
            have hb0 : (y43.w.alloc (.cells #[.int .i64 (sureW X).f, .int .i64 (sureW X).t] 31)).cell? ⟨y43.w.heap.size, 0, none⟩ = some (.int .i64 (sureW X).f) := by simp [go_sem]
            have hb1 : (y43.w.alloc (.cells #[.int .i64 (sureW X).f, .int .i64 (sureW X).t] 31)).cell? ⟨y43.w.heap.size, 1, none⟩ = some (.int .i64 (sureW X).t) := by simp [go_sem]
            have hbf : ∀ o, (y43.w.alloc (.cells #[.int .i64 (sureW X).f, .int .i64 (sureW X).t] 31)).frozen? ⟨y43.w.heap.size, o, none⟩ = false := fun o => by simp [go_sem]
            have hlt0 : y43.w.heap.size < (y43.w.alloc (.cells #[.int .i64 (sureW X).f, .int .i64 (sureW X).t] 31)).heap.size := by simp
            have hst0 : ∃ zz : Since y43.w, (y43.w.alloc (.cells #[.int .i64 (sureW X).f, .int .i64 (sureW X).t] 31)) = zz.w := IsSince.alloc (IsSince.self _) _
            have hsz0 := y43.b.size
            obtain ⟨y44, e2⟩ := IsSince.alloc (IsSince.of y43) (.cells #[.int .i64 (sureW X).f, .int .i64 (sureW X).t] 31)
            rw [e2] at hb0 hb1 hbf hlt0 hst0 ⊢
            (replace H := Lib.hid (H.out.to hst0); replace HT := Lib.hid (HT.out.to hst0))
            clear e2 hst0
            generalize y43.w.heap.size = ghb at *
            have Hhb0 : ∀ q : Since y44.w, q.w.cell? ⟨ghb, 0, none⟩ = some (.int .i64 (sureW X).f) := fun q => Since.cell hb0 (by omega) q
            have Hhb1 : ∀ q : Since y44.w, q.w.cell? ⟨ghb, 1, none⟩ = some (.int .i64 (sureW X).t) := fun q => Since.cell hb1 (by omega) q
            have Hhbf : ∀ (q : Since y44.w) (o : Nat), q.w.frozen? ⟨ghb, o, none⟩ = false := fun q o => Since.free (hbf o) (by omega) q
            have Hhbg := Lib.hid (And.intro hsz0 hlt0)
            clear hlt0 hsz0
            clear hb0 hb1 hbf Hhbf Hhbg
            replace HU := Lib.hid (HU.out.trans (IsSince.of y44))
            replace hb0_0 := Since.cellTo ⟨y44, rfl⟩ hb0_0
            replace hb0_1 := Since.cellTo ⟨y44, rfl⟩ hb0_1
            replace hb0_2 := Since.cellTo ⟨y44, rfl⟩ hb0_2
            replace hb0_3 := Since.cellTo ⟨y44, rfl⟩ hb0_3
            replace hb0_4 := Since.cellTo ⟨y44, rfl⟩ hb0_4
            replace hb0_5 := Since.cellTo ⟨y44, rfl⟩ hb0_5
            replace hb0_6 := Since.cellTo ⟨y44, rfl⟩ hb0_6
            replace hb0_7 := Since.cellTo ⟨y44, rfl⟩ hb0_7
            replace hb0_8 := Since.cellTo ⟨y44, rfl⟩ hb0_8
            replace hb0_9 := Since.cellTo ⟨y44, rfl⟩ hb0_9
            replace hb0_10 := Since.cellTo ⟨y44, rfl⟩ hb0_10
            replace hb0_11 := Since.cellTo ⟨y44, rfl⟩ hb0_11
            replace hb0_12 := Since.cellTo ⟨y44, rfl⟩ hb0_12
            replace Hhx0 := Since.cellTo ⟨y44, rfl⟩ Hhx0
            replace Hhx1 := Since.cellTo ⟨y44, rfl⟩ Hhx1
            replace Hhx2 := Since.cellTo ⟨y44, rfl⟩ Hhx2
            replace Hhx3 := Since.cellTo ⟨y44, rfl⟩ Hhx3
            replace Hhx4 := Since.cellTo ⟨y44, rfl⟩ Hhx4
            replace Hhx5 := Since.cellTo ⟨y44, rfl⟩ Hhx5
            replace Hhx6 := Since.cellTo ⟨y44, rfl⟩ Hhx6
            replace Hhx7 := Since.cellTo ⟨y44, rfl⟩ Hhx7
            replace Hhx8 := Since.cellTo ⟨y44, rfl⟩ Hhx8
            replace Hhx9 := Since.cellTo ⟨y44, rfl⟩ Hhx9
            replace Hhx10 := Since.cellTo ⟨y44, rfl⟩ Hhx10
            replace Hhx11 := Since.cellTo ⟨y44, rfl⟩ Hhx11
            replace Hhx12 := Since.cellTo ⟨y44, rfl⟩ Hhx12
            replace Hha0 := Since.cellTo ⟨y44, rfl⟩ Hha0
            replace Hha1 := Since.cellTo ⟨y44, rfl⟩ Hha1
            obtain ⟨q44, hq0⟩ := Since.refl y44.w
            rw [hq0]
            clear hq0
            replace H := Lib.hid (H.out.to ⟨q44, rfl⟩)
            replace HT := Lib.hid (HT.out.to ⟨q44, rfl⟩)
            go_upto_region 20 with (go_at_call 14; ((with_reducible refine (HPr.out y44.w _ (IsSince.of q44) H.out).mono ?_); rintro _ _ ⟨rfl, y45, rfl, hz⟩; replace H := Lib.hid (H.out.to hz); replace HT := Lib.hid (HT.out.to hz); clear hz))
            clear HPr
            have hc0 : (y45.w.alloc (.cells #[.int .i64 (possW r).f, .int .i64 (possW r).t] 31)).cell? ⟨y45.w.heap.size, 0, none⟩ = some (.int .i64 (possW r).f) := by simp [go_sem]
            have hc1 : (y45.w.alloc (.cells #[.int .i64 (possW r).f, .int .i64 (possW r).t] 31)).cell? ⟨y45.w.heap.size, 1, none⟩ = some (.int .i64 (possW r).t) := by simp [go_sem]
            have hcf : ∀ o, (y45.w.alloc (.cells #[.int .i64 (possW r).f, .int .i64 (possW r).t] 31)).frozen? ⟨y45.w.heap.size, o, none⟩ = false := fun o => by simp [go_sem]
            have hlt0 : y45.w.heap.size < (y45.w.alloc (.cells #[.int .i64 (possW r).f, .int .i64 (possW r).t] 31)).heap.size := by simp
            have hst0 : ∃ zz : Since y45.w, (y45.w.alloc (.cells #[.int .i64 (possW r).f, .int .i64 (possW r).t] 31)) = zz.w := IsSince.alloc (IsSince.self _) _
            have hsz0 := y45.b.size
            obtain ⟨y46, e2⟩ := IsSince.alloc (IsSince.of y45) (.cells #[.int .i64 (possW r).f, .int .i64 (possW r).t] 31)
            rw [e2] at hc0 hc1 hcf hlt0 hst0 ⊢
            (replace H := Lib.hid (H.out.to hst0); replace HT := Lib.hid (HT.out.to hst0))
            clear e2 hst0
            generalize y45.w.heap.size = ghc at *
            have Hhc0 : ∀ q : Since y46.w, q.w.cell? ⟨ghc, 0, none⟩ = some (.int .i64 (possW r).f) := fun q => Since.cell hc0 (by omega) q
            have Hhc1 : ∀ q : Since y46.w, q.w.cell? ⟨ghc, 1, none⟩ = some (.int .i64 (possW r).t) := fun q => Since.cell hc1 (by omega) q
            have Hhcf : ∀ (q : Since y46.w) (o : Nat), q.w.frozen? ⟨ghc, o, none⟩ = false := fun q o => Since.free (hcf o) (by omega) q
            have Hhcg := Lib.hid (And.intro hsz0 hlt0)
            clear hlt0 hsz0
            clear hc0 hc1 hcf Hhcf Hhcg
            replace HU := Lib.hid (HU.out.trans (IsSince.of y46))
            replace hb0_0 := Since.cellTo ⟨y46, rfl⟩ hb0_0
            replace hb0_1 := Since.cellTo ⟨y46, rfl⟩ hb0_1
            replace hb0_2 := Since.cellTo ⟨y46, rfl⟩ hb0_2
            replace hb0_3 := Since.cellTo ⟨y46, rfl⟩ hb0_3
            replace hb0_4 := Since.cellTo ⟨y46, rfl⟩ hb0_4
            replace hb0_5 := Since.cellTo ⟨y46, rfl⟩ hb0_5
            replace hb0_6 := Since.cellTo ⟨y46, rfl⟩ hb0_6
            replace hb0_7 := Since.cellTo ⟨y46, rfl⟩ hb0_7
            replace hb0_8 := Since.cellTo ⟨y46, rfl⟩ hb0_8
            replace hb0_9 := Since.cellTo ⟨y46, rfl⟩ hb0_9
            replace hb0_10 := Since.cellTo ⟨y46, rfl⟩ hb0_10
            replace hb0_11 := Since.cellTo ⟨y46, rfl⟩ hb0_11
            replace hb0_12 := Since.cellTo ⟨y46, rfl⟩ hb0_12
            replace Hhx0 := Since.cellTo ⟨y46, rfl⟩ Hhx0
            replace Hhx1 := Since.cellTo ⟨y46, rfl⟩ Hhx1
            replace Hhx2 := Since.cellTo ⟨y46, rfl⟩ Hhx2
            replace Hhx3 := Since.cellTo ⟨y46, rfl⟩ Hhx3
            replace Hhx4 := Since.cellTo ⟨y46, rfl⟩ Hhx4
            replace Hhx5 := Since.cellTo ⟨y46, rfl⟩ Hhx5
            replace Hhx6 := Since.cellTo ⟨y46, rfl⟩ Hhx6
            replace Hhx7 := Since.cellTo ⟨y46, rfl⟩ Hhx7
            replace Hhx8 := Since.cellTo ⟨y46, rfl⟩ Hhx8
            replace Hhx9 := Since.cellTo ⟨y46, rfl⟩ Hhx9
            replace Hhx10 := Since.cellTo ⟨y46, rfl⟩ Hhx10
            replace Hhx11 := Since.cellTo ⟨y46, rfl⟩ Hhx11
            replace Hhx12 := Since.cellTo ⟨y46, rfl⟩ Hhx12
            replace Hha0 := Since.cellTo ⟨y46, rfl⟩ Hha0
            replace Hha1 := Since.cellTo ⟨y46, rfl⟩ Hha1
            replace Hhb0 := Since.cellTo ⟨y46, rfl⟩ Hhb0
            replace Hhb1 := Since.cellTo ⟨y46, rfl⟩ Hhb1
            obtain ⟨q46, hq0⟩ := Since.refl y46.w
            rw [hq0]
            clear hq0
            replace H := Lib.hid (H.out.to ⟨q46, rfl⟩)
            replace HT := Lib.hid (HT.out.to ⟨q46, rfl⟩)
            go_upto_region 21 with (go_at_call 14; ((with_reducible refine (HPX.out y46.w _ (IsSince.of q46) HT.out).mono ?_); rintro _ _ ⟨rfl, y47, rfl, hz⟩; replace H := Lib.hid (H.out.to hz); replace HT := Lib.hid (HT.out.to hz); clear hz))
            clear HPX
            have hd0 : (y47.w.alloc (.cells #[.int .i64 (possW X).f, .int .i64 (possW X).t] 31)).cell? ⟨y47.w.heap.size, 0, none⟩ = some (.int .i64 (possW X).f) := by simp [go_sem]
            have hd1 : (y47.w.alloc (.cells #[.int .i64 (possW X).f, .int .i64 (possW X).t] 31)).cell? ⟨y47.w.heap.size, 1, none⟩ = some (.int .i64 (possW X).t) := by simp [go_sem]
            have hdf : ∀ o, (y47.w.alloc (.cells #[.int .i64 (possW X).f, .int .i64 (possW X).t] 31)).frozen? ⟨y47.w.heap.size, o, none⟩ = false := fun o => by simp [go_sem]
            have hlt0 : y47.w.heap.size < (y47.w.alloc (.cells #[.int .i64 (possW X).f, .int .i64 (possW X).t] 31)).heap.size := by simp
            have hst0 : ∃ zz : Since y47.w, (y47.w.alloc (.cells #[.int .i64 (possW X).f, .int .i64 (possW X).t] 31)) = zz.w := IsSince.alloc (IsSince.self _) _
            have hsz0 := y47.b.size
            obtain ⟨y48, e2⟩ := IsSince.alloc (IsSince.of y47) (.cells #[.int .i64 (possW X).f, .int .i64 (possW X).t] 31)
            rw [e2] at hd0 hd1 hdf hlt0 hst0 ⊢
            (replace H := Lib.hid (H.out.to hst0); replace HT := Lib.hid (HT.out.to hst0))
            clear e2 hst0
            generalize y47.w.heap.size = ghd at *
            have Hhd0 : ∀ q : Since y48.w, q.w.cell? ⟨ghd, 0, none⟩ = some (.int .i64 (possW X).f) := fun q => Since.cell hd0 (by omega) q
            have Hhd1 : ∀ q : Since y48.w, q.w.cell? ⟨ghd, 1, none⟩ = some (.int .i64 (possW X).t) := fun q => Since.cell hd1 (by omega) q
            have Hhdf : ∀ (q : Since y48.w) (o : Nat), q.w.frozen? ⟨ghd, o, none⟩ = false := fun q o => Since.free (hdf o) (by omega) q
            have Hhdg := Lib.hid (And.intro hsz0 hlt0)
            clear hlt0 hsz0
            clear hd0 hd1 hdf Hhdf Hhdg
            replace HU := Lib.hid (HU.out.trans (IsSince.of y48))
            replace hb0_0 := Since.cellTo ⟨y48, rfl⟩ hb0_0
            replace hb0_1 := Since.cellTo ⟨y48, rfl⟩ hb0_1
            replace hb0_2 := Since.cellTo ⟨y48, rfl⟩ hb0_2
            replace hb0_3 := Since.cellTo ⟨y48, rfl⟩ hb0_3
            replace hb0_4 := Since.cellTo ⟨y48, rfl⟩ hb0_4
            replace hb0_5 := Since.cellTo ⟨y48, rfl⟩ hb0_5
            replace hb0_6 := Since.cellTo ⟨y48, rfl⟩ hb0_6
            replace hb0_7 := Since.cellTo ⟨y48, rfl⟩ hb0_7
            replace hb0_8 := Since.cellTo ⟨y48, rfl⟩ hb0_8
            replace hb0_9 := Since.cellTo ⟨y48, rfl⟩ hb0_9
            replace hb0_10 := Since.cellTo ⟨y48, rfl⟩ hb0_10
            replace hb0_11 := Since.cellTo ⟨y48, rfl⟩ hb0_11
            replace hb0_12 := Since.cellTo ⟨y48, rfl⟩ hb0_12
            replace Hhx0 := Since.cellTo ⟨y48, rfl⟩ Hhx0
            replace Hhx1 := Since.cellTo ⟨y48, rfl⟩ Hhx1
            replace Hhx2 := Since.cellTo ⟨y48, rfl⟩ Hhx2
            replace Hhx3 := Since.cellTo ⟨y48, rfl⟩ Hhx3
            replace Hhx4 := Since.cellTo ⟨y48, rfl⟩ Hhx4
            replace Hhx5 := Since.cellTo ⟨y48, rfl⟩ Hhx5
            replace Hhx6 := Since.cellTo ⟨y48, rfl⟩ Hhx6
            replace Hhx7 := Since.cellTo ⟨y48, rfl⟩ Hhx7
            replace Hhx8 := Since.cellTo ⟨y48, rfl⟩ Hhx8
            replace Hhx9 := Since.cellTo ⟨y48, rfl⟩ Hhx9
            replace Hhx10 := Since.cellTo ⟨y48, rfl⟩ Hhx10
            replace Hhx11 := Since.cellTo ⟨y48, rfl⟩ Hhx11
            replace Hhx12 := Since.cellTo ⟨y48, rfl⟩ Hhx12
            replace Hha0 := Since.cellTo ⟨y48, rfl⟩ Hha0
            replace Hha1 := Since.cellTo ⟨y48, rfl⟩ Hha1
            replace Hhb0 := Since.cellTo ⟨y48, rfl⟩ Hhb0
            replace Hhb1 := Since.cellTo ⟨y48, rfl⟩ Hhb1
            replace Hhc0 := Since.cellTo ⟨y48, rfl⟩ Hhc0
            replace Hhc1 := Since.cellTo ⟨y48, rfl⟩ Hhc1
            obtain ⟨q48, hq0⟩ := Since.refl y48.w
            rw [hq0]
            clear hq0
            replace H := Lib.hid (H.out.to ⟨q48, rfl⟩)
            replace HT := Lib.hid (HT.out.to ⟨q48, rfl⟩)
            go_upto_region 22 with (go_at_call 16; ((with_reducible refine (HUr.out y48.w _ (IsSince.of q48) H.out).mono ?_); rintro _ _ ⟨al1, cl1, u1, y49, rfl, rfl, hz, hl, _, hQ⟩; replace H := Lib.hid (H.out.to hz); replace HT := Lib.hid (HT.out.to hz); have HL1 := Lib.hid hl; have HQ1 := Lib.hid hQ; clear hl hQ; clear hz))
            clear HUr
            go_upto_region 23 with (go_at_call 16; ((with_reducible refine (HUX.out y48.w _ (IsSince.of y49) HT.out).mono ?_); rintro _ _ ⟨al2, cl2, u2, y50, rfl, rfl, hz, hl, _, hQ⟩; replace H := Lib.hid (H.out.to hz); replace HT := Lib.hid (HT.out.to hz); replace HL1 := Lib.hid (HL1.out.to hz); have HL2 := Lib.hid hl; have HQ2 := Lib.hid hQ; clear hl hQ; clear hz))
            clear HUX
            go_upto_region 24 with (go_at_call 18; ((with_reducible refine (HRr.out y48.w _ (IsSince.of y50) H.out).mono ?_); rintro _ _ ⟨al3, cl3, u3, y51, rfl, rfl, hz, hl, _, hQ⟩; replace H := Lib.hid (H.out.to hz); replace HT := Lib.hid (HT.out.to hz); replace HL1 := Lib.hid (HL1.out.to hz); replace HL2 := Lib.hid (HL2.out.to hz); have HL3 := Lib.hid hl; have HQ3 := Lib.hid hQ; clear hl hQ; clear hz))
            clear HRr
            go_upto_region 25 with (go_at_call 18; ((with_reducible refine (HRX.out y48.w _ (IsSince.of y51) HT.out).mono ?_); rintro _ _ ⟨al4, cl4, u4, y52, rfl, rfl, hz, hl, _, hQ⟩; replace H := Lib.hid (H.out.to hz); replace HT := Lib.hid (HT.out.to hz); replace HL1 := Lib.hid (HL1.out.to hz); replace HL2 := Lib.hid (HL2.out.to hz); replace HL3 := Lib.hid (HL3.out.to hz); have HL4 := Lib.hid hl; have HQ4 := Lib.hid hQ; clear hl hQ; clear hz))
            clear HRX
            have hul1 := HQ1.out.n
            have hul2 := HQ2.out.n
            have hul3 := HQ3.out.n
            have hul4 := HQ4.out.n
            have HS1 := Lib.hid (HQ1.out.ok rfl)
            have HS2 := Lib.hid (HQ2.out.ok rfl)
            have HS3 := Lib.hid (HQ3.out.ok rfl)
            have HS4 := Lib.hid (HQ4.out.ok rfl)
            have hpx := Hpx.out
            clear HQ1 HQ2 HQ3 HQ4
            have Hg1 := Lib.hid (norm_good HS1.out.n)
            have Hg2 := Lib.hid (norm_good HS2.out.n)
            have Hg3 := Lib.hid (norm_good HS3.out.n)
            have Hg4 := Lib.hid (norm_good HS4.out.n)
            have Gr := Lib.hid (badW_one (sureW_good He.out))
            have GX := Lib.hid (badW_one (sureW_good Hxe.out))
            have Pr := Lib.hid (badW_one (possW_vld He.out))
            have PX := Lib.hid (badW_one (possW_vld Hxe.out))
            have G1 := Lib.hid (show (badW [sureW r] || badW [sureW X]) = false by rw [Gr.out, GX.out]; rfl)
            have G2 := Lib.hid (show (badW [possW X] || badW [possW r]) = false by rw [Pr.out, PX.out]; rfl)
            have G3 := Lib.hid (show (badW u1 || badW u2) = false by rw [Hg1.out, Hg2.out]; rfl)
            have G4 := Lib.hid (show (badW u3 || badW u4) = false by rw [Hg3.out, Hg4.out]; rfl)
            have S1 := Lib.hid (show ∀ t, hasW [sureW r] t = true → hasW [sureW X] t = true from fun t h => by rw [hasW_one] at h ⊢; exact HNr.out.sure He.out Hxe.out t h)
            have S2 := Lib.hid (show ∀ t, hasW [possW X] t = true → hasW [possW r] t = true from fun t h => by rw [hasW_one] at h ⊢; exact HNr.out.poss He.out Hxe.out t h)
            have S3 := Lib.hid (show ∀ t, hasW u1 t = true → hasW u2 t = true from fun t h => by rw [HS1.out.h] at h; rw [HS2.out.h]; exact HNr.out.pau He.out Hxe.out t h)
            have S4 := Lib.hid (show ∀ t, hasW u3 t = true → hasW u4 t = true from fun t h => by rw [HS3.out.h] at h; rw [HS4.out.h]; exact HNr.out.rid He.out Hxe.out t h)
            clear Hg1 Hg2 Hg3 Hg4 Gr GX Pr PX HS1 HS2 HS3 HS4
            have hx0 : (y52.w.alloc (.cells #[.int .i64 (sureW r).f, .int .i64 (sureW r).t] 31)).cell? ⟨ghb, 0, none⟩ = some (.int .i64 (sureW X).f) := by obtain ⟨z, hz⟩ := y52.alloc (.cells #[.int .i64 (sureW r).f, .int .i64 (sureW r).t] 31); rw [hz]; exact Hhb0 z
            have hx1 : (y52.w.alloc (.cells #[.int .i64 (sureW r).f, .int .i64 (sureW r).t] 31)).cell? ⟨ghb, 1, none⟩ = some (.int .i64 (sureW X).t) := by obtain ⟨z, hz⟩ := y52.alloc (.cells #[.int .i64 (sureW r).f, .int .i64 (sureW r).t] 31); rw [hz]; exact Hhb1 z
            go_wp2_with fail
            have hsz : (y52.w.alloc (.cells #[.int .i64 (sureW r).f, .int .i64 (sureW r).t] 31)).heap.size = y52.w.heap.size + 1 := by simp
            have hl2 := els_mk Win.len (y52.w.alloc (.cells #[.int .i64 (sureW r).f, .int .i64 (sureW r).t] 31)) [sureW X] 31
            rw [hsz] at hl2
            have HLx := Lib.hid hl2
            clear hl2 hsz hx0 hx1
            refine (within_s (W := y48.w) _ (IsSince.alloc (IsSince.alloc (IsSince.of y52) _) _) (some ⟨y52.w.heap.size, 0, none⟩) [sureW r] 1 1 (some ⟨y52.w.heap.size + 1, 0, none⟩) [sureW X] 1 1 ((els_mk Win.len y52.w [sureW r] 31).to (IsSince.alloc (IsSince.self _) _)) HLx.out rfl rfl (by decide) (by decide) G1.out S1.out).mono ?_
            rintro _ _ ⟨rfl, y53, rfl, hz⟩
            replace HL1 := Lib.hid (((HL1.out.to (IsSince.alloc (IsSince.self _) _)).to (IsSince.alloc (IsSince.self _) _)).to hz)
            replace HL2 := Lib.hid (((HL2.out.to (IsSince.alloc (IsSince.self _) _)).to (IsSince.alloc (IsSince.self _) _)).to hz)
            replace HL3 := Lib.hid (((HL3.out.to (IsSince.alloc (IsSince.self _) _)).to (IsSince.alloc (IsSince.self _) _)).to hz)
            replace HL4 := Lib.hid (((HL4.out.to (IsSince.alloc (IsSince.self _) _)).to (IsSince.alloc (IsSince.self _) _)).to hz)
            clear hz HLx
            have hx0 : (y53.w.alloc (.cells #[.int .i64 (possW X).f, .int .i64 (possW X).t] 31)).cell? ⟨ghc, 0, none⟩ = some (.int .i64 (possW r).f) := by obtain ⟨z, hz⟩ := y53.alloc (.cells #[.int .i64 (possW X).f, .int .i64 (possW X).t] 31); rw [hz]; exact Hhc0 z
            have hx1 : (y53.w.alloc (.cells #[.int .i64 (possW X).f, .int .i64 (possW X).t] 31)).cell? ⟨ghc, 1, none⟩ = some (.int .i64 (possW r).t) := by obtain ⟨z, hz⟩ := y53.alloc (.cells #[.int .i64 (possW X).f, .int .i64 (possW X).t] 31); rw [hz]; exact Hhc1 z
            go_wp2_with fail
            have hsz : (y53.w.alloc (.cells #[.int .i64 (possW X).f, .int .i64 (possW X).t] 31)).heap.size = y53.w.heap.size + 1 := by simp
            have hl2 := els_mk Win.len (y53.w.alloc (.cells #[.int .i64 (possW X).f, .int .i64 (possW X).t] 31)) [possW r] 31
            rw [hsz] at hl2
            have HLx := Lib.hid hl2
            clear hl2 hsz hx0 hx1
            refine (within_s (W := y48.w) _ (IsSince.alloc (IsSince.alloc (IsSince.of y53) _) _) (some ⟨y53.w.heap.size, 0, none⟩) [possW X] 1 1 (some ⟨y53.w.heap.size + 1, 0, none⟩) [possW r] 1 1 ((els_mk Win.len y53.w [possW X] 31).to (IsSince.alloc (IsSince.self _) _)) HLx.out rfl rfl (by decide) (by decide) G2.out S2.out).mono ?_
            rintro _ _ ⟨rfl, y54, rfl, hz⟩
            replace HL1 := Lib.hid (((HL1.out.to (IsSince.alloc (IsSince.self _) _)).to (IsSince.alloc (IsSince.self _) _)).to hz)
            replace HL2 := Lib.hid (((HL2.out.to (IsSince.alloc (IsSince.self _) _)).to (IsSince.alloc (IsSince.self _) _)).to hz)
            replace HL3 := Lib.hid (((HL3.out.to (IsSince.alloc (IsSince.self _) _)).to (IsSince.alloc (IsSince.self _) _)).to hz)
            replace HL4 := Lib.hid (((HL4.out.to (IsSince.alloc (IsSince.self _) _)).to (IsSince.alloc (IsSince.self _) _)).to hz)
            clear hz HLx
            go_wp2_with (first | (go_at_call 28; ((with_reducible refine (within_s (W := y48.w) _ (IsSince.of y54) al1 u1 _ cl1 al2 u2 _ cl2 HL1.out HL2.out rfl rfl (by omega) (by omega) G3.out S3.out).mono ?_); rintro _ _ ⟨rfl, y55, rfl, hz⟩; replace HL1 := Lib.hid (HL1.out.to hz); replace HL2 := Lib.hid (HL2.out.to hz); replace HL3 := Lib.hid (HL3.out.to hz); replace HL4 := Lib.hid (HL4.out.to hz); clear hz)) | (go_at_call 28; ((with_reducible refine (within_s (W := y48.w) _ (IsSince.of y55) al3 u3 _ cl3 al4 u4 _ cl4 HL3.out HL4.out rfl rfl (by omega) (by omega) G4.out S4.out).mono ?_); rintro _ _ ⟨rfl, y56, rfl, hz⟩; replace HL1 := Lib.hid (HL1.out.to hz); replace HL2 := Lib.hid (HL2.out.to hz); replace HL3 := Lib.hid (HL3.out.to hz); replace HL4 := Lib.hid (HL4.out.to hz); clear hz)) | (go_at_call 11; ((with_reducible refine (awake_calls _ y56).mono ?_); rintro _ _ ⟨rfl, yz, rfl⟩)))
            go_ret
            exact ⟨rfl, HU.out.trans (IsSince.of yz)⟩
end Go.Proofs.Ytefodfpnedcodaa
