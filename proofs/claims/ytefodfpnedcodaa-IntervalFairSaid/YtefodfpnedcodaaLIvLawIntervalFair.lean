/- The laws of the certain and the possible time, fourth part: moments that are picked. -/
import Derived.Test.YtefodfpnedcodaaIvMe
set_option linter.all false
namespace Go.Proofs.Ytefodfpnedcodaa
open Go.RowKit

abbrev U16Row (w : World) (a : Option Addr) (l : List Int) : Prop := Row w a l.length fun i => .int .u16 (at0 l i)
set_option maxHeartbeats 1000000 in
theorem at_calls (w : World) (x : Since w) (a : Option Addr) (l : List Int) (c : Nat) (i : Nat) (h : U16Row w a l) (_hl : l.length ≤ 9223372036854775807) (hi : i ≤ 1000000) :
    Calls Try.prog 34 #[.slice a l.length c, .int .i64 (i : Int)] x.w fun o w' => o = .returned (.int .u16 (at0 l i)) ∧ ∃ y : Since w, w' = y.w := by
  by_cases hlt : i < l.length
  · obtain ⟨b, off, rfl, hb, hc⟩ := h i hlt
    have hk : ∀ q : Since w, q.w.cell? ⟨b, off + i, none⟩ = some (.int .u16 (at0 l i)) := Since.cell hc hb
    have hi0 : (0 : Int) ≤ (i : Int) := by omega
    have hil : (i : Int) < (l.length : Int) := by omega
    clear hc h
    go_enter Try.func34, Try.ntmps34
    go_wp2_with fail
    go_ret
    exact ⟨rfl, _, rfl⟩
  · have hz : at0 l i = 0 := by unfold at0; rw [List.getD_eq_getElem?_getD, List.getElem?_eq_none (by omega)]; rfl
    have Hz := Lib.hid hz
    clear hz h
    go_enter Try.func34, Try.ntmps34
    go_wp2_with fail
    go_ret
    exact ⟨ret_int Hz.out.symm, _, rfl⟩
/-- the moment of an interval that a number picks -/
def pickV (lo hi n : Int) : Int := lo + n % (hi - lo + 1)
theorem pickV_in {lo hi n : Int} (h : lo ≤ hi) : lo ≤ pickV lo hi n ∧ pickV lo hi n ≤ hi := by
  unfold pickV
  have h1 := Int.emod_nonneg n (show hi - lo + 1 ≠ 0 by omega)
  have h2 := Int.emod_lt_of_pos n (show 0 < hi - lo + 1 by omega)
  omega
set_option maxHeartbeats 1000000 in
theorem pick_calls (w : World) (x : Since w) (lo hi n : Int) (h0 : 0 ≤ lo) (h1 : lo ≤ hi) (h2 : hi ≤ 4294944000) (hn0 : 0 ≤ n) (hn1 : n ≤ 65535) :
    Calls Try.prog 45 #[.agg #[.int .i64 lo, .int .i64 hi], .int .u16 n] x.w fun o w' => o = .returned (.int .i64 (pickV lo hi n)) ∧ ∃ y : Since w, w' = y.w := by
  have Hp := Lib.hid (show pickV lo hi n = lo + n % (hi - lo + 1) from rfl)
  have hb := pickV_in (n := n) h1
  rw [Hp.out] at hb
  go_enter Try.func45, Try.ntmps45
  go_upto_region 1 with fail
  have hb0_0 : ∀ y : Since (x.w.alloc (.cells #[.int .i64 lo, .int .i64 hi] 23)), y.w.cell? ⟨x.w.heap.size, 0, none⟩ = some (.int .i64 lo) := fun y => Since.cell (by simp [go_sem]) (by first | (simp; done) | (simp; omega)) y
  have hb0_1 : ∀ y : Since (x.w.alloc (.cells #[.int .i64 lo, .int .i64 hi] 23)), y.w.cell? ⟨x.w.heap.size, 1, none⟩ = some (.int .i64 hi) := fun y => Since.cell (by simp [go_sem]) (by first | (simp; done) | (simp; omega)) y
  have hf0 : ∀ (y : Since (x.w.alloc (.cells #[.int .i64 lo, .int .i64 hi] 23))) (o : Nat), y.w.frozen? ⟨x.w.heap.size, o, none⟩ = false := fun y o => Since.free (by simp [go_sem]) (by first | (simp; done) | (simp; omega)) y
  have hWup : ∃ z : Since w, (x.w.alloc (.cells #[.int .i64 lo, .int .i64 hi] 23)) = z.w := x.alloc _
  obtain ⟨y0, hy0⟩ := Since.refl (x.w.alloc (.cells #[.int .i64 lo, .int .i64 hi] 23))
  have Hbx := Lib.hid (And.intro x.b.size (show x.w.heap.size + 1 = (x.w.alloc (.cells #[.int .i64 lo, .int .i64 hi] 23)).heap.size from by simp))
  generalize hW : (x.w.alloc (.cells #[.int .i64 lo, .int .i64 hi] 23)) = W at *
  clear hW
  generalize x.w.heap.size = bx at *
  have Hup := Lib.hid (Since.up hWup)
  rw [hy0]
  clear hy0
  clear hWup hf0
  have e1 : IntKind.i64.wrap (hi - lo) = hi - lo := IntWalk.i64_in _ (by omega)
  have e2 : IntKind.i64.wrap (hi - lo + 1) = hi - lo + 1 := IntWalk.i64_in _ (by omega)
  have e3 : n.tmod (hi - lo + 1) = n % (hi - lo + 1) := Int.tmod_eq_emod_of_nonneg hn0
  have e4 : IntKind.i64.wrap (n % (hi - lo + 1)) = n % (hi - lo + 1) := IntWalk.i64_in _ (by omega)
  have e5 : IntKind.i64.wrap (lo + n % (hi - lo + 1)) = lo + n % (hi - lo + 1) := IntWalk.i64_in _ (by omega)
  have e6 : IntKind.i64.wrap n = n := IntWalk.i64_in _ (by omega)
  have e7 : (hi - lo + 1 == 0) = false := by simp; omega
  refine wp_region_since (by kernel_rfl) (by kernel_rfl) ?_
  repeat (go_big_quiet_step (fail))
  refine wpQuiet_nil ?_
  rintro _ ⟨z, rfl⟩
  go_wp2_with fail
  go_ret
  exact ⟨ret_int Hp.out.symm, Hup.out _⟩
theorem at_s {W : World} (w' : World) (hw : IsSince W w') (a : Option Addr) (l : List Int) (c : Nat) (i : Nat) (k : Int) (h : U16Row W a l) (hl : l.length ≤ 9223372036854775807) (hi : i ≤ 1000000) (hk : (i : Int) = k) :
    Calls Try.prog 34 #[.slice a l.length c, .int .i64 k] w' (Ends W w' (fun o => o = .returned (.int .u16 (at0 l i)))) := by
  subst hk
  exact later hw fun x => at_calls w' x a l c i (h.to hw) hl hi
theorem pick_s {W : World} (w' : World) (hw : IsSince W w') (lo hi n : Int) (h0 : 0 ≤ lo) (h1 : lo ≤ hi) (h2 : hi ≤ 4294944000) (hn0 : 0 ≤ n) (hn1 : n ≤ 65535) :
    Calls Try.prog 45 #[.agg #[.int .i64 lo, .int .i64 hi], .int .u16 n] w' (Ends W w' (fun o => o = .returned (.int .i64 (pickV lo hi n)))) :=
  later hw fun x => pick_calls w' x lo hi n h0 h1 h2 hn0 hn1
end Go.Proofs.Ytefodfpnedcodaa
/- The true moments of a ride: plain mathematics, no program in sight. -/
namespace Go.Proofs.Ytefodfpnedcodaa
open Go.RowKit

/-- the pauses took the windows T, in order, from f on; the last one ended at 'last' -/
structure Tru (f : Int) (ps : List Pse) (T : List Win) (last : Int) : Prop where
  len : T.length = ps.length
  p : ∀ (i : Nat) (p : Pse) (x : Win), ps[i]? = some p → T[i]? = some x → p.f0 ≤ x.f ∧ x.f ≤ p.f1 ∧ p.t0 ≤ x.t ∧ x.t ≤ p.t1 ∧ x.f ≤ x.t
  lo : f ≤ last
  lx : ∀ x ∈ T, f ≤ x.f ∧ x.t ≤ last
theorem tru_start (f : Int) : Tru f [] [] f := ⟨rfl, fun i p x h => by simp at h, Int.le_refl _, fun x h => by cases h⟩
theorem Tru.step {f : Int} {ps : List Pse} {T : List Win} {last : Int} (h : Tru f ps T last) {p : Pse} {x : Win} (h0 : p.f0 ≤ x.f ∧ x.f ≤ p.f1 ∧ p.t0 ≤ x.t ∧ x.t ≤ p.t1) (h1 : last ≤ x.f) (h2 : x.f ≤ x.t) : Tru f (ps ++ [p]) (T ++ [x]) x.t := by
  have hl := h.lo
  refine ⟨by simp [h.len], fun i q y hq hy => ?_, by omega, fun y hy => ?_⟩
  · by_cases hi : i < ps.length
    · rw [List.getElem?_append_left hi] at hq
      rw [List.getElem?_append_left (by rw [h.len]; exact hi)] at hy
      exact h.p i q y hq hy
    · rw [List.getElem?_append_right (by omega)] at hq
      rw [List.getElem?_append_right (by rw [h.len]; omega)] at hy
      have hj := (List.getElem?_eq_some_iff.1 hq).1
      simp at hj
      obtain rfl : i = ps.length := by omega
      rw [h.len] at hy
      simp at hq hy
      subst hq; subst hy
      exact ⟨h0.1, h0.2.1, h0.2.2.1, h0.2.2.2, h2⟩
  · rcases List.mem_append.1 hy with hy | hy
    · have := h.lx y hy; omega
    · simp at hy; subst hy; omega
/-- the true window and the true pauses of a ride -/
structure TruOk (r : Ride) (V : Win) (T : List Win) : Prop where
  a : r.s0 ≤ V.f ∧ V.f ≤ r.s1
  b : r.e0 ≤ V.t ∧ V.t ≤ r.e1
  t : ∃ last, Tru V.f r.pauses T last ∧ last ≤ V.t
section
variable {r : Ride} {V : Win} {T : List Win}
theorem TruOk.at (h : TruOk r V T) {x : Win} (hx : x ∈ T) : ∃ p ∈ r.pauses, p.f0 ≤ x.f ∧ x.f ≤ p.f1 ∧ p.t0 ≤ x.t ∧ x.t ≤ p.t1 ∧ x.f ≤ x.t ∧ V.f ≤ x.f ∧ x.t ≤ V.t := by
  obtain ⟨last, hT, hl⟩ := h.t
  obtain ⟨i, hi⟩ := List.mem_iff_getElem?.1 hx
  obtain ⟨p, hp⟩ : ∃ p, r.pauses[i]? = some p := ⟨_, List.getElem?_eq_getElem (by rw [← hT.len]; exact (List.getElem?_eq_some_iff.1 hi).1)⟩
  obtain ⟨h1, h2, h3, h4, h5⟩ := hT.p i p x hp hi
  have := hT.lx x hx
  exact ⟨p, List.mem_of_getElem? hp, h1, h2, h3, h4, h5, by omega, by omega⟩
theorem TruOk.of (h : TruOk r V T) {p : Pse} (hp : p ∈ r.pauses) : ∃ x ∈ T, p.f0 ≤ x.f ∧ x.f ≤ p.f1 ∧ p.t0 ≤ x.t ∧ x.t ≤ p.t1 := by
  obtain ⟨last, hT, hl⟩ := h.t
  obtain ⟨i, hi⟩ := List.mem_iff_getElem?.1 hp
  obtain ⟨x, hx⟩ : ∃ x, T[i]? = some x := ⟨_, List.getElem?_eq_getElem (by rw [hT.len]; exact (List.getElem?_eq_some_iff.1 hi).1)⟩
  obtain ⟨h1, h2, h3, h4, h5⟩ := hT.p i p x hi hx
  exact ⟨x, List.mem_of_getElem? hx, h1, h2, h3, h4⟩
theorem TruOk.le (h : TruOk r V T) : V.f ≤ V.t := by
  obtain ⟨last, hT, hl⟩ := h.t
  have := hT.lo; omega
theorem TruOk.vld (h : TruOk r V T) (he : ivE r = 0) : vldW V = true := by
  have hr := rideOk_of he
  have := hr.s; have := hr.e; have := h.a; have := h.b; have := h.le
  rw [vldW_iff]; omega
theorem TruOk.good (h : TruOk r V T) (he : ivE r = 0) : badW T = false := badW_false.2 fun x hx => by
  obtain ⟨p, hp, k⟩ := h.at hx
  have hr := rideOk_of he
  have := hr.p p hp
  rw [vldW_iff]; omega
theorem TruOk.sure (h : TruOk r V T) (he : ivE r = 0) (t : Int) (ht : inW t (sureW r) = true) : inW t V = true := by
  rw [show sureW r = ⟨r.s1, max r.s1 r.e0⟩ from if_pos he, inW_iff] at ht
  have h1 : r.s1 ≤ t := ht.1
  have h2 : t < max r.s1 r.e0 := ht.2
  have := h.a; have := h.b
  rw [inW_iff]; omega
theorem TruOk.poss (h : TruOk r V T) (he : ivE r = 0) (t : Int) (ht : inW t V = true) : inW t (possW r) = true := by
  rw [show possW r = ⟨r.s0, r.e1⟩ from if_pos he, inW_iff]
  rw [inW_iff] at ht
  have := h.a; have := h.b
  show r.s0 ≤ t ∧ t < r.e1
  omega
theorem TruOk.pau (h : TruOk r V T) (t : Int) (ht : pauS r t = true) : hasW T t = true := by
  unfold pauS at ht
  rw [Bool.and_eq_true, hasW_iff] at ht
  obtain ⟨_, x, hx, h1, h2⟩ := ht
  obtain ⟨p, hp, rfl⟩ := List.mem_map.1 hx
  obtain ⟨y, hy, k⟩ := h.of hp
  have h1' : p.f1 ≤ t := h1
  have h2' : t < max p.f1 p.t0 := h2
  exact hasW_iff.2 ⟨y, hy, by omega, by omega⟩
theorem TruOk.rid (h : TruOk r V T) (t : Int) (ht : ridS r t = true) : hasW T t = false := by
  cases hh : hasW T t
  · rfl
  · obtain ⟨x, hx, h1, h2⟩ := hasW_iff.1 hh
    obtain ⟨p, hp, k⟩ := h.at hx
    unfold ridS at ht
    rw [Bool.and_eq_true, Bool.not_eq_true'] at ht
    have : hasW (r.pauses.map possP) t = true := hasW_iff.2 ⟨possP p, List.mem_map.2 ⟨p, hp, rfl⟩, by show p.f0 ≤ t; omega, by show t < max p.f0 p.t1; omega⟩
    rw [this] at ht
    cases ht.2
theorem TruOk.inV (h : TruOk r V T) (t : Int) (ht : hasW T t = true) : inW t V = true := by
  obtain ⟨x, hx, h1, h2⟩ := hasW_iff.1 ht
  obtain ⟨p, hp, k⟩ := h.at hx
  rw [inW_iff]; omega
/-- the certain seconds are at most the true ones -/
theorem TruOk.secs (h : TruOk r V T) (he : ivE r = 0) : cnt (ridS r) 4294944000 ≤ V.t - V.f - cnt (hasW T) 4294944000 ∧ cnt (pauS r) 4294944000 ≤ cnt (hasW T) 4294944000 := by
  have hv := (vldW_iff V).1 (h.vld he)
  have h1 := cnt_win V hv.1 hv.2.1 4294944000
  refine ⟨?_, cnt_le _ fun t _ _ => h.pau t⟩
  have h2 := cnt_add (S := fun t => ridS r t || hasW T t) (A := ridS r) (B := hasW T) 4294944000 fun t _ _ => ⟨rfl, by
    cases hr : ridS r t
    · rfl
    · rw [h.rid t hr]; rfl⟩
  have h3 := cnt_le (S := fun t => ridS r t || hasW T t) (T := fun t => inW t V) 4294944000 fun t _ _ ht => by
    rw [Bool.or_eq_true] at ht
    rcases ht with ht | ht
    · refine h.sure he t ?_
      unfold ridS at ht; rw [Bool.and_eq_true] at ht; exact ht.1
    · exact h.inV t ht
  omega
end
end Go.Proofs.Ytefodfpnedcodaa
/- The laws of the certain and the possible time, fifth part: the true moments, walked. -/
namespace Go.Proofs.Ytefodfpnedcodaa
open Go.RowKit

theorem nb_newD {W w z : World} {a b : Value} {T : TypeId} (hw : IsSince W w) (hz : ∃ v : Since (w.alloc (.cells #[a, b] T)).drew, z = v.w) : NB W z w.heap.size a b := by
  refine NB.to ⟨hw.size, by simp, by simp [go_sem], by simp [go_sem], fun o => by simp [go_sem]⟩ hz
theorem far_cell {w : World} {g b i j : Nat} (h : g ≠ b) (u : Value) : (w.setCell ⟨b, i, none⟩ u).cell? ⟨g, j, none⟩ = w.cell? ⟨g, j, none⟩ := World.cell?_of_block (w := w) (a := ⟨g, j, none⟩) (Below.heap_setCell w ⟨b, i, none⟩ u g h)
/-- a result of two cells is stored, behind it a draw; a list of the call's own stays -/
theorem end_two {w : World} (y : Since w) {b : Nat} (hb : w.heap.size ≤ b) {p q : Value} (l0 : y.w.cell? ⟨b, 0, none⟩ = some p) (l1 : y.w.cell? ⟨b, 1, none⟩ = some q) (u v : Value) {a : Option Addr} {T : List Win} (hr : WinRow y.w a T) (hne : ∀ x, a = some x → x.block ≠ b) :
    ∃ z : Since w, ((y.w.setCell ⟨b, 0, none⟩ u).setCell ⟨b, 1, none⟩ v).drew = z.w ∧ z.w.cell? ⟨b, 0, none⟩ = some u ∧ z.w.cell? ⟨b, 1, none⟩ = some v ∧ WinRow z.w a T := by
  obtain ⟨z0, hz0, h0, h1⟩ := set_two y l0 l1 ⟨y, rfl⟩ hb u v
  obtain ⟨z, hz⟩ := z0.drew
  refine ⟨z, by rw [hz0]; exact hz, by rw [← hz]; exact h0, by rw [← hz]; exact h1, ?_⟩
  rw [← hz, ← hz0]
  refine hr.keep (by show _ ≤ ((y.w.setCell _ u).setCell _ v).heap.size; simp [World.setCell]) fun c off hc hlt => ?_
  have hcb : c ≠ b := hne _ hc
  show ((y.w.setCell ⟨b, 0, none⟩ u).setCell ⟨b, 1, none⟩ v).heap[c]? = _
  rw [Below.heap_setCell _ ⟨b, 1, none⟩ v c hcb, Below.heap_setCell _ ⟨b, 0, none⟩ u c hcb]
/-- a box of two cells that is made last, or early and written last -/
theorem box_late {W : World} (y : Since W) (u v : Value) (T : TypeId) : ∃ y5 : Since W, W.heap.size ≤ y.w.heap.size ∧ y.w.alloc (.cells #[u, v] T) = y5.w ∧ (∀ q : Since y5.w, q.w.cell? ⟨y.w.heap.size, 0, none⟩ = some u) ∧ (∀ q : Since y5.w, q.w.cell? ⟨y.w.heap.size, 1, none⟩ = some v) := by
  have h0 : (y.w.alloc (.cells #[u, v] T)).cell? ⟨y.w.heap.size, 0, none⟩ = some u := by simp [go_sem]
  have h1 : (y.w.alloc (.cells #[u, v] T)).cell? ⟨y.w.heap.size, 1, none⟩ = some v := by simp [go_sem]
  have hl : y.w.heap.size < (y.w.alloc (.cells #[u, v] T)).heap.size := by simp
  obtain ⟨z, hz⟩ := y.alloc (.cells #[u, v] T)
  rw [hz] at h0 h1 hl
  exact ⟨z, y.b.size, hz, fun q => Since.cell h0 hl q, fun q => Since.cell h1 hl q⟩
theorem box_early {W : World} (y : Since W) {g : Nat} {a b : Value} (h : NB W y.w g a b) (u v : Value) : ∃ y5 : Since W, W.heap.size ≤ g ∧ (y.w.setCell ⟨g, 0, none⟩ u).setCell ⟨g, 1, none⟩ v = y5.w ∧ (∀ q : Since y5.w, q.w.cell? ⟨g, 0, none⟩ = some u) ∧ (∀ q : Since y5.w, q.w.cell? ⟨g, 1, none⟩ = some v) := by
  obtain ⟨z, hz, h0, h1⟩ := set_two y h.c0 h.c1 ⟨y, rfl⟩ h.lb u v
  have hl : g < z.w.heap.size := by rw [← hz]; simpa [World.setCell] using h.lt
  exact ⟨z, h.lb, hz, fun q => Since.cell h0 hl q, fun q => Since.cell h1 hl q⟩
def TruRes (w : World) (r : Ride) (o : Ending) (w' : World) : Prop :=
  ∃ (V : Win) (a : Option Addr) (cap : Nat) (T : List Win) (ok : Bool) (y : Since w), o = .returned (.tuple #[.agg #[.int .i64 V.f, .int .i64 V.t], .slice a T.length cap, .bool ok]) ∧ w' = y.w ∧ WinRow y.w a T ∧ (ok = true → TruOk r V T)
set_option maxRecDepth 100000 in
set_option maxHeartbeats 16000000 in
theorem truth_calls (w : World) (x : Since w) (r : Ride) (a : Option Addr) (l : List Int) (c : Nat) (h : r.At w) (he : ivE r = 0) (hm : U16Row w a l) (hl : l.length ≤ 9223372036854775807) (hp : ∀ i, 0 ≤ at0 l i ∧ at0 l i ≤ 65535) :
    Calls Try.prog 26 #[.agg #[.int .i64 r.id, .int .i64 r.rd, .int .i64 r.s0, .int .i64 r.s1, .int .i64 r.e0, .int .i64 r.e1, .bool r.op, .slice r.la r.legs.length r.lc, .slice r.pa r.pauses.length r.pc, .int .i64 r.fw, .int .i64 r.fp, .int .i64 r.wh, .int .i64 r.pl], .slice a l.length c] x.w (TruRes w r) := by
  have H := Lib.hid h
  have HM := Lib.hid hm
  have HPs := Lib.hid h.p
  have He := Lib.hid he
  have hr := rideOk_of he
  obtain ⟨s1, s2, s3⟩ := hr.s
  obtain ⟨e1, e2, e3⟩ := hr.e
  have Hr := Lib.hid hr
  have hm0 := hp 0
  have hm1 := hp 1
  clear h hm he hr
  generalize r.pa = pa at *
  generalize hps : r.pauses = ps at *
  have Hps := Lib.hid hps
  have Hp := Lib.hid hp
  clear hps hp
  go_enter Try.func26, Try.ntmps26
  go_upto_region 1 with fail
  have hb0_0 : ∀ y : Since ((x.w.alloc (.cells #[.int .i64 r.id, .int .i64 r.rd, .int .i64 r.s0, .int .i64 r.s1, .int .i64 r.e0, .int .i64 r.e1, .bool r.op, .slice r.la r.legs.length r.lc, .slice pa ps.length r.pc, .int .i64 r.fw, .int .i64 r.fp, .int .i64 r.wh, .int .i64 r.pl] 27)).alloc (.cells #[.int .i64 0, .int .i64 0] 31)), y.w.cell? ⟨x.w.heap.size, 0, none⟩ = some (.int .i64 r.id) := fun y => Since.cell (by simp [go_sem]) (by first | (simp; done) | (simp; omega)) y
  have hb0_1 : ∀ y : Since ((x.w.alloc (.cells #[.int .i64 r.id, .int .i64 r.rd, .int .i64 r.s0, .int .i64 r.s1, .int .i64 r.e0, .int .i64 r.e1, .bool r.op, .slice r.la r.legs.length r.lc, .slice pa ps.length r.pc, .int .i64 r.fw, .int .i64 r.fp, .int .i64 r.wh, .int .i64 r.pl] 27)).alloc (.cells #[.int .i64 0, .int .i64 0] 31)), y.w.cell? ⟨x.w.heap.size, 1, none⟩ = some (.int .i64 r.rd) := fun y => Since.cell (by simp [go_sem]) (by first | (simp; done) | (simp; omega)) y
  have hb0_2 : ∀ y : Since ((x.w.alloc (.cells #[.int .i64 r.id, .int .i64 r.rd, .int .i64 r.s0, .int .i64 r.s1, .int .i64 r.e0, .int .i64 r.e1, .bool r.op, .slice r.la r.legs.length r.lc, .slice pa ps.length r.pc, .int .i64 r.fw, .int .i64 r.fp, .int .i64 r.wh, .int .i64 r.pl] 27)).alloc (.cells #[.int .i64 0, .int .i64 0] 31)), y.w.cell? ⟨x.w.heap.size, 2, none⟩ = some (.int .i64 r.s0) := fun y => Since.cell (by simp [go_sem]) (by first | (simp; done) | (simp; omega)) y
  have hb0_3 : ∀ y : Since ((x.w.alloc (.cells #[.int .i64 r.id, .int .i64 r.rd, .int .i64 r.s0, .int .i64 r.s1, .int .i64 r.e0, .int .i64 r.e1, .bool r.op, .slice r.la r.legs.length r.lc, .slice pa ps.length r.pc, .int .i64 r.fw, .int .i64 r.fp, .int .i64 r.wh, .int .i64 r.pl] 27)).alloc (.cells #[.int .i64 0, .int .i64 0] 31)), y.w.cell? ⟨x.w.heap.size, 3, none⟩ = some (.int .i64 r.s1) := fun y => Since.cell (by simp [go_sem]) (by first | (simp; done) | (simp; omega)) y
  have hb0_4 : ∀ y : Since ((x.w.alloc (.cells #[.int .i64 r.id, .int .i64 r.rd, .int .i64 r.s0, .int .i64 r.s1, .int .i64 r.e0, .int .i64 r.e1, .bool r.op, .slice r.la r.legs.length r.lc, .slice pa ps.length r.pc, .int .i64 r.fw, .int .i64 r.fp, .int .i64 r.wh, .int .i64 r.pl] 27)).alloc (.cells #[.int .i64 0, .int .i64 0] 31)), y.w.cell? ⟨x.w.heap.size, 4, none⟩ = some (.int .i64 r.e0) := fun y => Since.cell (by simp [go_sem]) (by first | (simp; done) | (simp; omega)) y
  have hb0_5 : ∀ y : Since ((x.w.alloc (.cells #[.int .i64 r.id, .int .i64 r.rd, .int .i64 r.s0, .int .i64 r.s1, .int .i64 r.e0, .int .i64 r.e1, .bool r.op, .slice r.la r.legs.length r.lc, .slice pa ps.length r.pc, .int .i64 r.fw, .int .i64 r.fp, .int .i64 r.wh, .int .i64 r.pl] 27)).alloc (.cells #[.int .i64 0, .int .i64 0] 31)), y.w.cell? ⟨x.w.heap.size, 5, none⟩ = some (.int .i64 r.e1) := fun y => Since.cell (by simp [go_sem]) (by first | (simp; done) | (simp; omega)) y
  have hb0_6 : ∀ y : Since ((x.w.alloc (.cells #[.int .i64 r.id, .int .i64 r.rd, .int .i64 r.s0, .int .i64 r.s1, .int .i64 r.e0, .int .i64 r.e1, .bool r.op, .slice r.la r.legs.length r.lc, .slice pa ps.length r.pc, .int .i64 r.fw, .int .i64 r.fp, .int .i64 r.wh, .int .i64 r.pl] 27)).alloc (.cells #[.int .i64 0, .int .i64 0] 31)), y.w.cell? ⟨x.w.heap.size, 6, none⟩ = some (.bool r.op) := fun y => Since.cell (by simp [go_sem]) (by first | (simp; done) | (simp; omega)) y
  have hb0_7 : ∀ y : Since ((x.w.alloc (.cells #[.int .i64 r.id, .int .i64 r.rd, .int .i64 r.s0, .int .i64 r.s1, .int .i64 r.e0, .int .i64 r.e1, .bool r.op, .slice r.la r.legs.length r.lc, .slice pa ps.length r.pc, .int .i64 r.fw, .int .i64 r.fp, .int .i64 r.wh, .int .i64 r.pl] 27)).alloc (.cells #[.int .i64 0, .int .i64 0] 31)), y.w.cell? ⟨x.w.heap.size, 7, none⟩ = some (.slice r.la r.legs.length r.lc) := fun y => Since.cell (by simp [go_sem]) (by first | (simp; done) | (simp; omega)) y
  have hb0_8 : ∀ y : Since ((x.w.alloc (.cells #[.int .i64 r.id, .int .i64 r.rd, .int .i64 r.s0, .int .i64 r.s1, .int .i64 r.e0, .int .i64 r.e1, .bool r.op, .slice r.la r.legs.length r.lc, .slice pa ps.length r.pc, .int .i64 r.fw, .int .i64 r.fp, .int .i64 r.wh, .int .i64 r.pl] 27)).alloc (.cells #[.int .i64 0, .int .i64 0] 31)), y.w.cell? ⟨x.w.heap.size, 8, none⟩ = some (.slice pa ps.length r.pc) := fun y => Since.cell (by simp [go_sem]) (by first | (simp; done) | (simp; omega)) y
  have hb0_9 : ∀ y : Since ((x.w.alloc (.cells #[.int .i64 r.id, .int .i64 r.rd, .int .i64 r.s0, .int .i64 r.s1, .int .i64 r.e0, .int .i64 r.e1, .bool r.op, .slice r.la r.legs.length r.lc, .slice pa ps.length r.pc, .int .i64 r.fw, .int .i64 r.fp, .int .i64 r.wh, .int .i64 r.pl] 27)).alloc (.cells #[.int .i64 0, .int .i64 0] 31)), y.w.cell? ⟨x.w.heap.size, 9, none⟩ = some (.int .i64 r.fw) := fun y => Since.cell (by simp [go_sem]) (by first | (simp; done) | (simp; omega)) y
  have hb0_10 : ∀ y : Since ((x.w.alloc (.cells #[.int .i64 r.id, .int .i64 r.rd, .int .i64 r.s0, .int .i64 r.s1, .int .i64 r.e0, .int .i64 r.e1, .bool r.op, .slice r.la r.legs.length r.lc, .slice pa ps.length r.pc, .int .i64 r.fw, .int .i64 r.fp, .int .i64 r.wh, .int .i64 r.pl] 27)).alloc (.cells #[.int .i64 0, .int .i64 0] 31)), y.w.cell? ⟨x.w.heap.size, 10, none⟩ = some (.int .i64 r.fp) := fun y => Since.cell (by simp [go_sem]) (by first | (simp; done) | (simp; omega)) y
  have hb0_11 : ∀ y : Since ((x.w.alloc (.cells #[.int .i64 r.id, .int .i64 r.rd, .int .i64 r.s0, .int .i64 r.s1, .int .i64 r.e0, .int .i64 r.e1, .bool r.op, .slice r.la r.legs.length r.lc, .slice pa ps.length r.pc, .int .i64 r.fw, .int .i64 r.fp, .int .i64 r.wh, .int .i64 r.pl] 27)).alloc (.cells #[.int .i64 0, .int .i64 0] 31)), y.w.cell? ⟨x.w.heap.size, 11, none⟩ = some (.int .i64 r.wh) := fun y => Since.cell (by simp [go_sem]) (by first | (simp; done) | (simp; omega)) y
  have hb0_12 : ∀ y : Since ((x.w.alloc (.cells #[.int .i64 r.id, .int .i64 r.rd, .int .i64 r.s0, .int .i64 r.s1, .int .i64 r.e0, .int .i64 r.e1, .bool r.op, .slice r.la r.legs.length r.lc, .slice pa ps.length r.pc, .int .i64 r.fw, .int .i64 r.fp, .int .i64 r.wh, .int .i64 r.pl] 27)).alloc (.cells #[.int .i64 0, .int .i64 0] 31)), y.w.cell? ⟨x.w.heap.size, 12, none⟩ = some (.int .i64 r.pl) := fun y => Since.cell (by simp [go_sem]) (by first | (simp; done) | (simp; omega)) y
  have hf0 : ∀ (y : Since ((x.w.alloc (.cells #[.int .i64 r.id, .int .i64 r.rd, .int .i64 r.s0, .int .i64 r.s1, .int .i64 r.e0, .int .i64 r.e1, .bool r.op, .slice r.la r.legs.length r.lc, .slice pa ps.length r.pc, .int .i64 r.fw, .int .i64 r.fp, .int .i64 r.wh, .int .i64 r.pl] 27)).alloc (.cells #[.int .i64 0, .int .i64 0] 31))) (o : Nat), y.w.frozen? ⟨x.w.heap.size, o, none⟩ = false := fun y o => Since.free (by simp [go_sem]) (by first | (simp; done) | (simp; omega)) y
  have hb1_0 : ∀ y : Since ((x.w.alloc (.cells #[.int .i64 r.id, .int .i64 r.rd, .int .i64 r.s0, .int .i64 r.s1, .int .i64 r.e0, .int .i64 r.e1, .bool r.op, .slice r.la r.legs.length r.lc, .slice pa ps.length r.pc, .int .i64 r.fw, .int .i64 r.fp, .int .i64 r.wh, .int .i64 r.pl] 27)).alloc (.cells #[.int .i64 0, .int .i64 0] 31)), y.w.cell? ⟨x.w.heap.size + 1, 0, none⟩ = some (.int .i64 0) := fun y => Since.cell (by simp [go_sem]) (by first | (simp; done) | (simp; omega)) y
  have hb1_1 : ∀ y : Since ((x.w.alloc (.cells #[.int .i64 r.id, .int .i64 r.rd, .int .i64 r.s0, .int .i64 r.s1, .int .i64 r.e0, .int .i64 r.e1, .bool r.op, .slice r.la r.legs.length r.lc, .slice pa ps.length r.pc, .int .i64 r.fw, .int .i64 r.fp, .int .i64 r.wh, .int .i64 r.pl] 27)).alloc (.cells #[.int .i64 0, .int .i64 0] 31)), y.w.cell? ⟨x.w.heap.size + 1, 1, none⟩ = some (.int .i64 0) := fun y => Since.cell (by simp [go_sem]) (by first | (simp; done) | (simp; omega)) y
  have hf1 : ∀ (y : Since ((x.w.alloc (.cells #[.int .i64 r.id, .int .i64 r.rd, .int .i64 r.s0, .int .i64 r.s1, .int .i64 r.e0, .int .i64 r.e1, .bool r.op, .slice r.la r.legs.length r.lc, .slice pa ps.length r.pc, .int .i64 r.fw, .int .i64 r.fp, .int .i64 r.wh, .int .i64 r.pl] 27)).alloc (.cells #[.int .i64 0, .int .i64 0] 31))) (o : Nat), y.w.frozen? ⟨x.w.heap.size + 1, o, none⟩ = false := fun y o => Since.free (by simp [go_sem]) (by first | (simp; done) | (simp; omega)) y
  have hWup : ∃ z : Since w, ((x.w.alloc (.cells #[.int .i64 r.id, .int .i64 r.rd, .int .i64 r.s0, .int .i64 r.s1, .int .i64 r.e0, .int .i64 r.e1, .bool r.op, .slice r.la r.legs.length r.lc, .slice pa ps.length r.pc, .int .i64 r.fw, .int .i64 r.fp, .int .i64 r.wh, .int .i64 r.pl] 27)).alloc (.cells #[.int .i64 0, .int .i64 0] 31)) = z.w := Since.allocs x [.cells #[.int .i64 r.id, .int .i64 r.rd, .int .i64 r.s0, .int .i64 r.s1, .int .i64 r.e0, .int .i64 r.e1, .bool r.op, .slice r.la r.legs.length r.lc, .slice pa ps.length r.pc, .int .i64 r.fw, .int .i64 r.fp, .int .i64 r.wh, .int .i64 r.pl] 27, .cells #[.int .i64 0, .int .i64 0] 31]
  obtain ⟨y0, hy0⟩ := Since.refl ((x.w.alloc (.cells #[.int .i64 r.id, .int .i64 r.rd, .int .i64 r.s0, .int .i64 r.s1, .int .i64 r.e0, .int .i64 r.e1, .bool r.op, .slice r.la r.legs.length r.lc, .slice pa ps.length r.pc, .int .i64 r.fw, .int .i64 r.fp, .int .i64 r.wh, .int .i64 r.pl] 27)).alloc (.cells #[.int .i64 0, .int .i64 0] 31))
  have Hbx := Lib.hid (And.intro x.b.size (show x.w.heap.size + 2 = ((x.w.alloc (.cells #[.int .i64 r.id, .int .i64 r.rd, .int .i64 r.s0, .int .i64 r.s1, .int .i64 r.e0, .int .i64 r.e1, .bool r.op, .slice r.la r.legs.length r.lc, .slice pa ps.length r.pc, .int .i64 r.fw, .int .i64 r.fp, .int .i64 r.wh, .int .i64 r.pl] 27)).alloc (.cells #[.int .i64 0, .int .i64 0] 31)).heap.size from by simp))
  generalize hW : ((x.w.alloc (.cells #[.int .i64 r.id, .int .i64 r.rd, .int .i64 r.s0, .int .i64 r.s1, .int .i64 r.e0, .int .i64 r.e1, .bool r.op, .slice r.la r.legs.length r.lc, .slice pa ps.length r.pc, .int .i64 r.fw, .int .i64 r.fp, .int .i64 r.wh, .int .i64 r.pl] 27)).alloc (.cells #[.int .i64 0, .int .i64 0] 31)) = W at *
  clear hW
  generalize x.w.heap.size = bx at *
  have Hup := Lib.hid (Since.up hWup)
  rw [hy0]
  clear hy0
  replace HM := Lib.hid (HM.out.to hWup)
  replace HPs := Lib.hid (HPs.out.to hWup)
  clear hWup
  generalize hv0 : at0 l 0 = m0 at *
  generalize hv1 : at0 l 1 = m1 at *
  have Hv0 := Lib.hid hv0
  have Hv1 := Lib.hid hv1
  have Ha0 := Lib.hid (fun (w' : World) (hw : IsSince W w') => at_s (W := W) w' hw a l c 0 0 HM.out hl (by omega) rfl)
  have Ha1 := Lib.hid (fun (w' : World) (hw : IsSince W w') => at_s (W := W) w' hw a l c 1 1 HM.out hl (by omega) rfl)
  rw [hv0] at Ha0
  rw [hv1] at Ha1
  have Hq0 := Lib.hid (fun (w' : World) (hw : IsSince W w') => pick_s (W := W) w' hw r.s0 r.s1 m0 (by omega) (by omega) (by omega) hm0.1 hm0.2)
  have Hq1 := Lib.hid (fun (w' : World) (hw : IsSince W w') => pick_s (W := W) w' hw r.e0 r.e1 m1 (by omega) (by omega) (by omega) hm1.1 hm1.2)
  have k2 := fun w' (h : IsSince W w') => IsSince.cell hb0_2 h
  have k3 := fun w' (h : IsSince W w') => IsSince.cell hb0_3 h
  have k4 := fun w' (h : IsSince W w') => IsSince.cell hb0_4 h
  have k5 := fun w' (h : IsSince W w') => IsSince.cell hb0_5 h
  have H8 := Lib.hid hb0_8
  clear hv0 hv1 hb0_0 hb0_1 hb0_2 hb0_3 hb0_4 hb0_5 hb0_6 hb0_7 hb0_8 hb0_9 hb0_10 hb0_11 hb0_12 hf0
  have HV := Lib.hid (show ∃ V : Win, V = ⟨pickV r.s0 r.s1 m0, pickV r.e0 r.e1 m1⟩ from ⟨_, rfl⟩)
  go_cut [7] (fun s7 wr => ∃ (g : Nat) (y5 : Since W), s7 = .pointer (some ⟨g, 0, none⟩) ∧ W.heap.size ≤ g ∧ wr = y5.w ∧ (∀ q : Since y5.w, q.w.cell? ⟨g, 0, none⟩ = some (.int .i64 (pickV r.s0 r.s1 m0))) ∧ (∀ q : Since y5.w, q.w.cell? ⟨g, 1, none⟩ = some (.int .i64 (pickV r.e0 r.e1 m1))))
  case first =>
    go_region_held3 (fun w' => IsSince W w') (first | assumption | exact IsSince.of _ | exact IsSince.drew' (IsSince.self _) | exact IsSince.drew' (IsSince.of _) | exact IsSince.alloc (IsSince.of _) _ | exact IsSince.alloc (IsSince.drew' (IsSince.self _)) _ | exact IsSince.alloc (by assumption) _ | exact hA.set (IsSince.of _) _ _) (first | (go_at_call 34; (first | ((with_reducible refine (Ha0.out _ (by assumption)).mono ?_); rintro _ _ ⟨rfl, z1, rfl, hz1⟩; first | (have hA := nb_new (W := W) (by first | assumption | exact IsSince.of _ | exact IsSince.self _ | exact IsSince.drew' (IsSince.of _)) hz1; have hA0 := hA.c0; have hA1 := hA.c1; have hAf := hA.f) | (have hA := nb_newD (W := W) (by first | assumption | exact IsSince.of _ | exact IsSince.self _ | exact IsSince.drew' (IsSince.of _)) hz1; have hA0 := hA.c0; have hA1 := hA.c1; have hAf := hA.f) | (replace hA := hA.to hz1; replace hA0 := hA.c0; replace hA1 := hA.c1; replace hAf := hA.f) | skip) | ((with_reducible refine (Ha1.out _ (by assumption)).mono ?_); rintro _ _ ⟨rfl, z2, rfl, hz2⟩; first | (have hA := nb_new (W := W) (by first | assumption | exact IsSince.of _ | exact IsSince.self _ | exact IsSince.drew' (IsSince.of _)) hz2; have hA0 := hA.c0; have hA1 := hA.c1; have hAf := hA.f) | (have hA := nb_newD (W := W) (by first | assumption | exact IsSince.of _ | exact IsSince.self _ | exact IsSince.drew' (IsSince.of _)) hz2; have hA0 := hA.c0; have hA1 := hA.c1; have hAf := hA.f) | (replace hA := hA.to hz2; replace hA0 := hA.c0; replace hA1 := hA.c1; replace hAf := hA.f) | skip))) | (go_at_call 45; (first | ((with_reducible refine (Hq0.out _ (by assumption)).mono ?_); rintro _ _ ⟨rfl, z3, rfl, hz3⟩; first | (have hA := nb_new (W := W) (by first | assumption | exact IsSince.of _ | exact IsSince.self _ | exact IsSince.drew' (IsSince.of _)) hz3; have hA0 := hA.c0; have hA1 := hA.c1; have hAf := hA.f) | (have hA := nb_newD (W := W) (by first | assumption | exact IsSince.of _ | exact IsSince.self _ | exact IsSince.drew' (IsSince.of _)) hz3; have hA0 := hA.c0; have hA1 := hA.c1; have hAf := hA.f) | (replace hA := hA.to hz3; replace hA0 := hA.c0; replace hA1 := hA.c1; replace hAf := hA.f) | skip) | ((with_reducible refine (Hq1.out _ (by assumption)).mono ?_); rintro _ _ ⟨rfl, z4, rfl, hz4⟩; first | (have hA := nb_new (W := W) (by first | assumption | exact IsSince.of _ | exact IsSince.self _ | exact IsSince.drew' (IsSince.of _)) hz4; have hA0 := hA.c0; have hA1 := hA.c1; have hAf := hA.f) | (have hA := nb_newD (W := W) (by first | assumption | exact IsSince.of _ | exact IsSince.self _ | exact IsSince.drew' (IsSince.of _)) hz4; have hA0 := hA.c0; have hA1 := hA.c1; have hAf := hA.f) | (replace hA := hA.to hz4; replace hA0 := hA.c0; replace hA1 := hA.c1; replace hAf := hA.f) | skip))))
    all_goals
      go_wp2_with fail
      go_meet
      first
        | (obtain ⟨y5, hgb, h1, h2, h3⟩ := box_late z4 (.int .i64 (pickV r.s0 r.s1 m0)) (.int .i64 (pickV r.e0 r.e1 m1)) 31; exact ⟨_, y5, rfl, hgb, h1, h2, h3⟩)
        | (obtain ⟨y5, hgb, h1, h2, h3⟩ := box_early z4 hA (.int .i64 (pickV r.s0 r.s1 m0)) (.int .i64 (pickV r.e0 r.e1 m1)); exact ⟨_, y5, rfl, hgb, h1, h2, h3⟩)
  case rest =>
    obtain ⟨g7, Y, rfl, hg7, rfl, c0, c1⟩ := hcut
    have hgne : g7 ≠ bx + 1 := by have := Hbx.out; omega
    have hbY : bx + 1 < Y.w.heap.size := by have := Hbx.out; have := Y.b.size; omega
    have hf := pickV_in (n := m0) s2
    have ht := pickV_in (n := m1) e2
    generalize pickV r.s0 r.s1 m0 = vf at *
    generalize pickV r.e0 r.e1 m1 = vt at *
    clear HV Ha0 Ha1 Hq0 Hq1 k2 k3 k4 k5 Hv0 Hv1 hm0 hm1
    have hst : ∃ zz : Since W, Y.w = zz.w := ⟨Y, rfl⟩
    have k8 := Since.cellTo hst H8.out
    have R0 := Since.cellTo hst hb1_0
    have R1 := Since.cellTo hst hb1_1
    have Rf : ∀ (q : Since Y.w) (o : Nat), q.w.frozen? ⟨bx + 1, o, none⟩ = false := fun q o => by obtain ⟨z, e⟩ := Y.trans q; rw [e]; exact hf1 z o
    replace HPs := Lib.hid (HPs.out.to hst)
    replace HM := Lib.hid (HM.out.to hst)
    have HUY := Lib.hid (show ∀ q : Since Y.w, ∃ z : Since w, q.w = z.w from fun q => by obtain ⟨z, e⟩ := Y.trans q; rw [e]; exact Hup.out z)
    have Hbase := Lib.hid (show w.heap.size ≤ bx + 1 by have := Hbx.out; omega)
    have HPno := Lib.hid (fun z : Since w => show TruRes w r (.returned (.tuple #[.agg #[.int .i64 vf, .int .i64 vt], .slice none 0 0, .bool false])) z.w from ⟨⟨vf, vt⟩, none, 0, [], false, z, rfl, rfl, els_nil _ _, fun h => by cases h⟩)
    have HPyes := Lib.hid (fun (z : Since w) (a : Option Addr) (cap : Nat) (T : List Win) (ok : Bool) (hT : WinRow z.w a T) (hok : ok = true → TruOk r ⟨vf, vt⟩ T) => show TruRes w r (.returned (.tuple #[.agg #[.int .i64 vf, .int .i64 vt], .slice a T.length cap, .bool ok])) z.w from ⟨⟨vf, vt⟩, a, cap, T, ok, z, rfl, rfl, hT, hok⟩)
    generalize TruRes w r = PO at *
    obtain ⟨n, hn⟩ : ∃ n, n = ps.length := ⟨_, rfl⟩
    rw [← hn] at k8 ⊢
    have hn2 : n ≤ 512 := by have := Hr.out.pn; rw [Hps.out] at this; omega
    have Hn := Lib.hid hn
    clear hn H8 hb1_0 hb1_1 hf1 hst Hup Hbx
    obtain ⟨q0, hq0⟩ := Since.refl Y.w
    rw [hq0]
    clear hq0
    go_wp2_with fail
    go_loopw [8, 9, 10] (fun sl sp si wr => ∃ (k : Nat) (T : List Win) (last : Int) (y : Since Y.w), k ≤ n ∧ si = .int .i64 k ∧ sl = .int .i64 last ∧ wr = y.w ∧ y.w.ownsRow Y.w.heap.size 31 2 sp k (flat Win.cs T) ∧ Tru vf (ps.take k) T last) (fun _ _ si _ => n - (intOf si).toNat)
    case atStart => exact ⟨0, [], vf, q0, by omega, rfl, rfl, rfl, ⟨rfl, .inl ⟨rfl, rfl⟩⟩, tru_start vf⟩
    case round =>
      obtain ⟨k, T, last, y, hk, rfl, rfl, rfl, hown, hT⟩ := hrel
      have Hown := Lib.hid hown; have HT := Lib.hid hT
      clear hown hT
      by_cases hlt : k < n
      · obtain ⟨e, he⟩ : ∃ e, ps[k]? = some e := ⟨_, List.getElem?_eq_getElem (by have := Hn.out; omega)⟩
        obtain ⟨p1, p2, p3, p4, p5, p6, _⟩ := Hr.out.p e (by rw [Hps.out]; exact List.mem_of_getElem? he)
        have hk0 : (0 : Int) ≤ (k : Int) := by omega
        have hkl : (k : Int) < (n : Int) := by omega
        have Htk := Lib.hid (show ps.take (k + 1) = ps.take k ++ [e] by rw [List.take_add_one, he]; rfl)
        obtain ⟨b1, off1, rfl, h1'⟩ := Els.pse (Since.els HPs.out y) he
        have j0 := fun w' (h : IsSince y.w w') => IsSince.cell h1'.c0 h
        have j1 := fun w' (h : IsSince y.w w') => IsSince.cell h1'.c1 h
        have j2 := fun w' (h : IsSince y.w w') => IsSince.cell h1'.c2 h
        have j3 := fun w' (h : IsSince y.w w') => IsSince.cell h1'.c3 h
        have j8 := fun w' (h : IsSince y.w w') => IsSince.cell (Since.cellTo ⟨y, rfl⟩ k8) h
        have w1 : IntKind.i64.wrap (2 * (k : Int)) = 2 * (k : Int) := IntWalk.i64_in _ (by omega)
        have w2 : IntKind.i64.wrap (2 * (k : Int) + 2) = 2 * (k : Int) + 2 := IntWalk.i64_in _ (by omega)
        have w3 : IntKind.i64.wrap (2 * (k : Int) + 3) = 2 * (k : Int) + 3 := IntWalk.i64_in _ (by omega)
        have hm2 := Hp.out (2 * k + 2)
        have hm3 := Hp.out (2 * k + 3)
        have HMy := Lib.hid (HM.out.to ⟨y, rfl⟩)
        have Ha0 := Lib.hid (fun (w' : World) (hw : IsSince y.w w') => at_s (W := y.w) w' hw a l c (2 * k + 2) (2 * (k : Int) + 2) HMy.out hl (by omega) (by omega))
        have Ha1 := Lib.hid (fun (w' : World) (hw : IsSince y.w w') => at_s (W := y.w) w' hw a l c (2 * k + 3) (2 * (k : Int) + 3) HMy.out hl (by omega) (by omega))
        generalize at0 l (2 * k + 2) = m2 at *
        generalize at0 l (2 * k + 3) = m3 at *
        have Hq0 := Lib.hid (fun (w' : World) (hw : IsSince y.w w') => pick_s (W := y.w) w' hw e.f0 e.f1 m2 (by omega) (by omega) (by omega) hm2.1 hm2.2)
        have Hq1 := Lib.hid (fun (w' : World) (hw : IsSince y.w w') => pick_s (W := y.w) w' hw e.t0 e.t1 m3 (by omega) (by omega) (by omega) hm3.1 hm3.2)
        clear h1' he hm2 hm3
        go_upto_region 7 with fail
        go_cut [11] (fun s11 wr => ∃ (g : Nat) (y5 : Since y.w), s11 = .pointer (some ⟨g, 0, none⟩) ∧ y.w.heap.size ≤ g ∧ wr = y5.w ∧ (∀ q : Since y5.w, q.w.cell? ⟨g, 0, none⟩ = some (.int .i64 (pickV e.f0 e.f1 m2))) ∧ (∀ q : Since y5.w, q.w.cell? ⟨g, 1, none⟩ = some (.int .i64 (pickV e.t0 e.t1 m3))))
        case first =>
          go_region_held3 (fun w' => IsSince y.w w') (first | assumption | exact IsSince.of _ | exact IsSince.drew' (IsSince.self _) | exact IsSince.drew' (IsSince.of _) | exact IsSince.alloc (IsSince.of _) _ | exact IsSince.alloc (IsSince.drew' (IsSince.self _)) _ | exact IsSince.alloc (by assumption) _ | exact hA.set (IsSince.of _) _ _) (first | (go_at_call 34; (first | ((with_reducible refine (Ha0.out _ (by assumption)).mono ?_); rintro _ _ ⟨rfl, z1, rfl, hz1⟩; first | (have hA := nb_new (W := y.w) (by first | assumption | exact IsSince.of _ | exact IsSince.self _ | exact IsSince.drew' (IsSince.of _)) hz1; have hA0 := hA.c0; have hA1 := hA.c1; have hAf := hA.f) | (have hA := nb_newD (W := y.w) (by first | assumption | exact IsSince.of _ | exact IsSince.self _ | exact IsSince.drew' (IsSince.of _)) hz1; have hA0 := hA.c0; have hA1 := hA.c1; have hAf := hA.f) | (replace hA := hA.to hz1; replace hA0 := hA.c0; replace hA1 := hA.c1; replace hAf := hA.f) | skip) | ((with_reducible refine (Ha1.out _ (by assumption)).mono ?_); rintro _ _ ⟨rfl, z2, rfl, hz2⟩; first | (have hA := nb_new (W := y.w) (by first | assumption | exact IsSince.of _ | exact IsSince.self _ | exact IsSince.drew' (IsSince.of _)) hz2; have hA0 := hA.c0; have hA1 := hA.c1; have hAf := hA.f) | (have hA := nb_newD (W := y.w) (by first | assumption | exact IsSince.of _ | exact IsSince.self _ | exact IsSince.drew' (IsSince.of _)) hz2; have hA0 := hA.c0; have hA1 := hA.c1; have hAf := hA.f) | (replace hA := hA.to hz2; replace hA0 := hA.c0; replace hA1 := hA.c1; replace hAf := hA.f) | skip))) | (go_at_call 45; (first | ((with_reducible refine (Hq0.out _ (by assumption)).mono ?_); rintro _ _ ⟨rfl, z3, rfl, hz3⟩; first | (have hA := nb_new (W := y.w) (by first | assumption | exact IsSince.of _ | exact IsSince.self _ | exact IsSince.drew' (IsSince.of _)) hz3; have hA0 := hA.c0; have hA1 := hA.c1; have hAf := hA.f) | (have hA := nb_newD (W := y.w) (by first | assumption | exact IsSince.of _ | exact IsSince.self _ | exact IsSince.drew' (IsSince.of _)) hz3; have hA0 := hA.c0; have hA1 := hA.c1; have hAf := hA.f) | (replace hA := hA.to hz3; replace hA0 := hA.c0; replace hA1 := hA.c1; replace hAf := hA.f) | skip) | ((with_reducible refine (Hq1.out _ (by assumption)).mono ?_); rintro _ _ ⟨rfl, z4, rfl, hz4⟩; first | (have hA := nb_new (W := y.w) (by first | assumption | exact IsSince.of _ | exact IsSince.self _ | exact IsSince.drew' (IsSince.of _)) hz4; have hA0 := hA.c0; have hA1 := hA.c1; have hAf := hA.f) | (have hA := nb_newD (W := y.w) (by first | assumption | exact IsSince.of _ | exact IsSince.self _ | exact IsSince.drew' (IsSince.of _)) hz4; have hA0 := hA.c0; have hA1 := hA.c1; have hAf := hA.f) | (replace hA := hA.to hz4; replace hA0 := hA.c0; replace hA1 := hA.c1; replace hAf := hA.f) | skip))))
          all_goals
            go_wp2_with fail
            go_meet
            first
              | (obtain ⟨y5, hgb, h1, h2, h3⟩ := box_late z4 (.int .i64 (pickV e.f0 e.f1 m2)) (.int .i64 (pickV e.t0 e.t1 m3)) 31; exact ⟨_, y5, rfl, hgb, h1, h2, h3⟩)
              | (obtain ⟨y5, hgb, h1, h2, h3⟩ := box_early z4 hA (.int .i64 (pickV e.f0 e.f1 m2)) (.int .i64 (pickV e.t0 e.t1 m3)); exact ⟨_, y5, rfl, hgb, h1, h2, h3⟩)
        case rest =>
          obtain ⟨g11, y5, rfl, _, rfl, x0, x1⟩ := hcut
          have hxf := pickV_in (n := m2) p2
          have hxt := pickV_in (n := m3) p5
          generalize pickV e.f0 e.f1 m2 = xf at *
          generalize pickV e.t0 e.t1 m3 = xt at *
          obtain ⟨y6, h6⟩ := y.trans y5
          have hst : ∃ zz : Since Y.w, y5.w = zz.w := ⟨y6, h6⟩
          have c0' := Since.cellTo hst c0
          have c1' := Since.cellTo hst c1
          have R0' := Since.cellTo hst R0
          have R1' := Since.cellTo hst R1
          have Rf' : ∀ (q : Since y5.w) (o : Nat), q.w.frozen? ⟨bx + 1, o, none⟩ = false := fun q o => by obtain ⟨z, e⟩ := y5.trans q; obtain ⟨z2, e2⟩ := y.trans z; rw [e, e2]; exact Rf z2 o
          have HU5 := Lib.hid (show ∀ q : Since y5.w, ∃ z : Since w, q.w = z.w from fun q => by obtain ⟨z, e⟩ := y5.trans q; obtain ⟨z2, e2⟩ := y.trans z; rw [e, e2]; exact HUY.out z2)
          have H6 := Lib.hid h6
          have Hown5 := Lib.hid (own_to Hown.out (⟨y5, rfl⟩ : ∃ zz : Since y.w, y5.w = zz.w))
          clear j0 j1 j2 j3 j8 w1 w2 w3 Ha0 Ha1 Hq0 Hq1 h6 hst Hown
          obtain ⟨q5, hq0⟩ := Since.refl y5.w
          rw [hq0]
          clear hq0
          rcases (by omega : xf < last ∨ (last ≤ xf ∧ xt < xf) ∨ (last ≤ xf ∧ xf ≤ xt)) with hc | ⟨hc, hc2⟩ | ⟨hc, hc2⟩
          case inl =>
            go_wp2_with fail
            obtain ⟨z, hz, h0, h1⟩ := set_two q5 (R0' q5) (R1' q5) (HU5.out q5) Hbase.out (.int .i64 vf) (.int .i64 vt)
            rw [hz]
            exact bodyPost_ret (v := .tuple #[.agg #[.int .i64 vf, .int .i64 vt], .slice none 0 0, .bool false]) (by simp [results, Try.results26, go_sem, h0, h1]) rfl (HPno.out z)
          case inr.inl =>
            go_wp2_with fail
            obtain ⟨z, hz, h0, h1⟩ := set_two q5 (R0' q5) (R1' q5) (HU5.out q5) Hbase.out (.int .i64 vf) (.int .i64 vt)
            rw [hz]
            exact bodyPost_ret (v := .tuple #[.agg #[.int .i64 vf, .int .i64 vt], .slice none 0 0, .bool false]) (by simp [results, Try.results26, go_sem, h0, h1]) rfl (HPno.out z)
          case inr.inr =>
            have Hstep := Lib.hid (show Tru vf (ps.take (k + 1)) (T ++ [⟨xf, xt⟩]) xt by rw [Htk.out]; exact HT.out.step (p := e) (x := ⟨xf, xt⟩) ⟨hxf.1, hxf.2, hxt.1, hxt.2⟩ hc hc2)
            go_wp2_with (at_builtin; (refine wpList_appendK (w0 := Y.w) ?hw rfl _ _ 35 rfl Y.w.heap.size (Nat.le_refl _) ?hb 31 (.agg #[.int .i64 0, .int .i64 0]) 16 sWin u9 k (flat Win.cs T) rfl ?hown ⟨q5.w.heap.size, 0, none⟩ 1 1 (⟨xf, xt⟩ : Win).cs rfl rfl ?hc (win_one _) ?h63 ?hbytes ?_; rotate_right 1; intro v2 q2 hown4 _ hg4))
            case hw => obtain ⟨yz, hyz⟩ := y5.trans q5; rw [hyz]; obtain ⟨yq, hyq⟩ := y.trans yz; rw [hyq]; exact IsSince.alloc (IsSince.of yq) _
            case hb => have := y.b.size; have := y5.b.size; have := q5.b.size; simp; omega
            case hown => exact own_to (own_to Hown5.out ⟨q5, rfl⟩) (IsSince.alloc (IsSince.self _) _)
            case hc => exact cell_new_at q5.w (⟨xf, xt⟩ : Win).cs _
            case h63 => unfold maxLen; omega
            case hbytes => omega
            rw [← flat_one Win.cs (⟨xf, xt⟩ : Win), ← flat_append] at hown4
            have Hown4 := Lib.hid hown4
            clear hown4 hg4
            go_wp2_with fail
            go_roundw
            case rel => exact ⟨k + 1, T ++ [⟨xf, xt⟩], xt, q2, by omega, by go_num, rfl, rfl, Hown4.out, Hstep.out⟩
            case measure => simp [intOf] <;> omega
      · obtain rfl : k = n := by omega
        have HT2 := Lib.hid (show Tru vf r.pauses T last by have h := HT.out; rw [List.take_of_length_le (by have := Hn.out; omega)] at h; rw [Hps.out]; exact h)
        have hvb : (r.s0 ≤ vf ∧ vf ≤ r.s1) ∧ (r.e0 ≤ vt ∧ vt ≤ r.e1) := ⟨hf, ht⟩
        obtain ⟨hlen1, a5, c5, rfl, hc5, he5, hb5, _⟩ := own_els Win.len (by decide) Hown.out
        have hst : ∃ zz : Since Y.w, y.w = zz.w := ⟨y, rfl⟩
        have c0' := Since.cellTo hst c0
        have c1' := Since.cellTo hst c1
        have R0' := Since.cellTo hst R0
        have R1' := Since.cellTo hst R1
        have Rf' : ∀ (q : Since y.w) (o : Nat), q.w.frozen? ⟨bx + 1, o, none⟩ = false := fun q o => by obtain ⟨z, e⟩ := y.trans q; rw [e]; exact Rf z o
        have k0 : y.w.cell? ⟨g7, 0, none⟩ = some (.int .i64 vf) := c0' (Since.self _)
        have k1 : y.w.cell? ⟨g7, 1, none⟩ = some (.int .i64 vt) := c1' (Since.self _)
        have l0 : y.w.cell? ⟨bx + 1, 0, none⟩ = some (.int .i64 0) := R0' (Since.self _)
        have l1 : y.w.cell? ⟨bx + 1, 1, none⟩ = some (.int .i64 0) := R1' (Since.self _)
        have lf : ∀ o, y.w.frozen? ⟨bx + 1, o, none⟩ = false := fun o => Rf' (Since.self _) o
        have t0 : ((y.w.setCell ⟨bx + 1, 0, none⟩ (.int .i64 vf)).setCell ⟨bx + 1, 1, none⟩ (.int .i64 vt)).drew.cell? ⟨g7, 0, none⟩ = some (.int .i64 vf) := by
          show ((y.w.setCell ⟨bx + 1, 0, none⟩ (.int .i64 vf)).setCell ⟨bx + 1, 1, none⟩ (.int .i64 vt)).cell? ⟨g7, 0, none⟩ = _
          rw [far_cell hgne, far_cell hgne, k0]
        have t1 : ((y.w.setCell ⟨bx + 1, 0, none⟩ (.int .i64 vf)).setCell ⟨bx + 1, 1, none⟩ (.int .i64 vt)).drew.cell? ⟨g7, 1, none⟩ = some (.int .i64 vt) := by
          show ((y.w.setCell ⟨bx + 1, 0, none⟩ (.int .i64 vf)).setCell ⟨bx + 1, 1, none⟩ (.int .i64 vt)).cell? ⟨g7, 1, none⟩ = _
          rw [far_cell hgne, far_cell hgne, k1]
        have Hne := Lib.hid (show ∀ x, a5 = some x → x.block ≠ bx + 1 from fun x hx => by have := hb5 x hx; omega)
        have He5 := Lib.hid he5
        clear hb5 he5 hc5 hlen1 hst c0 c1 R0 R1 Rf c0' c1' R0' R1' Rf'
        rcases Decidable.em (last ≤ vt) with hc | hc
        · have hb : decide (last ≤ vt) = true := decide_eq_true hc
          have Hok := Lib.hid (show true = true → TruOk r ⟨vf, vt⟩ T from fun _ => ⟨hvb.1, hvb.2, last, HT2.out, hc⟩)
          clear hc
          go_wp2_with fail
          go_region_held3 (fun w' => w'.cell? ⟨g7, 0, none⟩ = some (.int .i64 vf) ∧ w'.cell? ⟨g7, 1, none⟩ = some (.int .i64 vt)) (first | assumption | go_keep) (fail)
          obtain ⟨u0, hu0⟩ := HUY.out y
          have He6 := He5.out
          rw [hu0] at l0 l1 He6 ⊢
          obtain ⟨z, hz, h0, h1, hrow⟩ := end_two u0 Hbase.out l0 l1 (.int .i64 vf) (.int .i64 vt) He6 Hne.out
          rw [hz]
          have Hfin := Lib.hid (HPyes.out z a5 c5 T true hrow (fun _ => Hok.out (by first | trivial | rfl)))
          clear hz hrow l0 l1 He6 hu0 t0 t1 k0 k1 lf
          go_wp2_with fail
          exact bodyPost_ret (v := .tuple #[.agg #[.int .i64 vf, .int .i64 vt], .slice a5 T.length c5, .bool true]) (by simp [results, Try.results26, go_sem, h0, h1]) rfl Hfin.out
        · have hb : decide (last ≤ vt) = false := decide_eq_false hc
          have Hok := Lib.hid (show false = true → TruOk r ⟨vf, vt⟩ T from fun h => by cases h)
          clear hc
          go_wp2_with fail
          go_region_held3 (fun w' => w'.cell? ⟨g7, 0, none⟩ = some (.int .i64 vf) ∧ w'.cell? ⟨g7, 1, none⟩ = some (.int .i64 vt)) (first | assumption | go_keep) (fail)
          obtain ⟨u0, hu0⟩ := HUY.out y
          have He6 := He5.out
          rw [hu0] at l0 l1 He6 ⊢
          obtain ⟨z, hz, h0, h1, hrow⟩ := end_two u0 Hbase.out l0 l1 (.int .i64 vf) (.int .i64 vt) He6 Hne.out
          rw [hz]
          have Hfin := Lib.hid (HPyes.out z a5 c5 T false hrow (fun h => by cases h))
          clear hz hrow l0 l1 He6 hu0 t0 t1 k0 k1 lf
          go_wp2_with fail
          exact bodyPost_ret (v := .tuple #[.agg #[.int .i64 vf, .int .i64 vt], .slice a5 T.length c5, .bool false]) (by simp [results, Try.results26, go_sem, h0, h1]) rfl Hfin.out
end Go.Proofs.Ytefodfpnedcodaa
/- The law IntervalFair, walked. -/
namespace Go.Proofs.Ytefodfpnedcodaa
open Go.RowKit

theorem cnt_range (S : Int → Bool) : ∀ n : Nat, 0 ≤ cnt S n ∧ cnt S n ≤ n
  | 0 => ⟨Int.le_refl _, Int.le_refl _⟩
  | n + 1 => by
    have := cnt_range S n
    simp only [cnt]
    split <;> omega
theorem lenS_range (S : Int → Bool) : 0 ≤ lenS S ∧ lenS S ≤ 4294944000 := by
  rw [lenS_eq]; exact cnt_range S 4294944000
theorem rlength_g {W : World} (w' : World) (hw : IsSince W w') (a : Option Addr) (l : List Win) (c : Nat) (hg : badW l = false) (hr : WinRow w' a l) (hl : l.length ≤ 100000) : Calls Try.prog 29 #[.slice a l.length c] w' (IntResS W w' (lenS (hasW l)) 0) := by
  refine (rlength_calls w' (Since.self w') a l c hr hl).mono ?_
  rintro _ _ ⟨u, y, rfl, rfl, hu⟩
  obtain ⟨z, hz⟩ := hw
  subst hz
  obtain ⟨v, hv⟩ := z.trans y
  exact ⟨by rw [(hu.ok hg).lenS, show unE l = 0 by unfold unE; rw [hg]; rfl], v, hv, y, hv.symm⟩
set_option maxRecDepth 100000 in
set_option maxHeartbeats 8000000 in
theorem intervalFair_calls (w : World) (x : Since w) (r : Ride) (a : Option Addr) (l : List Int) (c : Nat) (h : r.At w) (hm : U16Row w a l) (hl : l.length ≤ 9223372036854775807) (hp : ∀ i, 0 ≤ at0 l i ∧ at0 l i ≤ 65535) :
    Calls Try.prog 5 #[.agg #[.int .i64 r.id, .int .i64 r.rd, .int .i64 r.s0, .int .i64 r.s1, .int .i64 r.e0, .int .i64 r.e1, .bool r.op, .slice r.la r.legs.length r.lc, .slice r.pa r.pauses.length r.pc, .int .i64 r.fw, .int .i64 r.fp, .int .i64 r.wh, .int .i64 r.pl], .slice a l.length c] x.w fun o w' => o = .returned (.bool true) ∧ ∃ y : Since w, w' = y.w := by
  have H := Lib.hid h
  clear h
  have HM := Lib.hid hm
  have Htr := Lib.hid (fun (he : ivE r = 0) (w : World) (x : Since w) (h : r.At w) (hm : U16Row w a l) => truth_calls w x r a l c h he hm hl hp)
  clear hm hp
  have Hf := Lib.hid (fun (w : World) (x : Since w) (h : r.At w) => few23_calls w x r h)
  have Hk := Lib.hid (fun (w : World) (x : Since w) (h : r.At w) => rcheck23_calls w x r h)
  have Hfew := Lib.hid (show few23 r = (decide (r.legs.length ≤ 100) && decide (r.pauses.length ≤ 100)) from rfl)
  cases hfw : few23 r with
  | false =>
    rw [hfw] at Hf
    clear hfw Hk
    go_enter Try.func5, Try.ntmps5
    go_upto_region 1 with fail
    have hb0_0 : ∀ y : Since (x.w.alloc (.cells #[.int .i64 r.id, .int .i64 r.rd, .int .i64 r.s0, .int .i64 r.s1, .int .i64 r.e0, .int .i64 r.e1, .bool r.op, .slice r.la r.legs.length r.lc, .slice r.pa r.pauses.length r.pc, .int .i64 r.fw, .int .i64 r.fp, .int .i64 r.wh, .int .i64 r.pl] 27)), y.w.cell? ⟨x.w.heap.size, 0, none⟩ = some (.int .i64 r.id) := fun y => Since.cell (by simp [go_sem]) (by first | (simp; done) | (simp; omega)) y
    have hb0_1 : ∀ y : Since (x.w.alloc (.cells #[.int .i64 r.id, .int .i64 r.rd, .int .i64 r.s0, .int .i64 r.s1, .int .i64 r.e0, .int .i64 r.e1, .bool r.op, .slice r.la r.legs.length r.lc, .slice r.pa r.pauses.length r.pc, .int .i64 r.fw, .int .i64 r.fp, .int .i64 r.wh, .int .i64 r.pl] 27)), y.w.cell? ⟨x.w.heap.size, 1, none⟩ = some (.int .i64 r.rd) := fun y => Since.cell (by simp [go_sem]) (by first | (simp; done) | (simp; omega)) y
    have hb0_2 : ∀ y : Since (x.w.alloc (.cells #[.int .i64 r.id, .int .i64 r.rd, .int .i64 r.s0, .int .i64 r.s1, .int .i64 r.e0, .int .i64 r.e1, .bool r.op, .slice r.la r.legs.length r.lc, .slice r.pa r.pauses.length r.pc, .int .i64 r.fw, .int .i64 r.fp, .int .i64 r.wh, .int .i64 r.pl] 27)), y.w.cell? ⟨x.w.heap.size, 2, none⟩ = some (.int .i64 r.s0) := fun y => Since.cell (by simp [go_sem]) (by first | (simp; done) | (simp; omega)) y
    have hb0_3 : ∀ y : Since (x.w.alloc (.cells #[.int .i64 r.id, .int .i64 r.rd, .int .i64 r.s0, .int .i64 r.s1, .int .i64 r.e0, .int .i64 r.e1, .bool r.op, .slice r.la r.legs.length r.lc, .slice r.pa r.pauses.length r.pc, .int .i64 r.fw, .int .i64 r.fp, .int .i64 r.wh, .int .i64 r.pl] 27)), y.w.cell? ⟨x.w.heap.size, 3, none⟩ = some (.int .i64 r.s1) := fun y => Since.cell (by simp [go_sem]) (by first | (simp; done) | (simp; omega)) y
    have hb0_4 : ∀ y : Since (x.w.alloc (.cells #[.int .i64 r.id, .int .i64 r.rd, .int .i64 r.s0, .int .i64 r.s1, .int .i64 r.e0, .int .i64 r.e1, .bool r.op, .slice r.la r.legs.length r.lc, .slice r.pa r.pauses.length r.pc, .int .i64 r.fw, .int .i64 r.fp, .int .i64 r.wh, .int .i64 r.pl] 27)), y.w.cell? ⟨x.w.heap.size, 4, none⟩ = some (.int .i64 r.e0) := fun y => Since.cell (by simp [go_sem]) (by first | (simp; done) | (simp; omega)) y
    have hb0_5 : ∀ y : Since (x.w.alloc (.cells #[.int .i64 r.id, .int .i64 r.rd, .int .i64 r.s0, .int .i64 r.s1, .int .i64 r.e0, .int .i64 r.e1, .bool r.op, .slice r.la r.legs.length r.lc, .slice r.pa r.pauses.length r.pc, .int .i64 r.fw, .int .i64 r.fp, .int .i64 r.wh, .int .i64 r.pl] 27)), y.w.cell? ⟨x.w.heap.size, 5, none⟩ = some (.int .i64 r.e1) := fun y => Since.cell (by simp [go_sem]) (by first | (simp; done) | (simp; omega)) y
    have hb0_6 : ∀ y : Since (x.w.alloc (.cells #[.int .i64 r.id, .int .i64 r.rd, .int .i64 r.s0, .int .i64 r.s1, .int .i64 r.e0, .int .i64 r.e1, .bool r.op, .slice r.la r.legs.length r.lc, .slice r.pa r.pauses.length r.pc, .int .i64 r.fw, .int .i64 r.fp, .int .i64 r.wh, .int .i64 r.pl] 27)), y.w.cell? ⟨x.w.heap.size, 6, none⟩ = some (.bool r.op) := fun y => Since.cell (by simp [go_sem]) (by first | (simp; done) | (simp; omega)) y
    have hb0_7 : ∀ y : Since (x.w.alloc (.cells #[.int .i64 r.id, .int .i64 r.rd, .int .i64 r.s0, .int .i64 r.s1, .int .i64 r.e0, .int .i64 r.e1, .bool r.op, .slice r.la r.legs.length r.lc, .slice r.pa r.pauses.length r.pc, .int .i64 r.fw, .int .i64 r.fp, .int .i64 r.wh, .int .i64 r.pl] 27)), y.w.cell? ⟨x.w.heap.size, 7, none⟩ = some (.slice r.la r.legs.length r.lc) := fun y => Since.cell (by simp [go_sem]) (by first | (simp; done) | (simp; omega)) y
    have hb0_8 : ∀ y : Since (x.w.alloc (.cells #[.int .i64 r.id, .int .i64 r.rd, .int .i64 r.s0, .int .i64 r.s1, .int .i64 r.e0, .int .i64 r.e1, .bool r.op, .slice r.la r.legs.length r.lc, .slice r.pa r.pauses.length r.pc, .int .i64 r.fw, .int .i64 r.fp, .int .i64 r.wh, .int .i64 r.pl] 27)), y.w.cell? ⟨x.w.heap.size, 8, none⟩ = some (.slice r.pa r.pauses.length r.pc) := fun y => Since.cell (by simp [go_sem]) (by first | (simp; done) | (simp; omega)) y
    have hb0_9 : ∀ y : Since (x.w.alloc (.cells #[.int .i64 r.id, .int .i64 r.rd, .int .i64 r.s0, .int .i64 r.s1, .int .i64 r.e0, .int .i64 r.e1, .bool r.op, .slice r.la r.legs.length r.lc, .slice r.pa r.pauses.length r.pc, .int .i64 r.fw, .int .i64 r.fp, .int .i64 r.wh, .int .i64 r.pl] 27)), y.w.cell? ⟨x.w.heap.size, 9, none⟩ = some (.int .i64 r.fw) := fun y => Since.cell (by simp [go_sem]) (by first | (simp; done) | (simp; omega)) y
    have hb0_10 : ∀ y : Since (x.w.alloc (.cells #[.int .i64 r.id, .int .i64 r.rd, .int .i64 r.s0, .int .i64 r.s1, .int .i64 r.e0, .int .i64 r.e1, .bool r.op, .slice r.la r.legs.length r.lc, .slice r.pa r.pauses.length r.pc, .int .i64 r.fw, .int .i64 r.fp, .int .i64 r.wh, .int .i64 r.pl] 27)), y.w.cell? ⟨x.w.heap.size, 10, none⟩ = some (.int .i64 r.fp) := fun y => Since.cell (by simp [go_sem]) (by first | (simp; done) | (simp; omega)) y
    have hb0_11 : ∀ y : Since (x.w.alloc (.cells #[.int .i64 r.id, .int .i64 r.rd, .int .i64 r.s0, .int .i64 r.s1, .int .i64 r.e0, .int .i64 r.e1, .bool r.op, .slice r.la r.legs.length r.lc, .slice r.pa r.pauses.length r.pc, .int .i64 r.fw, .int .i64 r.fp, .int .i64 r.wh, .int .i64 r.pl] 27)), y.w.cell? ⟨x.w.heap.size, 11, none⟩ = some (.int .i64 r.wh) := fun y => Since.cell (by simp [go_sem]) (by first | (simp; done) | (simp; omega)) y
    have hb0_12 : ∀ y : Since (x.w.alloc (.cells #[.int .i64 r.id, .int .i64 r.rd, .int .i64 r.s0, .int .i64 r.s1, .int .i64 r.e0, .int .i64 r.e1, .bool r.op, .slice r.la r.legs.length r.lc, .slice r.pa r.pauses.length r.pc, .int .i64 r.fw, .int .i64 r.fp, .int .i64 r.wh, .int .i64 r.pl] 27)), y.w.cell? ⟨x.w.heap.size, 12, none⟩ = some (.int .i64 r.pl) := fun y => Since.cell (by simp [go_sem]) (by first | (simp; done) | (simp; omega)) y
    have hf0 : ∀ (y : Since (x.w.alloc (.cells #[.int .i64 r.id, .int .i64 r.rd, .int .i64 r.s0, .int .i64 r.s1, .int .i64 r.e0, .int .i64 r.e1, .bool r.op, .slice r.la r.legs.length r.lc, .slice r.pa r.pauses.length r.pc, .int .i64 r.fw, .int .i64 r.fp, .int .i64 r.wh, .int .i64 r.pl] 27))) (o : Nat), y.w.frozen? ⟨x.w.heap.size, o, none⟩ = false := fun y o => Since.free (by simp [go_sem]) (by first | (simp; done) | (simp; omega)) y
    have hWup : ∃ z : Since w, (x.w.alloc (.cells #[.int .i64 r.id, .int .i64 r.rd, .int .i64 r.s0, .int .i64 r.s1, .int .i64 r.e0, .int .i64 r.e1, .bool r.op, .slice r.la r.legs.length r.lc, .slice r.pa r.pauses.length r.pc, .int .i64 r.fw, .int .i64 r.fp, .int .i64 r.wh, .int .i64 r.pl] 27)) = z.w := x.alloc _
    obtain ⟨y0, hy0⟩ := Since.refl (x.w.alloc (.cells #[.int .i64 r.id, .int .i64 r.rd, .int .i64 r.s0, .int .i64 r.s1, .int .i64 r.e0, .int .i64 r.e1, .bool r.op, .slice r.la r.legs.length r.lc, .slice r.pa r.pauses.length r.pc, .int .i64 r.fw, .int .i64 r.fp, .int .i64 r.wh, .int .i64 r.pl] 27))
    have Hbx := Lib.hid (And.intro x.b.size (show x.w.heap.size + 1 = (x.w.alloc (.cells #[.int .i64 r.id, .int .i64 r.rd, .int .i64 r.s0, .int .i64 r.s1, .int .i64 r.e0, .int .i64 r.e1, .bool r.op, .slice r.la r.legs.length r.lc, .slice r.pa r.pauses.length r.pc, .int .i64 r.fw, .int .i64 r.fp, .int .i64 r.wh, .int .i64 r.pl] 27)).heap.size from by simp))
    generalize hW : (x.w.alloc (.cells #[.int .i64 r.id, .int .i64 r.rd, .int .i64 r.s0, .int .i64 r.s1, .int .i64 r.e0, .int .i64 r.e1, .bool r.op, .slice r.la r.legs.length r.lc, .slice r.pa r.pauses.length r.pc, .int .i64 r.fw, .int .i64 r.fp, .int .i64 r.wh, .int .i64 r.pl] 27)) = W at *
    clear hW
    generalize x.w.heap.size = bx at *
    have Hup := Lib.hid (Since.up hWup)
    rw [hy0]
    clear hy0
    replace H := Lib.hid (H.out.to hWup)
    clear hWup
    go_wp2_with (first | (go_at_call 10; ((with_reducible refine (Hf.out W y0 H.out).mono ?_); rintro _ _ ⟨rfl, y1, rfl⟩)) | (go_at_call 11; ((with_reducible refine (awake_calls W y1).mono ?_); rintro _ _ ⟨rfl, yz, rfl⟩)))
    go_ret
    exact ⟨rfl, Hup.out yz⟩
  | true =>
    rw [hfw] at Hf
    have hpl : r.pauses.length ≤ 100 := by
      rw [Hfew.out, Bool.and_eq_true, decide_eq_true_eq, decide_eq_true_eq] at hfw; exact hfw.2
    have hll : r.legs.length ≤ 100 := by
      rw [Hfew.out, Bool.and_eq_true, decide_eq_true_eq, decide_eq_true_eq] at hfw; exact hfw.1
    clear hfw Hfew
    by_cases he : ivE r = 0
    case neg =>
      have hez : (ivE r != 0) = true := by simpa using he
      clear he
      go_enter Try.func5, Try.ntmps5
      go_upto_region 1 with fail
      have hb0_0 : ∀ y : Since (x.w.alloc (.cells #[.int .i64 r.id, .int .i64 r.rd, .int .i64 r.s0, .int .i64 r.s1, .int .i64 r.e0, .int .i64 r.e1, .bool r.op, .slice r.la r.legs.length r.lc, .slice r.pa r.pauses.length r.pc, .int .i64 r.fw, .int .i64 r.fp, .int .i64 r.wh, .int .i64 r.pl] 27)), y.w.cell? ⟨x.w.heap.size, 0, none⟩ = some (.int .i64 r.id) := fun y => Since.cell (by simp [go_sem]) (by first | (simp; done) | (simp; omega)) y
      have hb0_1 : ∀ y : Since (x.w.alloc (.cells #[.int .i64 r.id, .int .i64 r.rd, .int .i64 r.s0, .int .i64 r.s1, .int .i64 r.e0, .int .i64 r.e1, .bool r.op, .slice r.la r.legs.length r.lc, .slice r.pa r.pauses.length r.pc, .int .i64 r.fw, .int .i64 r.fp, .int .i64 r.wh, .int .i64 r.pl] 27)), y.w.cell? ⟨x.w.heap.size, 1, none⟩ = some (.int .i64 r.rd) := fun y => Since.cell (by simp [go_sem]) (by first | (simp; done) | (simp; omega)) y
      have hb0_2 : ∀ y : Since (x.w.alloc (.cells #[.int .i64 r.id, .int .i64 r.rd, .int .i64 r.s0, .int .i64 r.s1, .int .i64 r.e0, .int .i64 r.e1, .bool r.op, .slice r.la r.legs.length r.lc, .slice r.pa r.pauses.length r.pc, .int .i64 r.fw, .int .i64 r.fp, .int .i64 r.wh, .int .i64 r.pl] 27)), y.w.cell? ⟨x.w.heap.size, 2, none⟩ = some (.int .i64 r.s0) := fun y => Since.cell (by simp [go_sem]) (by first | (simp; done) | (simp; omega)) y
      have hb0_3 : ∀ y : Since (x.w.alloc (.cells #[.int .i64 r.id, .int .i64 r.rd, .int .i64 r.s0, .int .i64 r.s1, .int .i64 r.e0, .int .i64 r.e1, .bool r.op, .slice r.la r.legs.length r.lc, .slice r.pa r.pauses.length r.pc, .int .i64 r.fw, .int .i64 r.fp, .int .i64 r.wh, .int .i64 r.pl] 27)), y.w.cell? ⟨x.w.heap.size, 3, none⟩ = some (.int .i64 r.s1) := fun y => Since.cell (by simp [go_sem]) (by first | (simp; done) | (simp; omega)) y
      have hb0_4 : ∀ y : Since (x.w.alloc (.cells #[.int .i64 r.id, .int .i64 r.rd, .int .i64 r.s0, .int .i64 r.s1, .int .i64 r.e0, .int .i64 r.e1, .bool r.op, .slice r.la r.legs.length r.lc, .slice r.pa r.pauses.length r.pc, .int .i64 r.fw, .int .i64 r.fp, .int .i64 r.wh, .int .i64 r.pl] 27)), y.w.cell? ⟨x.w.heap.size, 4, none⟩ = some (.int .i64 r.e0) := fun y => Since.cell (by simp [go_sem]) (by first | (simp; done) | (simp; omega)) y
      have hb0_5 : ∀ y : Since (x.w.alloc (.cells #[.int .i64 r.id, .int .i64 r.rd, .int .i64 r.s0, .int .i64 r.s1, .int .i64 r.e0, .int .i64 r.e1, .bool r.op, .slice r.la r.legs.length r.lc, .slice r.pa r.pauses.length r.pc, .int .i64 r.fw, .int .i64 r.fp, .int .i64 r.wh, .int .i64 r.pl] 27)), y.w.cell? ⟨x.w.heap.size, 5, none⟩ = some (.int .i64 r.e1) := fun y => Since.cell (by simp [go_sem]) (by first | (simp; done) | (simp; omega)) y
      have hb0_6 : ∀ y : Since (x.w.alloc (.cells #[.int .i64 r.id, .int .i64 r.rd, .int .i64 r.s0, .int .i64 r.s1, .int .i64 r.e0, .int .i64 r.e1, .bool r.op, .slice r.la r.legs.length r.lc, .slice r.pa r.pauses.length r.pc, .int .i64 r.fw, .int .i64 r.fp, .int .i64 r.wh, .int .i64 r.pl] 27)), y.w.cell? ⟨x.w.heap.size, 6, none⟩ = some (.bool r.op) := fun y => Since.cell (by simp [go_sem]) (by first | (simp; done) | (simp; omega)) y
      have hb0_7 : ∀ y : Since (x.w.alloc (.cells #[.int .i64 r.id, .int .i64 r.rd, .int .i64 r.s0, .int .i64 r.s1, .int .i64 r.e0, .int .i64 r.e1, .bool r.op, .slice r.la r.legs.length r.lc, .slice r.pa r.pauses.length r.pc, .int .i64 r.fw, .int .i64 r.fp, .int .i64 r.wh, .int .i64 r.pl] 27)), y.w.cell? ⟨x.w.heap.size, 7, none⟩ = some (.slice r.la r.legs.length r.lc) := fun y => Since.cell (by simp [go_sem]) (by first | (simp; done) | (simp; omega)) y
      have hb0_8 : ∀ y : Since (x.w.alloc (.cells #[.int .i64 r.id, .int .i64 r.rd, .int .i64 r.s0, .int .i64 r.s1, .int .i64 r.e0, .int .i64 r.e1, .bool r.op, .slice r.la r.legs.length r.lc, .slice r.pa r.pauses.length r.pc, .int .i64 r.fw, .int .i64 r.fp, .int .i64 r.wh, .int .i64 r.pl] 27)), y.w.cell? ⟨x.w.heap.size, 8, none⟩ = some (.slice r.pa r.pauses.length r.pc) := fun y => Since.cell (by simp [go_sem]) (by first | (simp; done) | (simp; omega)) y
      have hb0_9 : ∀ y : Since (x.w.alloc (.cells #[.int .i64 r.id, .int .i64 r.rd, .int .i64 r.s0, .int .i64 r.s1, .int .i64 r.e0, .int .i64 r.e1, .bool r.op, .slice r.la r.legs.length r.lc, .slice r.pa r.pauses.length r.pc, .int .i64 r.fw, .int .i64 r.fp, .int .i64 r.wh, .int .i64 r.pl] 27)), y.w.cell? ⟨x.w.heap.size, 9, none⟩ = some (.int .i64 r.fw) := fun y => Since.cell (by simp [go_sem]) (by first | (simp; done) | (simp; omega)) y
      have hb0_10 : ∀ y : Since (x.w.alloc (.cells #[.int .i64 r.id, .int .i64 r.rd, .int .i64 r.s0, .int .i64 r.s1, .int .i64 r.e0, .int .i64 r.e1, .bool r.op, .slice r.la r.legs.length r.lc, .slice r.pa r.pauses.length r.pc, .int .i64 r.fw, .int .i64 r.fp, .int .i64 r.wh, .int .i64 r.pl] 27)), y.w.cell? ⟨x.w.heap.size, 10, none⟩ = some (.int .i64 r.fp) := fun y => Since.cell (by simp [go_sem]) (by first | (simp; done) | (simp; omega)) y
      have hb0_11 : ∀ y : Since (x.w.alloc (.cells #[.int .i64 r.id, .int .i64 r.rd, .int .i64 r.s0, .int .i64 r.s1, .int .i64 r.e0, .int .i64 r.e1, .bool r.op, .slice r.la r.legs.length r.lc, .slice r.pa r.pauses.length r.pc, .int .i64 r.fw, .int .i64 r.fp, .int .i64 r.wh, .int .i64 r.pl] 27)), y.w.cell? ⟨x.w.heap.size, 11, none⟩ = some (.int .i64 r.wh) := fun y => Since.cell (by simp [go_sem]) (by first | (simp; done) | (simp; omega)) y
      have hb0_12 : ∀ y : Since (x.w.alloc (.cells #[.int .i64 r.id, .int .i64 r.rd, .int .i64 r.s0, .int .i64 r.s1, .int .i64 r.e0, .int .i64 r.e1, .bool r.op, .slice r.la r.legs.length r.lc, .slice r.pa r.pauses.length r.pc, .int .i64 r.fw, .int .i64 r.fp, .int .i64 r.wh, .int .i64 r.pl] 27)), y.w.cell? ⟨x.w.heap.size, 12, none⟩ = some (.int .i64 r.pl) := fun y => Since.cell (by simp [go_sem]) (by first | (simp; done) | (simp; omega)) y
      have hf0 : ∀ (y : Since (x.w.alloc (.cells #[.int .i64 r.id, .int .i64 r.rd, .int .i64 r.s0, .int .i64 r.s1, .int .i64 r.e0, .int .i64 r.e1, .bool r.op, .slice r.la r.legs.length r.lc, .slice r.pa r.pauses.length r.pc, .int .i64 r.fw, .int .i64 r.fp, .int .i64 r.wh, .int .i64 r.pl] 27))) (o : Nat), y.w.frozen? ⟨x.w.heap.size, o, none⟩ = false := fun y o => Since.free (by simp [go_sem]) (by first | (simp; done) | (simp; omega)) y
      have hWup : ∃ z : Since w, (x.w.alloc (.cells #[.int .i64 r.id, .int .i64 r.rd, .int .i64 r.s0, .int .i64 r.s1, .int .i64 r.e0, .int .i64 r.e1, .bool r.op, .slice r.la r.legs.length r.lc, .slice r.pa r.pauses.length r.pc, .int .i64 r.fw, .int .i64 r.fp, .int .i64 r.wh, .int .i64 r.pl] 27)) = z.w := x.alloc _
      obtain ⟨y0, hy0⟩ := Since.refl (x.w.alloc (.cells #[.int .i64 r.id, .int .i64 r.rd, .int .i64 r.s0, .int .i64 r.s1, .int .i64 r.e0, .int .i64 r.e1, .bool r.op, .slice r.la r.legs.length r.lc, .slice r.pa r.pauses.length r.pc, .int .i64 r.fw, .int .i64 r.fp, .int .i64 r.wh, .int .i64 r.pl] 27))
      have Hbx := Lib.hid (And.intro x.b.size (show x.w.heap.size + 1 = (x.w.alloc (.cells #[.int .i64 r.id, .int .i64 r.rd, .int .i64 r.s0, .int .i64 r.s1, .int .i64 r.e0, .int .i64 r.e1, .bool r.op, .slice r.la r.legs.length r.lc, .slice r.pa r.pauses.length r.pc, .int .i64 r.fw, .int .i64 r.fp, .int .i64 r.wh, .int .i64 r.pl] 27)).heap.size from by simp))
      generalize hW : (x.w.alloc (.cells #[.int .i64 r.id, .int .i64 r.rd, .int .i64 r.s0, .int .i64 r.s1, .int .i64 r.e0, .int .i64 r.e1, .bool r.op, .slice r.la r.legs.length r.lc, .slice r.pa r.pauses.length r.pc, .int .i64 r.fw, .int .i64 r.fp, .int .i64 r.wh, .int .i64 r.pl] 27)) = W at *
      clear hW
      generalize x.w.heap.size = bx at *
      have Hup := Lib.hid (Since.up hWup)
      rw [hy0]
      clear hy0
      replace H := Lib.hid (H.out.to hWup)
      clear hWup
      go_wp2_with (first | (go_at_call 10; ((with_reducible refine (Hf.out W y0 H.out).mono ?_); rintro _ _ ⟨rfl, y1, rfl⟩)) | (go_at_call 25; ((with_reducible refine (Hk.out W y1 H.out).mono ?_); rintro _ _ ⟨rfl, y2, rfl⟩)) | (go_at_call 11; ((with_reducible refine (awake_calls W y2).mono ?_); rintro _ _ ⟨rfl, yz, rfl⟩)))
      go_ret
      exact ⟨rfl, Hup.out yz⟩
    case pos =>
      have He := Lib.hid he
      rw [he] at Hk
      clear he
      replace Htr := Lib.hid (Htr.out He.out)
      go_enter Try.func5, Try.ntmps5
      go_upto_region 1 with fail
      have hb0_0 : ∀ y : Since (x.w.alloc (.cells #[.int .i64 r.id, .int .i64 r.rd, .int .i64 r.s0, .int .i64 r.s1, .int .i64 r.e0, .int .i64 r.e1, .bool r.op, .slice r.la r.legs.length r.lc, .slice r.pa r.pauses.length r.pc, .int .i64 r.fw, .int .i64 r.fp, .int .i64 r.wh, .int .i64 r.pl] 27)), y.w.cell? ⟨x.w.heap.size, 0, none⟩ = some (.int .i64 r.id) := fun y => Since.cell (by simp [go_sem]) (by first | (simp; done) | (simp; omega)) y
      have hb0_1 : ∀ y : Since (x.w.alloc (.cells #[.int .i64 r.id, .int .i64 r.rd, .int .i64 r.s0, .int .i64 r.s1, .int .i64 r.e0, .int .i64 r.e1, .bool r.op, .slice r.la r.legs.length r.lc, .slice r.pa r.pauses.length r.pc, .int .i64 r.fw, .int .i64 r.fp, .int .i64 r.wh, .int .i64 r.pl] 27)), y.w.cell? ⟨x.w.heap.size, 1, none⟩ = some (.int .i64 r.rd) := fun y => Since.cell (by simp [go_sem]) (by first | (simp; done) | (simp; omega)) y
      have hb0_2 : ∀ y : Since (x.w.alloc (.cells #[.int .i64 r.id, .int .i64 r.rd, .int .i64 r.s0, .int .i64 r.s1, .int .i64 r.e0, .int .i64 r.e1, .bool r.op, .slice r.la r.legs.length r.lc, .slice r.pa r.pauses.length r.pc, .int .i64 r.fw, .int .i64 r.fp, .int .i64 r.wh, .int .i64 r.pl] 27)), y.w.cell? ⟨x.w.heap.size, 2, none⟩ = some (.int .i64 r.s0) := fun y => Since.cell (by simp [go_sem]) (by first | (simp; done) | (simp; omega)) y
      have hb0_3 : ∀ y : Since (x.w.alloc (.cells #[.int .i64 r.id, .int .i64 r.rd, .int .i64 r.s0, .int .i64 r.s1, .int .i64 r.e0, .int .i64 r.e1, .bool r.op, .slice r.la r.legs.length r.lc, .slice r.pa r.pauses.length r.pc, .int .i64 r.fw, .int .i64 r.fp, .int .i64 r.wh, .int .i64 r.pl] 27)), y.w.cell? ⟨x.w.heap.size, 3, none⟩ = some (.int .i64 r.s1) := fun y => Since.cell (by simp [go_sem]) (by first | (simp; done) | (simp; omega)) y
      have hb0_4 : ∀ y : Since (x.w.alloc (.cells #[.int .i64 r.id, .int .i64 r.rd, .int .i64 r.s0, .int .i64 r.s1, .int .i64 r.e0, .int .i64 r.e1, .bool r.op, .slice r.la r.legs.length r.lc, .slice r.pa r.pauses.length r.pc, .int .i64 r.fw, .int .i64 r.fp, .int .i64 r.wh, .int .i64 r.pl] 27)), y.w.cell? ⟨x.w.heap.size, 4, none⟩ = some (.int .i64 r.e0) := fun y => Since.cell (by simp [go_sem]) (by first | (simp; done) | (simp; omega)) y
      have hb0_5 : ∀ y : Since (x.w.alloc (.cells #[.int .i64 r.id, .int .i64 r.rd, .int .i64 r.s0, .int .i64 r.s1, .int .i64 r.e0, .int .i64 r.e1, .bool r.op, .slice r.la r.legs.length r.lc, .slice r.pa r.pauses.length r.pc, .int .i64 r.fw, .int .i64 r.fp, .int .i64 r.wh, .int .i64 r.pl] 27)), y.w.cell? ⟨x.w.heap.size, 5, none⟩ = some (.int .i64 r.e1) := fun y => Since.cell (by simp [go_sem]) (by first | (simp; done) | (simp; omega)) y
      have hb0_6 : ∀ y : Since (x.w.alloc (.cells #[.int .i64 r.id, .int .i64 r.rd, .int .i64 r.s0, .int .i64 r.s1, .int .i64 r.e0, .int .i64 r.e1, .bool r.op, .slice r.la r.legs.length r.lc, .slice r.pa r.pauses.length r.pc, .int .i64 r.fw, .int .i64 r.fp, .int .i64 r.wh, .int .i64 r.pl] 27)), y.w.cell? ⟨x.w.heap.size, 6, none⟩ = some (.bool r.op) := fun y => Since.cell (by simp [go_sem]) (by first | (simp; done) | (simp; omega)) y
      have hb0_7 : ∀ y : Since (x.w.alloc (.cells #[.int .i64 r.id, .int .i64 r.rd, .int .i64 r.s0, .int .i64 r.s1, .int .i64 r.e0, .int .i64 r.e1, .bool r.op, .slice r.la r.legs.length r.lc, .slice r.pa r.pauses.length r.pc, .int .i64 r.fw, .int .i64 r.fp, .int .i64 r.wh, .int .i64 r.pl] 27)), y.w.cell? ⟨x.w.heap.size, 7, none⟩ = some (.slice r.la r.legs.length r.lc) := fun y => Since.cell (by simp [go_sem]) (by first | (simp; done) | (simp; omega)) y
      have hb0_8 : ∀ y : Since (x.w.alloc (.cells #[.int .i64 r.id, .int .i64 r.rd, .int .i64 r.s0, .int .i64 r.s1, .int .i64 r.e0, .int .i64 r.e1, .bool r.op, .slice r.la r.legs.length r.lc, .slice r.pa r.pauses.length r.pc, .int .i64 r.fw, .int .i64 r.fp, .int .i64 r.wh, .int .i64 r.pl] 27)), y.w.cell? ⟨x.w.heap.size, 8, none⟩ = some (.slice r.pa r.pauses.length r.pc) := fun y => Since.cell (by simp [go_sem]) (by first | (simp; done) | (simp; omega)) y
      have hb0_9 : ∀ y : Since (x.w.alloc (.cells #[.int .i64 r.id, .int .i64 r.rd, .int .i64 r.s0, .int .i64 r.s1, .int .i64 r.e0, .int .i64 r.e1, .bool r.op, .slice r.la r.legs.length r.lc, .slice r.pa r.pauses.length r.pc, .int .i64 r.fw, .int .i64 r.fp, .int .i64 r.wh, .int .i64 r.pl] 27)), y.w.cell? ⟨x.w.heap.size, 9, none⟩ = some (.int .i64 r.fw) := fun y => Since.cell (by simp [go_sem]) (by first | (simp; done) | (simp; omega)) y
      have hb0_10 : ∀ y : Since (x.w.alloc (.cells #[.int .i64 r.id, .int .i64 r.rd, .int .i64 r.s0, .int .i64 r.s1, .int .i64 r.e0, .int .i64 r.e1, .bool r.op, .slice r.la r.legs.length r.lc, .slice r.pa r.pauses.length r.pc, .int .i64 r.fw, .int .i64 r.fp, .int .i64 r.wh, .int .i64 r.pl] 27)), y.w.cell? ⟨x.w.heap.size, 10, none⟩ = some (.int .i64 r.fp) := fun y => Since.cell (by simp [go_sem]) (by first | (simp; done) | (simp; omega)) y
      have hb0_11 : ∀ y : Since (x.w.alloc (.cells #[.int .i64 r.id, .int .i64 r.rd, .int .i64 r.s0, .int .i64 r.s1, .int .i64 r.e0, .int .i64 r.e1, .bool r.op, .slice r.la r.legs.length r.lc, .slice r.pa r.pauses.length r.pc, .int .i64 r.fw, .int .i64 r.fp, .int .i64 r.wh, .int .i64 r.pl] 27)), y.w.cell? ⟨x.w.heap.size, 11, none⟩ = some (.int .i64 r.wh) := fun y => Since.cell (by simp [go_sem]) (by first | (simp; done) | (simp; omega)) y
      have hb0_12 : ∀ y : Since (x.w.alloc (.cells #[.int .i64 r.id, .int .i64 r.rd, .int .i64 r.s0, .int .i64 r.s1, .int .i64 r.e0, .int .i64 r.e1, .bool r.op, .slice r.la r.legs.length r.lc, .slice r.pa r.pauses.length r.pc, .int .i64 r.fw, .int .i64 r.fp, .int .i64 r.wh, .int .i64 r.pl] 27)), y.w.cell? ⟨x.w.heap.size, 12, none⟩ = some (.int .i64 r.pl) := fun y => Since.cell (by simp [go_sem]) (by first | (simp; done) | (simp; omega)) y
      have hf0 : ∀ (y : Since (x.w.alloc (.cells #[.int .i64 r.id, .int .i64 r.rd, .int .i64 r.s0, .int .i64 r.s1, .int .i64 r.e0, .int .i64 r.e1, .bool r.op, .slice r.la r.legs.length r.lc, .slice r.pa r.pauses.length r.pc, .int .i64 r.fw, .int .i64 r.fp, .int .i64 r.wh, .int .i64 r.pl] 27))) (o : Nat), y.w.frozen? ⟨x.w.heap.size, o, none⟩ = false := fun y o => Since.free (by simp [go_sem]) (by first | (simp; done) | (simp; omega)) y
      have hWup : ∃ z : Since w, (x.w.alloc (.cells #[.int .i64 r.id, .int .i64 r.rd, .int .i64 r.s0, .int .i64 r.s1, .int .i64 r.e0, .int .i64 r.e1, .bool r.op, .slice r.la r.legs.length r.lc, .slice r.pa r.pauses.length r.pc, .int .i64 r.fw, .int .i64 r.fp, .int .i64 r.wh, .int .i64 r.pl] 27)) = z.w := x.alloc _
      obtain ⟨y0, hy0⟩ := Since.refl (x.w.alloc (.cells #[.int .i64 r.id, .int .i64 r.rd, .int .i64 r.s0, .int .i64 r.s1, .int .i64 r.e0, .int .i64 r.e1, .bool r.op, .slice r.la r.legs.length r.lc, .slice r.pa r.pauses.length r.pc, .int .i64 r.fw, .int .i64 r.fp, .int .i64 r.wh, .int .i64 r.pl] 27))
      have Hbx := Lib.hid (And.intro x.b.size (show x.w.heap.size + 1 = (x.w.alloc (.cells #[.int .i64 r.id, .int .i64 r.rd, .int .i64 r.s0, .int .i64 r.s1, .int .i64 r.e0, .int .i64 r.e1, .bool r.op, .slice r.la r.legs.length r.lc, .slice r.pa r.pauses.length r.pc, .int .i64 r.fw, .int .i64 r.fp, .int .i64 r.wh, .int .i64 r.pl] 27)).heap.size from by simp))
      generalize hW : (x.w.alloc (.cells #[.int .i64 r.id, .int .i64 r.rd, .int .i64 r.s0, .int .i64 r.s1, .int .i64 r.e0, .int .i64 r.e1, .bool r.op, .slice r.la r.legs.length r.lc, .slice r.pa r.pauses.length r.pc, .int .i64 r.fw, .int .i64 r.fp, .int .i64 r.wh, .int .i64 r.pl] 27)) = W at *
      clear hW
      generalize x.w.heap.size = bx at *
      have Hup := Lib.hid (Since.up hWup)
      rw [hy0]
      clear hy0
      replace HM := Lib.hid (HM.out.to hWup)
      replace H := Lib.hid (H.out.to hWup)
      have HW := Lib.hid hWup
      have HU := Lib.hid (show IsSince w W from hWup)
      clear hWup hf0 Hbx Hup
      go_upto_region 3 with (first | (go_at_call 10; ((with_reducible refine (Hf.out W y0 H.out).mono ?_); rintro _ _ ⟨rfl, y1, rfl⟩)) | (go_at_call 25; ((with_reducible refine (Hk.out W y1 H.out).mono ?_); rintro _ _ ⟨rfl, y2, rfl⟩)))
      clear Hf Hk
      have hef : (ivE r != 0) = false := by have := He.out; simpa using this
      have hpn := (rideOk_of He.out).pn
      go_upto_region 4 with (go_at_call 26; ((with_reducible refine (Htr.out W y2 H.out HM.out).mono ?_); rintro _ _ ⟨V, at_, ct, T, ok, y3, rfl, rfl, hT, hok⟩; have HT := Lib.hid hT; have HOk := Lib.hid hok; clear hT hok))
      have hV0 : (y3.w.alloc (.cells #[.int .i64 V.f, .int .i64 V.t] 31)).cell? ⟨y3.w.heap.size, 0, none⟩ = some (.int .i64 V.f) := by simp [go_sem]
      have hV1 : (y3.w.alloc (.cells #[.int .i64 V.f, .int .i64 V.t] 31)).cell? ⟨y3.w.heap.size, 1, none⟩ = some (.int .i64 V.t) := by simp [go_sem]
      have hVf : ∀ o, (y3.w.alloc (.cells #[.int .i64 V.f, .int .i64 V.t] 31)).frozen? ⟨y3.w.heap.size, o, none⟩ = false := fun o => by simp [go_sem]
      have hlt0 : y3.w.heap.size < (y3.w.alloc (.cells #[.int .i64 V.f, .int .i64 V.t] 31)).heap.size := by simp
      have hst0 : ∃ zz : Since y3.w, (y3.w.alloc (.cells #[.int .i64 V.f, .int .i64 V.t] 31)) = zz.w := IsSince.alloc (IsSince.self _) _
      have hsz0 := y3.b.size
      obtain ⟨y4, e2⟩ := IsSince.alloc (IsSince.of y3) (.cells #[.int .i64 V.f, .int .i64 V.t] 31)
      rw [e2] at hV0 hV1 hVf hlt0 hst0 ⊢
      (replace HT := Lib.hid (HT.out.to hst0))
      clear e2 hst0
      generalize y3.w.heap.size = gV at *
      have HhV0 : ∀ q : Since y4.w, q.w.cell? ⟨gV, 0, none⟩ = some (.int .i64 V.f) := fun q => Since.cell hV0 (by omega) q
      have HhV1 : ∀ q : Since y4.w, q.w.cell? ⟨gV, 1, none⟩ = some (.int .i64 V.t) := fun q => Since.cell hV1 (by omega) q
      have HhVf : ∀ (q : Since y4.w) (o : Nat), q.w.frozen? ⟨gV, o, none⟩ = false := fun q o => Since.free (hVf o) (by omega) q
      have HhVg := Lib.hid (And.intro hsz0 hlt0)
      clear hlt0 hsz0
      clear hV0 hV1 hVf HhVf Htr HM
      replace H := Lib.hid (H.out.to ⟨y4, rfl⟩)
      replace HU := Lib.hid (HU.out.trans (IsSince.of y4))
      replace hb0_0 := Since.cellTo ⟨y4, rfl⟩ hb0_0
      replace hb0_1 := Since.cellTo ⟨y4, rfl⟩ hb0_1
      replace hb0_2 := Since.cellTo ⟨y4, rfl⟩ hb0_2
      replace hb0_3 := Since.cellTo ⟨y4, rfl⟩ hb0_3
      replace hb0_4 := Since.cellTo ⟨y4, rfl⟩ hb0_4
      replace hb0_5 := Since.cellTo ⟨y4, rfl⟩ hb0_5
      replace hb0_6 := Since.cellTo ⟨y4, rfl⟩ hb0_6
      replace hb0_7 := Since.cellTo ⟨y4, rfl⟩ hb0_7
      replace hb0_8 := Since.cellTo ⟨y4, rfl⟩ hb0_8
      replace hb0_9 := Since.cellTo ⟨y4, rfl⟩ hb0_9
      replace hb0_10 := Since.cellTo ⟨y4, rfl⟩ hb0_10
      replace hb0_11 := Since.cellTo ⟨y4, rfl⟩ hb0_11
      replace hb0_12 := Since.cellTo ⟨y4, rfl⟩ hb0_12
      obtain ⟨q4, hq0⟩ := Since.refl y4.w
      rw [hq0]
      clear hq0
      replace HT := Lib.hid (HT.out.to ⟨q4, rfl⟩)
      cases ok with
      | false =>
        go_wp2_with (go_at_call 11; ((with_reducible refine (awake_calls _ q4).mono ?_); rintro _ _ ⟨rfl, yz, rfl⟩))
        go_ret
        exact ⟨rfl, HU.out.trans (IsSince.of yz)⟩
      | true =>
        have htr := HOk.out rfl
        have hTl : T.length ≤ 512 := by obtain ⟨last, h1, _⟩ := htr.t; have := h1.len; omega
        have hsec := htr.secs He.out
        rw [← lenS_eq (ridS r), ← lenS_eq (pauS r), ← lenS_eq (hasW T)] at hsec
        have hs1 : secR r = lenS (ridS r) := if_pos He.out
        have hs2 : secP r = lenS (pauS r) := if_pos He.out
        rw [← hs1, ← hs2] at hsec
        have hlb := lenS_range (hasW T)
        have hvv := (vldW_iff V).1 (htr.vld He.out)
        have hb1 : decide (secR r ≤ V.t - V.f - lenS (hasW T)) = true := decide_eq_true hsec.1
        have hb2 : decide (secP r ≤ lenS (hasW T)) = true := decide_eq_true hsec.2
        have hb3 : secR r ≤ V.t - V.f - lenS (hasW T) := hsec.1
        have hb4 : secP r ≤ lenS (hasW T) := hsec.2
        obtain ⟨v1, v2, v3⟩ := hvv
        obtain ⟨l1, l2⟩ := hlb
        have Htr := Lib.hid htr
        clear hs1 hs2 hsec htr HOk
        go_upto_region 7 with (go_at_call 12; ((with_reducible refine (sure_s (W := y4.w) _ (IsSince.of q4) r H.out).mono ?_); rintro _ _ ⟨rfl, y5, rfl, hz⟩; replace HT := Lib.hid (HT.out.to hz); clear hz))
        have hs0 : (y5.w.alloc (.cells #[.int .i64 (sureW r).f, .int .i64 (sureW r).t] 31)).cell? ⟨y5.w.heap.size, 0, none⟩ = some (.int .i64 (sureW r).f) := by simp [go_sem]
        have hs1 : (y5.w.alloc (.cells #[.int .i64 (sureW r).f, .int .i64 (sureW r).t] 31)).cell? ⟨y5.w.heap.size, 1, none⟩ = some (.int .i64 (sureW r).t) := by simp [go_sem]
        have hsf : ∀ o, (y5.w.alloc (.cells #[.int .i64 (sureW r).f, .int .i64 (sureW r).t] 31)).frozen? ⟨y5.w.heap.size, o, none⟩ = false := fun o => by simp [go_sem]
        have hlt0 : y5.w.heap.size < (y5.w.alloc (.cells #[.int .i64 (sureW r).f, .int .i64 (sureW r).t] 31)).heap.size := by simp
        have hst0 : ∃ zz : Since y5.w, (y5.w.alloc (.cells #[.int .i64 (sureW r).f, .int .i64 (sureW r).t] 31)) = zz.w := IsSince.alloc (IsSince.self _) _
        have hsz0 := y5.b.size
        obtain ⟨y6, e2⟩ := IsSince.alloc (IsSince.of y5) (.cells #[.int .i64 (sureW r).f, .int .i64 (sureW r).t] 31)
        rw [e2] at hs0 hs1 hsf hlt0 hst0 ⊢
        (replace HT := Lib.hid (HT.out.to hst0))
        clear e2 hst0
        generalize y5.w.heap.size = ghs at *
        have Hhs0 : ∀ q : Since y6.w, q.w.cell? ⟨ghs, 0, none⟩ = some (.int .i64 (sureW r).f) := fun q => Since.cell hs0 (by omega) q
        have Hhs1 : ∀ q : Since y6.w, q.w.cell? ⟨ghs, 1, none⟩ = some (.int .i64 (sureW r).t) := fun q => Since.cell hs1 (by omega) q
        have Hhsf : ∀ (q : Since y6.w) (o : Nat), q.w.frozen? ⟨ghs, o, none⟩ = false := fun q o => Since.free (hsf o) (by omega) q
        have Hhsg := Lib.hid (And.intro hsz0 hlt0)
        clear hlt0 hsz0
        clear hs0 hs1 hsf Hhsf
        replace H := Lib.hid (H.out.to ⟨y6, rfl⟩)
        replace HU := Lib.hid (HU.out.trans (IsSince.of y6))
        replace hb0_0 := Since.cellTo ⟨y6, rfl⟩ hb0_0
        replace hb0_1 := Since.cellTo ⟨y6, rfl⟩ hb0_1
        replace hb0_2 := Since.cellTo ⟨y6, rfl⟩ hb0_2
        replace hb0_3 := Since.cellTo ⟨y6, rfl⟩ hb0_3
        replace hb0_4 := Since.cellTo ⟨y6, rfl⟩ hb0_4
        replace hb0_5 := Since.cellTo ⟨y6, rfl⟩ hb0_5
        replace hb0_6 := Since.cellTo ⟨y6, rfl⟩ hb0_6
        replace hb0_7 := Since.cellTo ⟨y6, rfl⟩ hb0_7
        replace hb0_8 := Since.cellTo ⟨y6, rfl⟩ hb0_8
        replace hb0_9 := Since.cellTo ⟨y6, rfl⟩ hb0_9
        replace hb0_10 := Since.cellTo ⟨y6, rfl⟩ hb0_10
        replace hb0_11 := Since.cellTo ⟨y6, rfl⟩ hb0_11
        replace hb0_12 := Since.cellTo ⟨y6, rfl⟩ hb0_12
        replace HhV0 := Since.cellTo ⟨y6, rfl⟩ HhV0
        replace HhV1 := Since.cellTo ⟨y6, rfl⟩ HhV1
        obtain ⟨q6, hq0⟩ := Since.refl y6.w
        rw [hq0]
        clear hq0
        replace HT := Lib.hid (HT.out.to ⟨q6, rfl⟩)
        go_upto_region 8 with (go_at_call 14; ((with_reducible refine (possible_s (W := y6.w) _ (IsSince.of q6) r H.out).mono ?_); rintro _ _ ⟨rfl, y7, rfl, hz⟩; replace HT := Lib.hid (HT.out.to hz); clear hz))
        have hu0 : (y7.w.alloc (.cells #[.int .i64 (possW r).f, .int .i64 (possW r).t] 31)).cell? ⟨y7.w.heap.size, 0, none⟩ = some (.int .i64 (possW r).f) := by simp [go_sem]
        have hu1 : (y7.w.alloc (.cells #[.int .i64 (possW r).f, .int .i64 (possW r).t] 31)).cell? ⟨y7.w.heap.size, 1, none⟩ = some (.int .i64 (possW r).t) := by simp [go_sem]
        have huf : ∀ o, (y7.w.alloc (.cells #[.int .i64 (possW r).f, .int .i64 (possW r).t] 31)).frozen? ⟨y7.w.heap.size, o, none⟩ = false := fun o => by simp [go_sem]
        have hlt0 : y7.w.heap.size < (y7.w.alloc (.cells #[.int .i64 (possW r).f, .int .i64 (possW r).t] 31)).heap.size := by simp
        have hst0 : ∃ zz : Since y7.w, (y7.w.alloc (.cells #[.int .i64 (possW r).f, .int .i64 (possW r).t] 31)) = zz.w := IsSince.alloc (IsSince.self _) _
        have hsz0 := y7.b.size
        obtain ⟨y8, e2⟩ := IsSince.alloc (IsSince.of y7) (.cells #[.int .i64 (possW r).f, .int .i64 (possW r).t] 31)
        rw [e2] at hu0 hu1 huf hlt0 hst0 ⊢
        (replace HT := Lib.hid (HT.out.to hst0))
        clear e2 hst0
        generalize y7.w.heap.size = ghu at *
        have Hhu0 : ∀ q : Since y8.w, q.w.cell? ⟨ghu, 0, none⟩ = some (.int .i64 (possW r).f) := fun q => Since.cell hu0 (by omega) q
        have Hhu1 : ∀ q : Since y8.w, q.w.cell? ⟨ghu, 1, none⟩ = some (.int .i64 (possW r).t) := fun q => Since.cell hu1 (by omega) q
        have Hhuf : ∀ (q : Since y8.w) (o : Nat), q.w.frozen? ⟨ghu, o, none⟩ = false := fun q o => Since.free (huf o) (by omega) q
        have Hhug := Lib.hid (And.intro hsz0 hlt0)
        clear hlt0 hsz0
        clear hu0 hu1 huf Hhuf
        replace H := Lib.hid (H.out.to ⟨y8, rfl⟩)
        replace HU := Lib.hid (HU.out.trans (IsSince.of y8))
        replace hb0_0 := Since.cellTo ⟨y8, rfl⟩ hb0_0
        replace hb0_1 := Since.cellTo ⟨y8, rfl⟩ hb0_1
        replace hb0_2 := Since.cellTo ⟨y8, rfl⟩ hb0_2
        replace hb0_3 := Since.cellTo ⟨y8, rfl⟩ hb0_3
        replace hb0_4 := Since.cellTo ⟨y8, rfl⟩ hb0_4
        replace hb0_5 := Since.cellTo ⟨y8, rfl⟩ hb0_5
        replace hb0_6 := Since.cellTo ⟨y8, rfl⟩ hb0_6
        replace hb0_7 := Since.cellTo ⟨y8, rfl⟩ hb0_7
        replace hb0_8 := Since.cellTo ⟨y8, rfl⟩ hb0_8
        replace hb0_9 := Since.cellTo ⟨y8, rfl⟩ hb0_9
        replace hb0_10 := Since.cellTo ⟨y8, rfl⟩ hb0_10
        replace hb0_11 := Since.cellTo ⟨y8, rfl⟩ hb0_11
        replace hb0_12 := Since.cellTo ⟨y8, rfl⟩ hb0_12
        replace HhV0 := Since.cellTo ⟨y8, rfl⟩ HhV0
        replace HhV1 := Since.cellTo ⟨y8, rfl⟩ HhV1
        replace Hhs0 := Since.cellTo ⟨y8, rfl⟩ Hhs0
        replace Hhs1 := Since.cellTo ⟨y8, rfl⟩ Hhs1
        obtain ⟨q8, hq0⟩ := Since.refl y8.w
        rw [hq0]
        clear hq0
        replace HT := Lib.hid (HT.out.to ⟨q8, rfl⟩)
        go_upto_region 9 with (go_at_call 16; ((with_reducible refine (pausing_s (W := y8.w) _ (IsSince.of q8) r H.out).mono ?_); rintro _ _ ⟨ap, cp, u, y9, rfl, rfl, hz, hl, _, hQ⟩; replace HT := Lib.hid (HT.out.to hz); have HP := Lib.hid hl; have HPo := Lib.hid hQ; clear hl hQ; clear hz))
        go_upto_region 10 with (go_at_call 18; ((with_reducible refine (riding_s (W := y8.w) _ (IsSince.of y9) r H.out).mono ?_); rintro _ _ ⟨ar, cr, s, y10, rfl, rfl, hz, hl, _, hQ⟩; replace HT := Lib.hid (HT.out.to hz); replace HP := Lib.hid (HP.out.to hz); have HR := Lib.hid hl; have HRo := Lib.hid hQ; clear hl hQ; clear hz))
        have hul := HPo.out.n
        have hsl := HRo.out.n
        have HSu := Lib.hid (HPo.out.ok He.out)
        have HSs := Lib.hid (HRo.out.ok He.out)
        clear HPo HRo
        have Hgu := Lib.hid (norm_good HSu.out.n)
        have Hgs := Lib.hid (norm_good HSs.out.n)
        have HgT := Lib.hid (Htr.out.good He.out)
        have HgV := Lib.hid (badW_one (Htr.out.vld He.out))
        have HgS := Lib.hid (badW_one (sureW_good He.out))
        have HgP := Lib.hid (badW_one (possW_vld He.out))
        have G1 := Lib.hid (show (badW s || badW T) = false by rw [Hgs.out, HgT.out]; rfl)
        have G2 := Lib.hid (show (badW [sureW r] || badW [V]) = false by rw [HgS.out, HgV.out]; rfl)
        have G3 := Lib.hid (show (badW [V] || badW [possW r]) = false by rw [HgV.out, HgP.out]; rfl)
        have G4 := Lib.hid (show (badW u || badW T) = false by rw [Hgu.out, HgT.out]; rfl)
        have G5 := Lib.hid (show (badW s || badW [V]) = false by rw [Hgs.out, HgV.out]; rfl)
        have S1 := Lib.hid (show ∀ t, hasW s t = true → hasW T t = false from fun t h => by rw [HSs.out.h] at h; exact Htr.out.rid t h)
        have S2 := Lib.hid (show ∀ t, hasW [sureW r] t = true → hasW [V] t = true from fun t h => by rw [hasW_one] at h ⊢; exact Htr.out.sure He.out t h)
        have S3 := Lib.hid (show ∀ t, hasW [V] t = true → hasW [possW r] t = true from fun t h => by rw [hasW_one] at h ⊢; exact Htr.out.poss He.out t h)
        have S4 := Lib.hid (show ∀ t, hasW u t = true → hasW T t = true from fun t h => by rw [HSu.out.h] at h; exact Htr.out.pau t h)
        have S5 := Lib.hid (show ∀ t, hasW s t = true → hasW [V] t = true from fun t h => by rw [HSs.out.h] at h; rw [hasW_one]; exact Htr.out.sure He.out t (rid_sure h))
        go_upto_region 13 with fail
        have HV1 := Lib.hid (els_one y10.w V)
        have h10 : (y10.w.alloc (.cells #[.int .i64 V.f, .int .i64 V.t] 31)).cell? ⟨y10.w.heap.size, 0, none⟩ = some (.int .i64 V.f) := by simp [go_sem]
        have h11 : (y10.w.alloc (.cells #[.int .i64 V.f, .int .i64 V.t] 31)).cell? ⟨y10.w.heap.size, 1, none⟩ = some (.int .i64 V.t) := by simp [go_sem]
        have h1f : ∀ o, (y10.w.alloc (.cells #[.int .i64 V.f, .int .i64 V.t] 31)).frozen? ⟨y10.w.heap.size, o, none⟩ = false := fun o => by simp [go_sem]
        have hlt0 : y10.w.heap.size < (y10.w.alloc (.cells #[.int .i64 V.f, .int .i64 V.t] 31)).heap.size := by simp
        have hst0 : ∃ zz : Since y10.w, (y10.w.alloc (.cells #[.int .i64 V.f, .int .i64 V.t] 31)) = zz.w := IsSince.alloc (IsSince.self _) _
        have hsz0 := y10.b.size
        obtain ⟨y11, e2⟩ := IsSince.alloc (IsSince.of y10) (.cells #[.int .i64 V.f, .int .i64 V.t] 31)
        rw [e2] at h10 h11 h1f hlt0 hst0 ⊢
        (replace HV1 := Lib.hid (show WinRow y11.w (some ⟨y10.w.heap.size, 0, none⟩) [V] by rw [← e2]; exact HV1.out); replace HT := Lib.hid (HT.out.to hst0); replace HP := Lib.hid (HP.out.to hst0); replace HR := Lib.hid (HR.out.to hst0))
        clear e2 hst0
        generalize y10.w.heap.size = g1 at *
        have Hh10 : ∀ q : Since y11.w, q.w.cell? ⟨g1, 0, none⟩ = some (.int .i64 V.f) := fun q => Since.cell h10 (by omega) q
        have Hh11 : ∀ q : Since y11.w, q.w.cell? ⟨g1, 1, none⟩ = some (.int .i64 V.t) := fun q => Since.cell h11 (by omega) q
        have Hh1f : ∀ (q : Since y11.w) (o : Nat), q.w.frozen? ⟨g1, o, none⟩ = false := fun q o => Since.free (h1f o) (by omega) q
        have Hh1g := Lib.hid (And.intro hsz0 hlt0)
        clear hlt0 hsz0
        clear h10 h11 h1f Hh1f Hh10 Hh11
        go_upto_region 14 with (go_at_call 27; ((with_reducible refine (rcommon_no (W := y8.w) _ (IsSince.of y11) ar s cr at_ T ct HR.out HT.out (by omega) (by omega) G1.out S1.out).mono ?_); rintro _ _ ⟨ab, cb, y12, rfl, rfl, hz, _, _⟩; replace HT := Lib.hid (HT.out.to hz); replace HP := Lib.hid (HP.out.to hz); replace HR := Lib.hid (HR.out.to hz); replace HV1 := Lib.hid (HV1.out.to hz); clear hz))
        go_wp2_with fail
        refine (within_s (W := y8.w) _ (IsSince.alloc (IsSince.of y12) _) (some ⟨y12.w.heap.size, 0, none⟩) [sureW r] 1 1 (some ⟨g1, 0, none⟩) [V] 1 1 (els_mk Win.len y12.w [sureW r] 31) (HV1.out.to (IsSince.alloc (IsSince.self _) _)) rfl rfl (by decide) (by decide) G2.out S2.out).mono ?_
        rintro _ _ ⟨rfl, y13, rfl, hz⟩
        replace HT := Lib.hid ((HT.out.to (IsSince.alloc (IsSince.self _) _)).to hz)
        replace HP := Lib.hid ((HP.out.to (IsSince.alloc (IsSince.self _) _)).to hz)
        replace HR := Lib.hid ((HR.out.to (IsSince.alloc (IsSince.self _) _)).to hz)
        replace HV1 := Lib.hid ((HV1.out.to (IsSince.alloc (IsSince.self _) _)).to hz)
        clear hz
        go_wp2_with fail
        refine (within_s (W := y8.w) _ (IsSince.alloc (IsSince.of y13) _) (some ⟨g1, 0, none⟩) [V] 1 1 (some ⟨y13.w.heap.size, 0, none⟩) [possW r] 1 1 (HV1.out.to (IsSince.alloc (IsSince.self _) _)) (els_mk Win.len y13.w [possW r] 31) rfl rfl (by decide) (by decide) G3.out S3.out).mono ?_
        rintro _ _ ⟨rfl, y14, rfl, hz⟩
        replace HT := Lib.hid ((HT.out.to (IsSince.alloc (IsSince.self _) _)).to hz)
        replace HP := Lib.hid ((HP.out.to (IsSince.alloc (IsSince.self _) _)).to hz)
        replace HR := Lib.hid ((HR.out.to (IsSince.alloc (IsSince.self _) _)).to hz)
        replace HV1 := Lib.hid ((HV1.out.to (IsSince.alloc (IsSince.self _) _)).to hz)
        clear hz
        go_upto_region 16 with (first | (go_at_call 28; ((with_reducible refine (within_s (W := y8.w) _ (IsSince.of y14) ap u _ cp at_ T _ ct HP.out HT.out rfl rfl (by omega) (by omega) G4.out S4.out).mono ?_); rintro _ _ ⟨rfl, y15, rfl, hz⟩; replace HT := Lib.hid (HT.out.to hz); replace HP := Lib.hid (HP.out.to hz); replace HR := Lib.hid (HR.out.to hz); replace HV1 := Lib.hid (HV1.out.to hz); clear hz)) | (go_at_call 28; ((with_reducible refine (within_s (W := y8.w) _ (IsSince.of y15) ar s _ cr (some ⟨g1, 0, none⟩) [V] 1 1 HR.out HV1.out rfl rfl (by omega) (by decide) G5.out S5.out).mono ?_); rintro _ _ ⟨rfl, y16, rfl, hz⟩; replace HT := Lib.hid (HT.out.to hz); replace HP := Lib.hid (HP.out.to hz); replace HR := Lib.hid (HR.out.to hz); replace HV1 := Lib.hid (HV1.out.to hz); clear hz)))
        go_upto_region 17 with (go_at_call 21; ((with_reducible refine (seconds_s (W := y8.w) _ (IsSince.of y16) r H.out).mono ?_); rintro _ _ ⟨rfl, y17, rfl, hz⟩; replace HT := Lib.hid (HT.out.to hz); replace HP := Lib.hid (HP.out.to hz); replace HR := Lib.hid (HR.out.to hz); replace HV1 := Lib.hid (HV1.out.to hz); clear hz))
        go_upto_region 18 with (go_at_call 29; ((with_reducible refine (rlength_g (W := y8.w) _ (IsSince.of y17) at_ T ct HgT.out HT.out (by omega)).mono ?_); rintro _ _ ⟨rfl, y18, rfl, hz⟩; replace HT := Lib.hid (HT.out.to hz); replace HP := Lib.hid (HP.out.to hz); replace HR := Lib.hid (HR.out.to hz); replace HV1 := Lib.hid (HV1.out.to hz); clear hz))
        go_wp2_with (go_at_call 11; ((with_reducible refine (awake_calls _ y18).mono ?_); rintro _ _ ⟨rfl, yz, rfl⟩))
        go_ret
        exact ⟨rfl, HU.out.trans (IsSince.of yz)⟩
end Go.Proofs.Ytefodfpnedcodaa
