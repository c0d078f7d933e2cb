/- The walks of the certain and the possible time, third part: Pausing, Riding. -/
import Derived.Test.YtefodfpnedcodaaIvMe
set_option linter.all false
namespace Go.Proofs.Ytefodfpnedcodaa
open Go.RowKit

theorem els_one (w : World) (S : Win) : WinRow (w.alloc (.cells #[.int .i64 S.f, .int .i64 S.t] 31)) (some ⟨w.heap.size, 0, none⟩) [S] := by
  intro i x hx
  cases i with
  | zero =>
    simp at hx; subst hx
    refine ⟨w.heap.size, 0, rfl, by simp, fun j v hv => ?_⟩
    have := cell_new_at w S.cs 31 j v hv
    rw [Addr.add_lit] at this
    rw [show 0 + 0 * 2 + j = 0 + j by omega]
    exact this
  | succ i => simp at hx
/-- a list of windows of the call's own, made in a world that is later than W -/
def ListResS (W w : World) (n : Nat) (u : List Win) (o : Ending) (w' : World) : Prop :=
  ∃ (a : Option Addr) (cap : Nat) (z : Since W), o = .returned (.slice a n cap) ∧ w' = z.w ∧ (∃ v : Since w, z.w = v.w) ∧ WinRow z.w a u ∧ n ≤ cap
theorem listResS {W w : World} (h : IsSince W w) {n : Nat} {u : List Win} (hn : u.length = n) {o : Ending} {w' : World} (k : ListRes w u o w') : ListResS W w n u o w' := by
  obtain ⟨a, cap, y, ho, hw, hr, hc⟩ := k
  obtain ⟨z, hz⟩ := h
  subst hz
  subst hn
  obtain ⟨v, hv⟩ := z.trans y
  exact ⟨a, cap, v, ho, hw.trans hv, ⟨y, hv.symm⟩, hv ▸ hr, hc⟩
theorem psure_s {W : World} (w' : World) (hw : IsSince W w') (a : Option Addr) (l : List Pse) (c : Nat) (h : Els Pse.cs 4 W a l) (hl : l.length ≤ 100000) :
    Calls Try.prog 40 #[.slice a l.length c] w' (ListResS W w' l.length (l.map sureP)) := by
  have hs := hw
  obtain ⟨z, rfl⟩ := hw
  exact (psure_calls z.w (Since.self z.w) a l c (Since.els h z) hl).mono fun o w'' k => listResS hs (by rw [List.length_map]) k
theorem pposs_s {W : World} (w' : World) (hw : IsSince W w') (a : Option Addr) (l : List Pse) (c : Nat) (h : Els Pse.cs 4 W a l) (hl : l.length ≤ 100000) :
    Calls Try.prog 42 #[.slice a l.length c] w' (ListResS W w' l.length (l.map possP)) := by
  have hs := hw
  obtain ⟨z, rfl⟩ := hw
  exact (pposs_calls z.w (Since.self z.w) a l c (Since.els h z) hl).mono fun o w'' k => listResS hs (by rw [List.length_map]) k
theorem setRes_mono {w : World} {Q R : List Win → Prop} (h : ∀ c, Q c → R c) {e : Int} {o : Ending} {w' : World} (k : SetRes w Q e o w') : SetRes w R e o w' := by
  obtain ⟨a, cap, u, y, h1, h2, h3, h4, h5⟩ := k
  exact ⟨a, cap, u, y, h1, h2, h3, h4, h _ h5⟩
theorem setRes_up {W w : World} {Q : List Win → Prop} (h : ∃ z : Since W, w = z.w) {e : Int} {o : Ending} {w' : World} (k : SetRes w Q e o w') : SetRes W Q e o w' := by
  obtain ⟨a, cap, u, y, h1, h2, h3, h4, h5⟩ := k
  obtain ⟨z, rfl⟩ := h
  obtain ⟨v, hv⟩ := z.trans y
  exact ⟨a, cap, u, v, h1, h2.trans hv, hv ▸ h3, h4, h5⟩
theorem commonP_s {W : World} (w' : World) (hw : IsSince W w') (p : Addr) (S : Win) (a1 : Option Addr) (l : List Win) (n c1 : Nat) (e : Int) (h1 : WinRow w' (some p) [S]) (h2 : WinRow w' a1 l) (hn : l.length = n) (hl : n ≤ 100000) (he : setE [S] l = e) :
    Calls Try.prog 39 #[.slice (some p) 1 1, .slice a1 n c1] w' (SetRes W (ComOk [S] l) e) := by
  subst hn; subst he
  exact (common_calls w' (Since.self w') (some p) [S] 1 a1 l c1 h1 h2 (by simp) hl).mono fun o w'' k => setRes_up hw k
theorem minusP_s {W : World} (w' : World) (hw : IsSince W w') (p : Addr) (S : Win) (a1 : Option Addr) (l : List Win) (n c1 : Nat) (e : Int) (h1 : WinRow w' (some p) [S]) (h2 : WinRow w' a1 l) (hn : l.length = n) (hl : n ≤ 100000) (he : setE [S] l = e) :
    Calls Try.prog 41 #[.slice (some p) 1 1, .slice a1 n c1] w' (SetRes W (MinOk [S] l) e) := by
  subst hn; subst he
  exact (minus_calls w' (Since.self w') (some p) [S] 1 a1 l c1 h1 h2 (by simp) hl).mono fun o w'' k => setRes_up hw k
theorem pau_of {r : Ride} (h : ivE r = 0) {c : List Win} (k : ComOk [sureW r] (r.pauses.map sureP) c) : SetOk (ivE r) (pauS r) (1 + r.pauses.length) c := by
  have hr := rideOk_of h
  have hw : sureW r = ⟨r.s1, max r.s1 r.e0⟩ := if_pos h
  have hb : (badW [sureW r] || badW (r.pauses.map sureP)) = false := by
    rw [sureP_good hr, hw, badW_one (sureW_vld hr)]; rfl
  have hs := k.ok hb
  refine ⟨fun _ => ⟨hs.n, fun t => ?_⟩, fun h' => (h' h).elim, by have := k.n; simpa using this⟩
  rw [hs.h]; show (hasW [sureW r] t && _) = _; rw [hasW_one]; rfl
theorem rid_of {r : Ride} (h : ivE r = 0) {c : List Win} (k : MinOk [sureW r] (r.pauses.map possP) c) : SetOk (ivE r) (ridS r) (1 + r.pauses.length) c := by
  have hr := rideOk_of h
  have hw : sureW r = ⟨r.s1, max r.s1 r.e0⟩ := if_pos h
  have hb : (badW [sureW r] || badW (r.pauses.map possP)) = false := by
    rw [possP_good hr, hw, badW_one (sureW_vld hr)]; rfl
  have hs := k.ok hb
  refine ⟨fun _ => ⟨hs.n, fun t => ?_⟩, fun h' => (h' h).elim, by have := k.n; simp at this; omega⟩
  rw [hs.h]; show (hasW [sureW r] t && _) = _; rw [hasW_one]; rfl
set_option maxRecDepth 100000 in
set_option maxHeartbeats 8000000 in
theorem partP_calls (w : World) (x : Since w) (r : Ride) (h : r.At w) :
    Calls Try.prog 38 #[.agg #[.int .i64 r.id, .int .i64 r.rd, .int .i64 r.s0, .int .i64 r.s1, .int .i64 r.e0, .int .i64 r.e1, .bool r.op, .slice r.la r.legs.length r.lc, .slice r.pa r.pauses.length r.pc, .int .i64 r.fw, .int .i64 r.fp, .int .i64 r.wh, .int .i64 r.pl], .func (.func 39) #[] #[], .func (.func 40) #[.slice r.pa r.pauses.length r.pc] #[]] x.w (SetRes w (SetOk (ivE r) (pauS r) (1 + r.pauses.length)) (ivE r)) := by
  have H := Lib.hid h
  clear h
  have Hc := Lib.hid (fun (w : World) (x : Since w) (h : r.At w) => sure_calls w x r h)
  have Hno := Lib.hid (show ∀ y : Since w, ivE r ≠ 0 → SetRes w (SetOk (ivE r) (pauS r) (1 + r.pauses.length)) (ivE r) (.returned (.tuple #[.slice none 0 0, .int .i64 (ivE r)])) y.w from fun y h => setRes_nil ⟨fun h' => (h h').elim, fun _ => rfl, by simp⟩ y)
  have Hyes := Lib.hid (show ivE r = 0 → ∀ o w', SetRes w (ComOk [sureW r] (r.pauses.map sureP)) 0 o w' → SetRes w (SetOk (ivE r) (pauS r) (1 + r.pauses.length)) (ivE r) o w' from fun h o w' k => by
    have k2 := setRes_mono (R := SetOk (ivE r) (pauS r) (1 + r.pauses.length)) (fun c hc => pau_of h hc) k
    rw [h] at k2 ⊢; exact k2)
  have Hpl := Lib.hid (fun h : ivE r = 0 => (rideOk_of h).pn)
  have Hse := Lib.hid (show ivE r = 0 → setE [sureW r] (r.pauses.map sureP) = 0 from fun h => by
    have hr := rideOk_of h
    unfold setE
    rw [sureP_good hr, show sureW r = ⟨r.s1, max r.s1 r.e0⟩ from if_pos h, badW_one (sureW_vld hr)]; rfl)
  generalize SetRes w (SetOk (ivE r) (pauS r) (1 + r.pauses.length)) (ivE r) = PO at *
  generalize sureW r = S at *
  generalize ivE r = E at *
  go_enter Try.func38, Try.ntmps38
  go_upto_region 1 with fail
  have hb0_0 : ∀ y : Since (x.w.alloc (.cells #[.int .i64 r.id, .int .i64 r.rd, .int .i64 r.s0, .int .i64 r.s1, .int .i64 r.e0, .int .i64 r.e1, .bool r.op, .slice r.la r.legs.length r.lc, .slice r.pa r.pauses.length r.pc, .int .i64 r.fw, .int .i64 r.fp, .int .i64 r.wh, .int .i64 r.pl] 27)), y.w.cell? ⟨x.w.heap.size, 0, none⟩ = some (.int .i64 r.id) := fun y => Since.cell (by simp [go_sem]) (by first | (simp; done) | (simp; omega)) y
  have hb0_1 : ∀ y : Since (x.w.alloc (.cells #[.int .i64 r.id, .int .i64 r.rd, .int .i64 r.s0, .int .i64 r.s1, .int .i64 r.e0, .int .i64 r.e1, .bool r.op, .slice r.la r.legs.length r.lc, .slice r.pa r.pauses.length r.pc, .int .i64 r.fw, .int .i64 r.fp, .int .i64 r.wh, .int .i64 r.pl] 27)), y.w.cell? ⟨x.w.heap.size, 1, none⟩ = some (.int .i64 r.rd) := fun y => Since.cell (by simp [go_sem]) (by first | (simp; done) | (simp; omega)) y
  have hb0_2 : ∀ y : Since (x.w.alloc (.cells #[.int .i64 r.id, .int .i64 r.rd, .int .i64 r.s0, .int .i64 r.s1, .int .i64 r.e0, .int .i64 r.e1, .bool r.op, .slice r.la r.legs.length r.lc, .slice r.pa r.pauses.length r.pc, .int .i64 r.fw, .int .i64 r.fp, .int .i64 r.wh, .int .i64 r.pl] 27)), y.w.cell? ⟨x.w.heap.size, 2, none⟩ = some (.int .i64 r.s0) := fun y => Since.cell (by simp [go_sem]) (by first | (simp; done) | (simp; omega)) y
  have hb0_3 : ∀ y : Since (x.w.alloc (.cells #[.int .i64 r.id, .int .i64 r.rd, .int .i64 r.s0, .int .i64 r.s1, .int .i64 r.e0, .int .i64 r.e1, .bool r.op, .slice r.la r.legs.length r.lc, .slice r.pa r.pauses.length r.pc, .int .i64 r.fw, .int .i64 r.fp, .int .i64 r.wh, .int .i64 r.pl] 27)), y.w.cell? ⟨x.w.heap.size, 3, none⟩ = some (.int .i64 r.s1) := fun y => Since.cell (by simp [go_sem]) (by first | (simp; done) | (simp; omega)) y
  have hb0_4 : ∀ y : Since (x.w.alloc (.cells #[.int .i64 r.id, .int .i64 r.rd, .int .i64 r.s0, .int .i64 r.s1, .int .i64 r.e0, .int .i64 r.e1, .bool r.op, .slice r.la r.legs.length r.lc, .slice r.pa r.pauses.length r.pc, .int .i64 r.fw, .int .i64 r.fp, .int .i64 r.wh, .int .i64 r.pl] 27)), y.w.cell? ⟨x.w.heap.size, 4, none⟩ = some (.int .i64 r.e0) := fun y => Since.cell (by simp [go_sem]) (by first | (simp; done) | (simp; omega)) y
  have hb0_5 : ∀ y : Since (x.w.alloc (.cells #[.int .i64 r.id, .int .i64 r.rd, .int .i64 r.s0, .int .i64 r.s1, .int .i64 r.e0, .int .i64 r.e1, .bool r.op, .slice r.la r.legs.length r.lc, .slice r.pa r.pauses.length r.pc, .int .i64 r.fw, .int .i64 r.fp, .int .i64 r.wh, .int .i64 r.pl] 27)), y.w.cell? ⟨x.w.heap.size, 5, none⟩ = some (.int .i64 r.e1) := fun y => Since.cell (by simp [go_sem]) (by first | (simp; done) | (simp; omega)) y
  have hb0_6 : ∀ y : Since (x.w.alloc (.cells #[.int .i64 r.id, .int .i64 r.rd, .int .i64 r.s0, .int .i64 r.s1, .int .i64 r.e0, .int .i64 r.e1, .bool r.op, .slice r.la r.legs.length r.lc, .slice r.pa r.pauses.length r.pc, .int .i64 r.fw, .int .i64 r.fp, .int .i64 r.wh, .int .i64 r.pl] 27)), y.w.cell? ⟨x.w.heap.size, 6, none⟩ = some (.bool r.op) := fun y => Since.cell (by simp [go_sem]) (by first | (simp; done) | (simp; omega)) y
  have hb0_7 : ∀ y : Since (x.w.alloc (.cells #[.int .i64 r.id, .int .i64 r.rd, .int .i64 r.s0, .int .i64 r.s1, .int .i64 r.e0, .int .i64 r.e1, .bool r.op, .slice r.la r.legs.length r.lc, .slice r.pa r.pauses.length r.pc, .int .i64 r.fw, .int .i64 r.fp, .int .i64 r.wh, .int .i64 r.pl] 27)), y.w.cell? ⟨x.w.heap.size, 7, none⟩ = some (.slice r.la r.legs.length r.lc) := fun y => Since.cell (by simp [go_sem]) (by first | (simp; done) | (simp; omega)) y
  have hb0_8 : ∀ y : Since (x.w.alloc (.cells #[.int .i64 r.id, .int .i64 r.rd, .int .i64 r.s0, .int .i64 r.s1, .int .i64 r.e0, .int .i64 r.e1, .bool r.op, .slice r.la r.legs.length r.lc, .slice r.pa r.pauses.length r.pc, .int .i64 r.fw, .int .i64 r.fp, .int .i64 r.wh, .int .i64 r.pl] 27)), y.w.cell? ⟨x.w.heap.size, 8, none⟩ = some (.slice r.pa r.pauses.length r.pc) := fun y => Since.cell (by simp [go_sem]) (by first | (simp; done) | (simp; omega)) y
  have hb0_9 : ∀ y : Since (x.w.alloc (.cells #[.int .i64 r.id, .int .i64 r.rd, .int .i64 r.s0, .int .i64 r.s1, .int .i64 r.e0, .int .i64 r.e1, .bool r.op, .slice r.la r.legs.length r.lc, .slice r.pa r.pauses.length r.pc, .int .i64 r.fw, .int .i64 r.fp, .int .i64 r.wh, .int .i64 r.pl] 27)), y.w.cell? ⟨x.w.heap.size, 9, none⟩ = some (.int .i64 r.fw) := fun y => Since.cell (by simp [go_sem]) (by first | (simp; done) | (simp; omega)) y
  have hb0_10 : ∀ y : Since (x.w.alloc (.cells #[.int .i64 r.id, .int .i64 r.rd, .int .i64 r.s0, .int .i64 r.s1, .int .i64 r.e0, .int .i64 r.e1, .bool r.op, .slice r.la r.legs.length r.lc, .slice r.pa r.pauses.length r.pc, .int .i64 r.fw, .int .i64 r.fp, .int .i64 r.wh, .int .i64 r.pl] 27)), y.w.cell? ⟨x.w.heap.size, 10, none⟩ = some (.int .i64 r.fp) := fun y => Since.cell (by simp [go_sem]) (by first | (simp; done) | (simp; omega)) y
  have hb0_11 : ∀ y : Since (x.w.alloc (.cells #[.int .i64 r.id, .int .i64 r.rd, .int .i64 r.s0, .int .i64 r.s1, .int .i64 r.e0, .int .i64 r.e1, .bool r.op, .slice r.la r.legs.length r.lc, .slice r.pa r.pauses.length r.pc, .int .i64 r.fw, .int .i64 r.fp, .int .i64 r.wh, .int .i64 r.pl] 27)), y.w.cell? ⟨x.w.heap.size, 11, none⟩ = some (.int .i64 r.wh) := fun y => Since.cell (by simp [go_sem]) (by first | (simp; done) | (simp; omega)) y
  have hb0_12 : ∀ y : Since (x.w.alloc (.cells #[.int .i64 r.id, .int .i64 r.rd, .int .i64 r.s0, .int .i64 r.s1, .int .i64 r.e0, .int .i64 r.e1, .bool r.op, .slice r.la r.legs.length r.lc, .slice r.pa r.pauses.length r.pc, .int .i64 r.fw, .int .i64 r.fp, .int .i64 r.wh, .int .i64 r.pl] 27)), y.w.cell? ⟨x.w.heap.size, 12, none⟩ = some (.int .i64 r.pl) := fun y => Since.cell (by simp [go_sem]) (by first | (simp; done) | (simp; omega)) y
  have hf0 : ∀ (y : Since (x.w.alloc (.cells #[.int .i64 r.id, .int .i64 r.rd, .int .i64 r.s0, .int .i64 r.s1, .int .i64 r.e0, .int .i64 r.e1, .bool r.op, .slice r.la r.legs.length r.lc, .slice r.pa r.pauses.length r.pc, .int .i64 r.fw, .int .i64 r.fp, .int .i64 r.wh, .int .i64 r.pl] 27))) (o : Nat), y.w.frozen? ⟨x.w.heap.size, o, none⟩ = false := fun y o => Since.free (by simp [go_sem]) (by first | (simp; done) | (simp; omega)) y
  have hWup : ∃ z : Since w, (x.w.alloc (.cells #[.int .i64 r.id, .int .i64 r.rd, .int .i64 r.s0, .int .i64 r.s1, .int .i64 r.e0, .int .i64 r.e1, .bool r.op, .slice r.la r.legs.length r.lc, .slice r.pa r.pauses.length r.pc, .int .i64 r.fw, .int .i64 r.fp, .int .i64 r.wh, .int .i64 r.pl] 27)) = z.w := x.alloc _
  obtain ⟨y0, hy0⟩ := Since.refl (x.w.alloc (.cells #[.int .i64 r.id, .int .i64 r.rd, .int .i64 r.s0, .int .i64 r.s1, .int .i64 r.e0, .int .i64 r.e1, .bool r.op, .slice r.la r.legs.length r.lc, .slice r.pa r.pauses.length r.pc, .int .i64 r.fw, .int .i64 r.fp, .int .i64 r.wh, .int .i64 r.pl] 27))
  have Hbx := Lib.hid (And.intro x.b.size (show x.w.heap.size + 1 = (x.w.alloc (.cells #[.int .i64 r.id, .int .i64 r.rd, .int .i64 r.s0, .int .i64 r.s1, .int .i64 r.e0, .int .i64 r.e1, .bool r.op, .slice r.la r.legs.length r.lc, .slice r.pa r.pauses.length r.pc, .int .i64 r.fw, .int .i64 r.fp, .int .i64 r.wh, .int .i64 r.pl] 27)).heap.size from by simp))
  generalize hW : (x.w.alloc (.cells #[.int .i64 r.id, .int .i64 r.rd, .int .i64 r.s0, .int .i64 r.s1, .int .i64 r.e0, .int .i64 r.e1, .bool r.op, .slice r.la r.legs.length r.lc, .slice r.pa r.pauses.length r.pc, .int .i64 r.fw, .int .i64 r.fp, .int .i64 r.wh, .int .i64 r.pl] 27)) = W at *
  clear hW
  generalize x.w.heap.size = bx at *
  have Hup := Lib.hid (Since.up hWup)
  rw [hy0]
  clear hy0
  replace H := Lib.hid (H.out.to hWup)
  clear hWup
  go_upto_region 2 with (go_at_call 12; ((with_reducible refine (Hc.out W y0 H.out).mono ?_); rintro _ _ ⟨rfl, y1, rfl⟩))
  have hs0 : (y1.w.alloc (.cells #[.int .i64 S.f, .int .i64 S.t] 31)).cell? ⟨y1.w.heap.size, 0, none⟩ = some (.int .i64 S.f) := by simp [go_sem]
  have hs1 : (y1.w.alloc (.cells #[.int .i64 S.f, .int .i64 S.t] 31)).cell? ⟨y1.w.heap.size, 1, none⟩ = some (.int .i64 S.t) := by simp [go_sem]
  have hsf : ∀ o, (y1.w.alloc (.cells #[.int .i64 S.f, .int .i64 S.t] 31)).frozen? ⟨y1.w.heap.size, o, none⟩ = false := fun o => by simp [go_sem]
  have hlt0 : y1.w.heap.size < (y1.w.alloc (.cells #[.int .i64 S.f, .int .i64 S.t] 31)).heap.size := by simp
  have hst0 : ∃ zz : Since y1.w, (y1.w.alloc (.cells #[.int .i64 S.f, .int .i64 S.t] 31)) = zz.w := IsSince.alloc (IsSince.self _) _
  have hsz0 := y1.b.size
  obtain ⟨y2, e2⟩ := IsSince.alloc (IsSince.of y1) (.cells #[.int .i64 S.f, .int .i64 S.t] 31)
  rw [e2] at hs0 hs1 hsf hlt0 hst0 ⊢
  skip
  clear e2 hst0
  generalize y1.w.heap.size = gs at *
  have Hhs0 : ∀ q : Since y2.w, q.w.cell? ⟨gs, 0, none⟩ = some (.int .i64 S.f) := fun q => Since.cell hs0 (by omega) q
  have Hhs1 : ∀ q : Since y2.w, q.w.cell? ⟨gs, 1, none⟩ = some (.int .i64 S.t) := fun q => Since.cell hs1 (by omega) q
  have Hhsf : ∀ (q : Since y2.w) (o : Nat), q.w.frozen? ⟨gs, o, none⟩ = false := fun q o => Since.free (hsf o) (by omega) q
  have Hhsg := Lib.hid (And.intro hsz0 hlt0)
  clear hlt0 hsz0
  by_cases he : E = 0
  · have hpl := Hpl.out he
    have Hse2 := Lib.hid (Hse.out he)
    have Hyes2 := Lib.hid (Hyes.out he)
    subst he
    have Hps := Lib.hid (fun (w' : World) (hw : IsSince y2.w w') => psure_s w' hw r.pa r.pauses r.pc (Since.els H.out.p y2) (by omega))
    have Hup2 := Lib.hid (show ∀ w', IsSince y2.w w' → IsSince w w' from fun w' h => by obtain ⟨z, rfl⟩ := h; obtain ⟨u, hu⟩ := y2.trans z; rw [hu]; exact Hup.out u)
    have Hlm := Lib.hid (show (r.pauses.map sureP).length = r.pauses.length from List.length_map _)
    have ka0 := fun w' (h : IsSince y2.w w') => IsSince.cell Hhs0 h
    have ka1 := fun w' (h : IsSince y2.w w') => IsSince.cell Hhs1 h
    clear Hc Hno Hyes Hpl Hse hs0 hs1 hsf Hhs0 Hhs1 Hhsf hb0_0 hb0_1 hb0_2 hb0_3 hb0_4 hb0_5 hb0_6 hb0_7 hb0_8 hb0_9 hb0_10 hb0_11 hb0_12 hf0
    go_upto_region 4 with fail
    go_region_held3 (fun w' => IsSince y2.w w') (first | assumption | exact IsSince.drew' (IsSince.self _) | exact IsSince.of _ | exact IsSince.alloc (IsSince.drew' (IsSince.self _)) _ | exact IsSince.alloc (by assumption) _) (first | (go_at_call 40; ((with_reducible refine (Hps.out _ (by assumption)).mono ?_); rintro _ _ ⟨a1, c1, z1, rfl, rfl, hz, hrow, hcap⟩)) | (go_at_call 39; ((with_reducible refine (commonP_s _ (by assumption : IsSince y2.w _) _ S a1 (r.pauses.map sureP) _ _ 0 ?ha ?hb Hlm.out (by omega) Hse2.out).mono ?_); (case ha => first | exact ((els_one _ S).to (IsSince.drew' (IsSince.self _))).to hz | exact els_one _ S | exact (els_one _ S).to (IsSince.drew' (IsSince.self _))); (case hb => first | exact hrow | exact hrow.to (IsSince.alloc (IsSince.self _) _)); rintro _ _ ⟨a5, c5, u5, y5, rfl, rfl, hr5, hc5, hq5⟩)))
    all_goals
      have H5 := Lib.hid (Hyes2.out _ _ (setRes_up (Hup2.out _ (IsSince.self _)) ⟨a5, c5, u5, y5, rfl, rfl, hr5, hc5, hq5⟩))
      clear hr5 hc5 hq5 hrow hz hcap
      go_wp2_with fail
      exact H5.out
  · have hee : (E != 0) = true := by simpa using he
    have Hno2 := Lib.hid (fun y : Since w => Hno.out y he)
    clear he
    go_wp2_with fail
    obtain ⟨z, hz⟩ := Hup.out y2
    rw [hz]
    exact Hno2.out z
set_option maxRecDepth 100000 in
set_option maxHeartbeats 8000000 in
theorem partR_calls (w : World) (x : Since w) (r : Ride) (h : r.At w) :
    Calls Try.prog 38 #[.agg #[.int .i64 r.id, .int .i64 r.rd, .int .i64 r.s0, .int .i64 r.s1, .int .i64 r.e0, .int .i64 r.e1, .bool r.op, .slice r.la r.legs.length r.lc, .slice r.pa r.pauses.length r.pc, .int .i64 r.fw, .int .i64 r.fp, .int .i64 r.wh, .int .i64 r.pl], .func (.func 41) #[] #[], .func (.func 42) #[.slice r.pa r.pauses.length r.pc] #[]] x.w (SetRes w (SetOk (ivE r) (ridS r) (1 + r.pauses.length)) (ivE r)) := by
  have H := Lib.hid h
  clear h
  have Hc := Lib.hid (fun (w : World) (x : Since w) (h : r.At w) => sure_calls w x r h)
  have Hno := Lib.hid (show ∀ y : Since w, ivE r ≠ 0 → SetRes w (SetOk (ivE r) (ridS r) (1 + r.pauses.length)) (ivE r) (.returned (.tuple #[.slice none 0 0, .int .i64 (ivE r)])) y.w from fun y h => setRes_nil ⟨fun h' => (h h').elim, fun _ => rfl, by simp⟩ y)
  have Hyes := Lib.hid (show ivE r = 0 → ∀ o w', SetRes w (MinOk [sureW r] (r.pauses.map possP)) 0 o w' → SetRes w (SetOk (ivE r) (ridS r) (1 + r.pauses.length)) (ivE r) o w' from fun h o w' k => by
    have k2 := setRes_mono (R := SetOk (ivE r) (ridS r) (1 + r.pauses.length)) (fun c hc => rid_of h hc) k
    rw [h] at k2 ⊢; exact k2)
  have Hpl := Lib.hid (fun h : ivE r = 0 => (rideOk_of h).pn)
  have Hse := Lib.hid (show ivE r = 0 → setE [sureW r] (r.pauses.map possP) = 0 from fun h => by
    have hr := rideOk_of h
    unfold setE
    rw [possP_good hr, show sureW r = ⟨r.s1, max r.s1 r.e0⟩ from if_pos h, badW_one (sureW_vld hr)]; rfl)
  generalize SetRes w (SetOk (ivE r) (ridS r) (1 + r.pauses.length)) (ivE r) = PO at *
  generalize sureW r = S at *
  generalize ivE r = E at *
  go_enter Try.func38, Try.ntmps38
  go_upto_region 1 with fail
  have hb0_0 : ∀ y : Since (x.w.alloc (.cells #[.int .i64 r.id, .int .i64 r.rd, .int .i64 r.s0, .int .i64 r.s1, .int .i64 r.e0, .int .i64 r.e1, .bool r.op, .slice r.la r.legs.length r.lc, .slice r.pa r.pauses.length r.pc, .int .i64 r.fw, .int .i64 r.fp, .int .i64 r.wh, .int .i64 r.pl] 27)), y.w.cell? ⟨x.w.heap.size, 0, none⟩ = some (.int .i64 r.id) := fun y => Since.cell (by simp [go_sem]) (by first | (simp; done) | (simp; omega)) y
  have hb0_1 : ∀ y : Since (x.w.alloc (.cells #[.int .i64 r.id, .int .i64 r.rd, .int .i64 r.s0, .int .i64 r.s1, .int .i64 r.e0, .int .i64 r.e1, .bool r.op, .slice r.la r.legs.length r.lc, .slice r.pa r.pauses.length r.pc, .int .i64 r.fw, .int .i64 r.fp, .int .i64 r.wh, .int .i64 r.pl] 27)), y.w.cell? ⟨x.w.heap.size, 1, none⟩ = some (.int .i64 r.rd) := fun y => Since.cell (by simp [go_sem]) (by first | (simp; done) | (simp; omega)) y
  have hb0_2 : ∀ y : Since (x.w.alloc (.cells #[.int .i64 r.id, .int .i64 r.rd, .int .i64 r.s0, .int .i64 r.s1, .int .i64 r.e0, .int .i64 r.e1, .bool r.op, .slice r.la r.legs.length r.lc, .slice r.pa r.pauses.length r.pc, .int .i64 r.fw, .int .i64 r.fp, .int .i64 r.wh, .int .i64 r.pl] 27)), y.w.cell? ⟨x.w.heap.size, 2, none⟩ = some (.int .i64 r.s0) := fun y => Since.cell (by simp [go_sem]) (by first | (simp; done) | (simp; omega)) y
  have hb0_3 : ∀ y : Since (x.w.alloc (.cells #[.int .i64 r.id, .int .i64 r.rd, .int .i64 r.s0, .int .i64 r.s1, .int .i64 r.e0, .int .i64 r.e1, .bool r.op, .slice r.la r.legs.length r.lc, .slice r.pa r.pauses.length r.pc, .int .i64 r.fw, .int .i64 r.fp, .int .i64 r.wh, .int .i64 r.pl] 27)), y.w.cell? ⟨x.w.heap.size, 3, none⟩ = some (.int .i64 r.s1) := fun y => Since.cell (by simp [go_sem]) (by first | (simp; done) | (simp; omega)) y
  have hb0_4 : ∀ y : Since (x.w.alloc (.cells #[.int .i64 r.id, .int .i64 r.rd, .int .i64 r.s0, .int .i64 r.s1, .int .i64 r.e0, .int .i64 r.e1, .bool r.op, .slice r.la r.legs.length r.lc, .slice r.pa r.pauses.length r.pc, .int .i64 r.fw, .int .i64 r.fp, .int .i64 r.wh, .int .i64 r.pl] 27)), y.w.cell? ⟨x.w.heap.size, 4, none⟩ = some (.int .i64 r.e0) := fun y => Since.cell (by simp [go_sem]) (by first | (simp; done) | (simp; omega)) y
  have hb0_5 : ∀ y : Since (x.w.alloc (.cells #[.int .i64 r.id, .int .i64 r.rd, .int .i64 r.s0, .int .i64 r.s1, .int .i64 r.e0, .int .i64 r.e1, .bool r.op, .slice r.la r.legs.length r.lc, .slice r.pa r.pauses.length r.pc, .int .i64 r.fw, .int .i64 r.fp, .int .i64 r.wh, .int .i64 r.pl] 27)), y.w.cell? ⟨x.w.heap.size, 5, none⟩ = some (.int .i64 r.e1) := fun y => Since.cell (by simp [go_sem]) (by first | (simp; done) | (simp; omega)) y
  have hb0_6 : ∀ y : Since (x.w.alloc (.cells #[.int .i64 r.id, .int .i64 r.rd, .int .i64 r.s0, .int .i64 r.s1, .int .i64 r.e0, .int .i64 r.e1, .bool r.op, .slice r.la r.legs.length r.lc, .slice r.pa r.pauses.length r.pc, .int .i64 r.fw, .int .i64 r.fp, .int .i64 r.wh, .int .i64 r.pl] 27)), y.w.cell? ⟨x.w.heap.size, 6, none⟩ = some (.bool r.op) := fun y => Since.cell (by simp [go_sem]) (by first | (simp; done) | (simp; omega)) y
  have hb0_7 : ∀ y : Since (x.w.alloc (.cells #[.int .i64 r.id, .int .i64 r.rd, .int .i64 r.s0, .int .i64 r.s1, .int .i64 r.e0, .int .i64 r.e1, .bool r.op, .slice r.la r.legs.length r.lc, .slice r.pa r.pauses.length r.pc, .int .i64 r.fw, .int .i64 r.fp, .int .i64 r.wh, .int .i64 r.pl] 27)), y.w.cell? ⟨x.w.heap.size, 7, none⟩ = some (.slice r.la r.legs.length r.lc) := fun y => Since.cell (by simp [go_sem]) (by first | (simp; done) | (simp; omega)) y
  have hb0_8 : ∀ y : Since (x.w.alloc (.cells #[.int .i64 r.id, .int .i64 r.rd, .int .i64 r.s0, .int .i64 r.s1, .int .i64 r.e0, .int .i64 r.e1, .bool r.op, .slice r.la r.legs.length r.lc, .slice r.pa r.pauses.length r.pc, .int .i64 r.fw, .int .i64 r.fp, .int .i64 r.wh, .int .i64 r.pl] 27)), y.w.cell? ⟨x.w.heap.size, 8, none⟩ = some (.slice r.pa r.pauses.length r.pc) := fun y => Since.cell (by simp [go_sem]) (by first | (simp; done) | (simp; omega)) y
  have hb0_9 : ∀ y : Since (x.w.alloc (.cells #[.int .i64 r.id, .int .i64 r.rd, .int .i64 r.s0, .int .i64 r.s1, .int .i64 r.e0, .int .i64 r.e1, .bool r.op, .slice r.la r.legs.length r.lc, .slice r.pa r.pauses.length r.pc, .int .i64 r.fw, .int .i64 r.fp, .int .i64 r.wh, .int .i64 r.pl] 27)), y.w.cell? ⟨x.w.heap.size, 9, none⟩ = some (.int .i64 r.fw) := fun y => Since.cell (by simp [go_sem]) (by first | (simp; done) | (simp; omega)) y
  have hb0_10 : ∀ y : Since (x.w.alloc (.cells #[.int .i64 r.id, .int .i64 r.rd, .int .i64 r.s0, .int .i64 r.s1, .int .i64 r.e0, .int .i64 r.e1, .bool r.op, .slice r.la r.legs.length r.lc, .slice r.pa r.pauses.length r.pc, .int .i64 r.fw, .int .i64 r.fp, .int .i64 r.wh, .int .i64 r.pl] 27)), y.w.cell? ⟨x.w.heap.size, 10, none⟩ = some (.int .i64 r.fp) := fun y => Since.cell (by simp [go_sem]) (by first | (simp; done) | (simp; omega)) y
  have hb0_11 : ∀ y : Since (x.w.alloc (.cells #[.int .i64 r.id, .int .i64 r.rd, .int .i64 r.s0, .int .i64 r.s1, .int .i64 r.e0, .int .i64 r.e1, .bool r.op, .slice r.la r.legs.length r.lc, .slice r.pa r.pauses.length r.pc, .int .i64 r.fw, .int .i64 r.fp, .int .i64 r.wh, .int .i64 r.pl] 27)), y.w.cell? ⟨x.w.heap.size, 11, none⟩ = some (.int .i64 r.wh) := fun y => Since.cell (by simp [go_sem]) (by first | (simp; done) | (simp; omega)) y
  have hb0_12 : ∀ y : Since (x.w.alloc (.cells #[.int .i64 r.id, .int .i64 r.rd, .int .i64 r.s0, .int .i64 r.s1, .int .i64 r.e0, .int .i64 r.e1, .bool r.op, .slice r.la r.legs.length r.lc, .slice r.pa r.pauses.length r.pc, .int .i64 r.fw, .int .i64 r.fp, .int .i64 r.wh, .int .i64 r.pl] 27)), y.w.cell? ⟨x.w.heap.size, 12, none⟩ = some (.int .i64 r.pl) := fun y => Since.cell (by simp [go_sem]) (by first | (simp; done) | (simp; omega)) y
  have hf0 : ∀ (y : Since (x.w.alloc (.cells #[.int .i64 r.id, .int .i64 r.rd, .int .i64 r.s0, .int .i64 r.s1, .int .i64 r.e0, .int .i64 r.e1, .bool r.op, .slice r.la r.legs.length r.lc, .slice r.pa r.pauses.length r.pc, .int .i64 r.fw, .int .i64 r.fp, .int .i64 r.wh, .int .i64 r.pl] 27))) (o : Nat), y.w.frozen? ⟨x.w.heap.size, o, none⟩ = false := fun y o => Since.free (by simp [go_sem]) (by first | (simp; done) | (simp; omega)) y
  have hWup : ∃ z : Since w, (x.w.alloc (.cells #[.int .i64 r.id, .int .i64 r.rd, .int .i64 r.s0, .int .i64 r.s1, .int .i64 r.e0, .int .i64 r.e1, .bool r.op, .slice r.la r.legs.length r.lc, .slice r.pa r.pauses.length r.pc, .int .i64 r.fw, .int .i64 r.fp, .int .i64 r.wh, .int .i64 r.pl] 27)) = z.w := x.alloc _
  obtain ⟨y0, hy0⟩ := Since.refl (x.w.alloc (.cells #[.int .i64 r.id, .int .i64 r.rd, .int .i64 r.s0, .int .i64 r.s1, .int .i64 r.e0, .int .i64 r.e1, .bool r.op, .slice r.la r.legs.length r.lc, .slice r.pa r.pauses.length r.pc, .int .i64 r.fw, .int .i64 r.fp, .int .i64 r.wh, .int .i64 r.pl] 27))
  have Hbx := Lib.hid (And.intro x.b.size (show x.w.heap.size + 1 = (x.w.alloc (.cells #[.int .i64 r.id, .int .i64 r.rd, .int .i64 r.s0, .int .i64 r.s1, .int .i64 r.e0, .int .i64 r.e1, .bool r.op, .slice r.la r.legs.length r.lc, .slice r.pa r.pauses.length r.pc, .int .i64 r.fw, .int .i64 r.fp, .int .i64 r.wh, .int .i64 r.pl] 27)).heap.size from by simp))
  generalize hW : (x.w.alloc (.cells #[.int .i64 r.id, .int .i64 r.rd, .int .i64 r.s0, .int .i64 r.s1, .int .i64 r.e0, .int .i64 r.e1, .bool r.op, .slice r.la r.legs.length r.lc, .slice r.pa r.pauses.length r.pc, .int .i64 r.fw, .int .i64 r.fp, .int .i64 r.wh, .int .i64 r.pl] 27)) = W at *
  clear hW
  generalize x.w.heap.size = bx at *
  have Hup := Lib.hid (Since.up hWup)
  rw [hy0]
  clear hy0
  replace H := Lib.hid (H.out.to hWup)
  clear hWup
  go_upto_region 2 with (go_at_call 12; ((with_reducible refine (Hc.out W y0 H.out).mono ?_); rintro _ _ ⟨rfl, y1, rfl⟩))
  have hs0 : (y1.w.alloc (.cells #[.int .i64 S.f, .int .i64 S.t] 31)).cell? ⟨y1.w.heap.size, 0, none⟩ = some (.int .i64 S.f) := by simp [go_sem]
  have hs1 : (y1.w.alloc (.cells #[.int .i64 S.f, .int .i64 S.t] 31)).cell? ⟨y1.w.heap.size, 1, none⟩ = some (.int .i64 S.t) := by simp [go_sem]
  have hsf : ∀ o, (y1.w.alloc (.cells #[.int .i64 S.f, .int .i64 S.t] 31)).frozen? ⟨y1.w.heap.size, o, none⟩ = false := fun o => by simp [go_sem]
  have hlt0 : y1.w.heap.size < (y1.w.alloc (.cells #[.int .i64 S.f, .int .i64 S.t] 31)).heap.size := by simp
  have hst0 : ∃ zz : Since y1.w, (y1.w.alloc (.cells #[.int .i64 S.f, .int .i64 S.t] 31)) = zz.w := IsSince.alloc (IsSince.self _) _
  have hsz0 := y1.b.size
  obtain ⟨y2, e2⟩ := IsSince.alloc (IsSince.of y1) (.cells #[.int .i64 S.f, .int .i64 S.t] 31)
  rw [e2] at hs0 hs1 hsf hlt0 hst0 ⊢
  skip
  clear e2 hst0
  generalize y1.w.heap.size = gs at *
  have Hhs0 : ∀ q : Since y2.w, q.w.cell? ⟨gs, 0, none⟩ = some (.int .i64 S.f) := fun q => Since.cell hs0 (by omega) q
  have Hhs1 : ∀ q : Since y2.w, q.w.cell? ⟨gs, 1, none⟩ = some (.int .i64 S.t) := fun q => Since.cell hs1 (by omega) q
  have Hhsf : ∀ (q : Since y2.w) (o : Nat), q.w.frozen? ⟨gs, o, none⟩ = false := fun q o => Since.free (hsf o) (by omega) q
  have Hhsg := Lib.hid (And.intro hsz0 hlt0)
  clear hlt0 hsz0
  by_cases he : E = 0
  · have hpl := Hpl.out he
    have Hse2 := Lib.hid (Hse.out he)
    have Hyes2 := Lib.hid (Hyes.out he)
    subst he
    have Hps := Lib.hid (fun (w' : World) (hw : IsSince y2.w w') => pposs_s w' hw r.pa r.pauses r.pc (Since.els H.out.p y2) (by omega))
    have Hup2 := Lib.hid (show ∀ w', IsSince y2.w w' → IsSince w w' from fun w' h => by obtain ⟨z, rfl⟩ := h; obtain ⟨u, hu⟩ := y2.trans z; rw [hu]; exact Hup.out u)
    have Hlm := Lib.hid (show (r.pauses.map possP).length = r.pauses.length from List.length_map _)
    have ka0 := fun w' (h : IsSince y2.w w') => IsSince.cell Hhs0 h
    have ka1 := fun w' (h : IsSince y2.w w') => IsSince.cell Hhs1 h
    clear Hc Hno Hyes Hpl Hse hs0 hs1 hsf Hhs0 Hhs1 Hhsf hb0_0 hb0_1 hb0_2 hb0_3 hb0_4 hb0_5 hb0_6 hb0_7 hb0_8 hb0_9 hb0_10 hb0_11 hb0_12 hf0
    go_upto_region 4 with fail
    go_region_held3 (fun w' => IsSince y2.w w') (first | assumption | exact IsSince.drew' (IsSince.self _) | exact IsSince.of _ | exact IsSince.alloc (IsSince.drew' (IsSince.self _)) _ | exact IsSince.alloc (by assumption) _) (first | (go_at_call 42; ((with_reducible refine (Hps.out _ (by assumption)).mono ?_); rintro _ _ ⟨a1, c1, z1, rfl, rfl, hz, hrow, hcap⟩)) | (go_at_call 41; ((with_reducible refine (minusP_s _ (by assumption : IsSince y2.w _) _ S a1 (r.pauses.map possP) _ _ 0 ?ha ?hb Hlm.out (by omega) Hse2.out).mono ?_); (case ha => first | exact ((els_one _ S).to (IsSince.drew' (IsSince.self _))).to hz | exact els_one _ S | exact (els_one _ S).to (IsSince.drew' (IsSince.self _))); (case hb => first | exact hrow | exact hrow.to (IsSince.alloc (IsSince.self _) _)); rintro _ _ ⟨a5, c5, u5, y5, rfl, rfl, hr5, hc5, hq5⟩)))
    all_goals
      have H5 := Lib.hid (Hyes2.out _ _ (setRes_up (Hup2.out _ (IsSince.self _)) ⟨a5, c5, u5, y5, rfl, rfl, hr5, hc5, hq5⟩))
      clear hr5 hc5 hq5 hrow hz hcap
      go_wp2_with fail
      exact H5.out
  · have hee : (E != 0) = true := by simpa using he
    have Hno2 := Lib.hid (fun y : Since w => Hno.out y he)
    clear he
    go_wp2_with fail
    obtain ⟨z, hz⟩ := Hup.out y2
    rw [hz]
    exact Hno2.out z
set_option maxRecDepth 100000 in
set_option maxHeartbeats 4000000 in
theorem pausing_calls (w : World) (x : Since w) (r : Ride) (h : r.At w) :
    Calls Try.prog 16 #[.agg #[.int .i64 r.id, .int .i64 r.rd, .int .i64 r.s0, .int .i64 r.s1, .int .i64 r.e0, .int .i64 r.e1, .bool r.op, .slice r.la r.legs.length r.lc, .slice r.pa r.pauses.length r.pc, .int .i64 r.fw, .int .i64 r.fp, .int .i64 r.wh, .int .i64 r.pl]] x.w (SetRes w (SetOk (ivE r) (pauS r) (1 + r.pauses.length)) (ivE r)) := by
  have H := Lib.hid h
  clear h
  have Hc := Lib.hid (fun (w : World) (x : Since w) (h : r.At w) => partP_calls w x r h)
  have Hpost := Lib.hid (fun (W : World) (hW : ∃ z : Since w, W = z.w) o w' (k : SetRes W (SetOk (ivE r) (pauS r) (1 + r.pauses.length)) (ivE r) o w') => setRes_up hW k)
  generalize SetRes w (SetOk (ivE r) (pauS r) (1 + r.pauses.length)) (ivE r) = PO at *
  go_enter Try.func16, Try.ntmps16
  go_upto_region 1 with fail
  have hb0_0 : ∀ y : Since (x.w.alloc (.cells #[.int .i64 r.id, .int .i64 r.rd, .int .i64 r.s0, .int .i64 r.s1, .int .i64 r.e0, .int .i64 r.e1, .bool r.op, .slice r.la r.legs.length r.lc, .slice r.pa r.pauses.length r.pc, .int .i64 r.fw, .int .i64 r.fp, .int .i64 r.wh, .int .i64 r.pl] 27)), y.w.cell? ⟨x.w.heap.size, 0, none⟩ = some (.int .i64 r.id) := fun y => Since.cell (by simp [go_sem]) (by first | (simp; done) | (simp; omega)) y
  have hb0_1 : ∀ y : Since (x.w.alloc (.cells #[.int .i64 r.id, .int .i64 r.rd, .int .i64 r.s0, .int .i64 r.s1, .int .i64 r.e0, .int .i64 r.e1, .bool r.op, .slice r.la r.legs.length r.lc, .slice r.pa r.pauses.length r.pc, .int .i64 r.fw, .int .i64 r.fp, .int .i64 r.wh, .int .i64 r.pl] 27)), y.w.cell? ⟨x.w.heap.size, 1, none⟩ = some (.int .i64 r.rd) := fun y => Since.cell (by simp [go_sem]) (by first | (simp; done) | (simp; omega)) y
  have hb0_2 : ∀ y : Since (x.w.alloc (.cells #[.int .i64 r.id, .int .i64 r.rd, .int .i64 r.s0, .int .i64 r.s1, .int .i64 r.e0, .int .i64 r.e1, .bool r.op, .slice r.la r.legs.length r.lc, .slice r.pa r.pauses.length r.pc, .int .i64 r.fw, .int .i64 r.fp, .int .i64 r.wh, .int .i64 r.pl] 27)), y.w.cell? ⟨x.w.heap.size, 2, none⟩ = some (.int .i64 r.s0) := fun y => Since.cell (by simp [go_sem]) (by first | (simp; done) | (simp; omega)) y
  have hb0_3 : ∀ y : Since (x.w.alloc (.cells #[.int .i64 r.id, .int .i64 r.rd, .int .i64 r.s0, .int .i64 r.s1, .int .i64 r.e0, .int .i64 r.e1, .bool r.op, .slice r.la r.legs.length r.lc, .slice r.pa r.pauses.length r.pc, .int .i64 r.fw, .int .i64 r.fp, .int .i64 r.wh, .int .i64 r.pl] 27)), y.w.cell? ⟨x.w.heap.size, 3, none⟩ = some (.int .i64 r.s1) := fun y => Since.cell (by simp [go_sem]) (by first | (simp; done) | (simp; omega)) y
  have hb0_4 : ∀ y : Since (x.w.alloc (.cells #[.int .i64 r.id, .int .i64 r.rd, .int .i64 r.s0, .int .i64 r.s1, .int .i64 r.e0, .int .i64 r.e1, .bool r.op, .slice r.la r.legs.length r.lc, .slice r.pa r.pauses.length r.pc, .int .i64 r.fw, .int .i64 r.fp, .int .i64 r.wh, .int .i64 r.pl] 27)), y.w.cell? ⟨x.w.heap.size, 4, none⟩ = some (.int .i64 r.e0) := fun y => Since.cell (by simp [go_sem]) (by first | (simp; done) | (simp; omega)) y
  have hb0_5 : ∀ y : Since (x.w.alloc (.cells #[.int .i64 r.id, .int .i64 r.rd, .int .i64 r.s0, .int .i64 r.s1, .int .i64 r.e0, .int .i64 r.e1, .bool r.op, .slice r.la r.legs.length r.lc, .slice r.pa r.pauses.length r.pc, .int .i64 r.fw, .int .i64 r.fp, .int .i64 r.wh, .int .i64 r.pl] 27)), y.w.cell? ⟨x.w.heap.size, 5, none⟩ = some (.int .i64 r.e1) := fun y => Since.cell (by simp [go_sem]) (by first | (simp; done) | (simp; omega)) y
  have hb0_6 : ∀ y : Since (x.w.alloc (.cells #[.int .i64 r.id, .int .i64 r.rd, .int .i64 r.s0, .int .i64 r.s1, .int .i64 r.e0, .int .i64 r.e1, .bool r.op, .slice r.la r.legs.length r.lc, .slice r.pa r.pauses.length r.pc, .int .i64 r.fw, .int .i64 r.fp, .int .i64 r.wh, .int .i64 r.pl] 27)), y.w.cell? ⟨x.w.heap.size, 6, none⟩ = some (.bool r.op) := fun y => Since.cell (by simp [go_sem]) (by first | (simp; done) | (simp; omega)) y
  have hb0_7 : ∀ y : Since (x.w.alloc (.cells #[.int .i64 r.id, .int .i64 r.rd, .int .i64 r.s0, .int .i64 r.s1, .int .i64 r.e0, .int .i64 r.e1, .bool r.op, .slice r.la r.legs.length r.lc, .slice r.pa r.pauses.length r.pc, .int .i64 r.fw, .int .i64 r.fp, .int .i64 r.wh, .int .i64 r.pl] 27)), y.w.cell? ⟨x.w.heap.size, 7, none⟩ = some (.slice r.la r.legs.length r.lc) := fun y => Since.cell (by simp [go_sem]) (by first | (simp; done) | (simp; omega)) y
  have hb0_8 : ∀ y : Since (x.w.alloc (.cells #[.int .i64 r.id, .int .i64 r.rd, .int .i64 r.s0, .int .i64 r.s1, .int .i64 r.e0, .int .i64 r.e1, .bool r.op, .slice r.la r.legs.length r.lc, .slice r.pa r.pauses.length r.pc, .int .i64 r.fw, .int .i64 r.fp, .int .i64 r.wh, .int .i64 r.pl] 27)), y.w.cell? ⟨x.w.heap.size, 8, none⟩ = some (.slice r.pa r.pauses.length r.pc) := fun y => Since.cell (by simp [go_sem]) (by first | (simp; done) | (simp; omega)) y
  have hb0_9 : ∀ y : Since (x.w.alloc (.cells #[.int .i64 r.id, .int .i64 r.rd, .int .i64 r.s0, .int .i64 r.s1, .int .i64 r.e0, .int .i64 r.e1, .bool r.op, .slice r.la r.legs.length r.lc, .slice r.pa r.pauses.length r.pc, .int .i64 r.fw, .int .i64 r.fp, .int .i64 r.wh, .int .i64 r.pl] 27)), y.w.cell? ⟨x.w.heap.size, 9, none⟩ = some (.int .i64 r.fw) := fun y => Since.cell (by simp [go_sem]) (by first | (simp; done) | (simp; omega)) y
  have hb0_10 : ∀ y : Since (x.w.alloc (.cells #[.int .i64 r.id, .int .i64 r.rd, .int .i64 r.s0, .int .i64 r.s1, .int .i64 r.e0, .int .i64 r.e1, .bool r.op, .slice r.la r.legs.length r.lc, .slice r.pa r.pauses.length r.pc, .int .i64 r.fw, .int .i64 r.fp, .int .i64 r.wh, .int .i64 r.pl] 27)), y.w.cell? ⟨x.w.heap.size, 10, none⟩ = some (.int .i64 r.fp) := fun y => Since.cell (by simp [go_sem]) (by first | (simp; done) | (simp; omega)) y
  have hb0_11 : ∀ y : Since (x.w.alloc (.cells #[.int .i64 r.id, .int .i64 r.rd, .int .i64 r.s0, .int .i64 r.s1, .int .i64 r.e0, .int .i64 r.e1, .bool r.op, .slice r.la r.legs.length r.lc, .slice r.pa r.pauses.length r.pc, .int .i64 r.fw, .int .i64 r.fp, .int .i64 r.wh, .int .i64 r.pl] 27)), y.w.cell? ⟨x.w.heap.size, 11, none⟩ = some (.int .i64 r.wh) := fun y => Since.cell (by simp [go_sem]) (by first | (simp; done) | (simp; omega)) y
  have hb0_12 : ∀ y : Since (x.w.alloc (.cells #[.int .i64 r.id, .int .i64 r.rd, .int .i64 r.s0, .int .i64 r.s1, .int .i64 r.e0, .int .i64 r.e1, .bool r.op, .slice r.la r.legs.length r.lc, .slice r.pa r.pauses.length r.pc, .int .i64 r.fw, .int .i64 r.fp, .int .i64 r.wh, .int .i64 r.pl] 27)), y.w.cell? ⟨x.w.heap.size, 12, none⟩ = some (.int .i64 r.pl) := fun y => Since.cell (by simp [go_sem]) (by first | (simp; done) | (simp; omega)) y
  have hf0 : ∀ (y : Since (x.w.alloc (.cells #[.int .i64 r.id, .int .i64 r.rd, .int .i64 r.s0, .int .i64 r.s1, .int .i64 r.e0, .int .i64 r.e1, .bool r.op, .slice r.la r.legs.length r.lc, .slice r.pa r.pauses.length r.pc, .int .i64 r.fw, .int .i64 r.fp, .int .i64 r.wh, .int .i64 r.pl] 27))) (o : Nat), y.w.frozen? ⟨x.w.heap.size, o, none⟩ = false := fun y o => Since.free (by simp [go_sem]) (by first | (simp; done) | (simp; omega)) y
  have hWup : ∃ z : Since w, (x.w.alloc (.cells #[.int .i64 r.id, .int .i64 r.rd, .int .i64 r.s0, .int .i64 r.s1, .int .i64 r.e0, .int .i64 r.e1, .bool r.op, .slice r.la r.legs.length r.lc, .slice r.pa r.pauses.length r.pc, .int .i64 r.fw, .int .i64 r.fp, .int .i64 r.wh, .int .i64 r.pl] 27)) = z.w := x.alloc _
  obtain ⟨y0, hy0⟩ := Since.refl (x.w.alloc (.cells #[.int .i64 r.id, .int .i64 r.rd, .int .i64 r.s0, .int .i64 r.s1, .int .i64 r.e0, .int .i64 r.e1, .bool r.op, .slice r.la r.legs.length r.lc, .slice r.pa r.pauses.length r.pc, .int .i64 r.fw, .int .i64 r.fp, .int .i64 r.wh, .int .i64 r.pl] 27))
  have Hbx := Lib.hid (And.intro x.b.size (show x.w.heap.size + 1 = (x.w.alloc (.cells #[.int .i64 r.id, .int .i64 r.rd, .int .i64 r.s0, .int .i64 r.s1, .int .i64 r.e0, .int .i64 r.e1, .bool r.op, .slice r.la r.legs.length r.lc, .slice r.pa r.pauses.length r.pc, .int .i64 r.fw, .int .i64 r.fp, .int .i64 r.wh, .int .i64 r.pl] 27)).heap.size from by simp))
  generalize hW : (x.w.alloc (.cells #[.int .i64 r.id, .int .i64 r.rd, .int .i64 r.s0, .int .i64 r.s1, .int .i64 r.e0, .int .i64 r.e1, .bool r.op, .slice r.la r.legs.length r.lc, .slice r.pa r.pauses.length r.pc, .int .i64 r.fw, .int .i64 r.fp, .int .i64 r.wh, .int .i64 r.pl] 27)) = W at *
  clear hW
  generalize x.w.heap.size = bx at *
  have Hup := Lib.hid (Since.up hWup)
  rw [hy0]
  clear hy0
  replace H := Lib.hid (H.out.to hWup)
  have HW := Lib.hid hWup
  clear hWup
  go_wp2_with (go_at_call 38; ((with_reducible refine (Hc.out W y0 H.out).mono ?_); rintro _ _ ⟨ax, cx, u, y1, rfl, rfl, h1, h2, h3⟩; have H5 := Lib.hid (Hpost.out W HW.out _ _ ⟨ax, cx, u, y1, rfl, rfl, h1, h2, h3⟩); clear h1 h2 h3))
  exact H5.out
set_option maxRecDepth 100000 in
set_option maxHeartbeats 4000000 in
theorem riding_calls (w : World) (x : Since w) (r : Ride) (h : r.At w) :
    Calls Try.prog 18 #[.agg #[.int .i64 r.id, .int .i64 r.rd, .int .i64 r.s0, .int .i64 r.s1, .int .i64 r.e0, .int .i64 r.e1, .bool r.op, .slice r.la r.legs.length r.lc, .slice r.pa r.pauses.length r.pc, .int .i64 r.fw, .int .i64 r.fp, .int .i64 r.wh, .int .i64 r.pl]] x.w (SetRes w (SetOk (ivE r) (ridS r) (1 + r.pauses.length)) (ivE r)) := by
  have H := Lib.hid h
  clear h
  have Hc := Lib.hid (fun (w : World) (x : Since w) (h : r.At w) => partR_calls w x r h)
  have Hpost := Lib.hid (fun (W : World) (hW : ∃ z : Since w, W = z.w) o w' (k : SetRes W (SetOk (ivE r) (ridS r) (1 + r.pauses.length)) (ivE r) o w') => setRes_up hW k)
  generalize SetRes w (SetOk (ivE r) (ridS r) (1 + r.pauses.length)) (ivE r) = PO at *
  go_enter Try.func18, Try.ntmps18
  go_upto_region 1 with fail
  have hb0_0 : ∀ y : Since (x.w.alloc (.cells #[.int .i64 r.id, .int .i64 r.rd, .int .i64 r.s0, .int .i64 r.s1, .int .i64 r.e0, .int .i64 r.e1, .bool r.op, .slice r.la r.legs.length r.lc, .slice r.pa r.pauses.length r.pc, .int .i64 r.fw, .int .i64 r.fp, .int .i64 r.wh, .int .i64 r.pl] 27)), y.w.cell? ⟨x.w.heap.size, 0, none⟩ = some (.int .i64 r.id) := fun y => Since.cell (by simp [go_sem]) (by first | (simp; done) | (simp; omega)) y
  have hb0_1 : ∀ y : Since (x.w.alloc (.cells #[.int .i64 r.id, .int .i64 r.rd, .int .i64 r.s0, .int .i64 r.s1, .int .i64 r.e0, .int .i64 r.e1, .bool r.op, .slice r.la r.legs.length r.lc, .slice r.pa r.pauses.length r.pc, .int .i64 r.fw, .int .i64 r.fp, .int .i64 r.wh, .int .i64 r.pl] 27)), y.w.cell? ⟨x.w.heap.size, 1, none⟩ = some (.int .i64 r.rd) := fun y => Since.cell (by simp [go_sem]) (by first | (simp; done) | (simp; omega)) y
  have hb0_2 : ∀ y : Since (x.w.alloc (.cells #[.int .i64 r.id, .int .i64 r.rd, .int .i64 r.s0, .int .i64 r.s1, .int .i64 r.e0, .int .i64 r.e1, .bool r.op, .slice r.la r.legs.length r.lc, .slice r.pa r.pauses.length r.pc, .int .i64 r.fw, .int .i64 r.fp, .int .i64 r.wh, .int .i64 r.pl] 27)), y.w.cell? ⟨x.w.heap.size, 2, none⟩ = some (.int .i64 r.s0) := fun y => Since.cell (by simp [go_sem]) (by first | (simp; done) | (simp; omega)) y
  have hb0_3 : ∀ y : Since (x.w.alloc (.cells #[.int .i64 r.id, .int .i64 r.rd, .int .i64 r.s0, .int .i64 r.s1, .int .i64 r.e0, .int .i64 r.e1, .bool r.op, .slice r.la r.legs.length r.lc, .slice r.pa r.pauses.length r.pc, .int .i64 r.fw, .int .i64 r.fp, .int .i64 r.wh, .int .i64 r.pl] 27)), y.w.cell? ⟨x.w.heap.size, 3, none⟩ = some (.int .i64 r.s1) := fun y => Since.cell (by simp [go_sem]) (by first | (simp; done) | (simp; omega)) y
  have hb0_4 : ∀ y : Since (x.w.alloc (.cells #[.int .i64 r.id, .int .i64 r.rd, .int .i64 r.s0, .int .i64 r.s1, .int .i64 r.e0, .int .i64 r.e1, .bool r.op, .slice r.la r.legs.length r.lc, .slice r.pa r.pauses.length r.pc, .int .i64 r.fw, .int .i64 r.fp, .int .i64 r.wh, .int .i64 r.pl] 27)), y.w.cell? ⟨x.w.heap.size, 4, none⟩ = some (.int .i64 r.e0) := fun y => Since.cell (by simp [go_sem]) (by first | (simp; done) | (simp; omega)) y
  have hb0_5 : ∀ y : Since (x.w.alloc (.cells #[.int .i64 r.id, .int .i64 r.rd, .int .i64 r.s0, .int .i64 r.s1, .int .i64 r.e0, .int .i64 r.e1, .bool r.op, .slice r.la r.legs.length r.lc, .slice r.pa r.pauses.length r.pc, .int .i64 r.fw, .int .i64 r.fp, .int .i64 r.wh, .int .i64 r.pl] 27)), y.w.cell? ⟨x.w.heap.size, 5, none⟩ = some (.int .i64 r.e1) := fun y => Since.cell (by simp [go_sem]) (by first | (simp; done) | (simp; omega)) y
  have hb0_6 : ∀ y : Since (x.w.alloc (.cells #[.int .i64 r.id, .int .i64 r.rd, .int .i64 r.s0, .int .i64 r.s1, .int .i64 r.e0, .int .i64 r.e1, .bool r.op, .slice r.la r.legs.length r.lc, .slice r.pa r.pauses.length r.pc, .int .i64 r.fw, .int .i64 r.fp, .int .i64 r.wh, .int .i64 r.pl] 27)), y.w.cell? ⟨x.w.heap.size, 6, none⟩ = some (.bool r.op) := fun y => Since.cell (by simp [go_sem]) (by first | (simp; done) | (simp; omega)) y
  have hb0_7 : ∀ y : Since (x.w.alloc (.cells #[.int .i64 r.id, .int .i64 r.rd, .int .i64 r.s0, .int .i64 r.s1, .int .i64 r.e0, .int .i64 r.e1, .bool r.op, .slice r.la r.legs.length r.lc, .slice r.pa r.pauses.length r.pc, .int .i64 r.fw, .int .i64 r.fp, .int .i64 r.wh, .int .i64 r.pl] 27)), y.w.cell? ⟨x.w.heap.size, 7, none⟩ = some (.slice r.la r.legs.length r.lc) := fun y => Since.cell (by simp [go_sem]) (by first | (simp; done) | (simp; omega)) y
  have hb0_8 : ∀ y : Since (x.w.alloc (.cells #[.int .i64 r.id, .int .i64 r.rd, .int .i64 r.s0, .int .i64 r.s1, .int .i64 r.e0, .int .i64 r.e1, .bool r.op, .slice r.la r.legs.length r.lc, .slice r.pa r.pauses.length r.pc, .int .i64 r.fw, .int .i64 r.fp, .int .i64 r.wh, .int .i64 r.pl] 27)), y.w.cell? ⟨x.w.heap.size, 8, none⟩ = some (.slice r.pa r.pauses.length r.pc) := fun y => Since.cell (by simp [go_sem]) (by first | (simp; done) | (simp; omega)) y
  have hb0_9 : ∀ y : Since (x.w.alloc (.cells #[.int .i64 r.id, .int .i64 r.rd, .int .i64 r.s0, .int .i64 r.s1, .int .i64 r.e0, .int .i64 r.e1, .bool r.op, .slice r.la r.legs.length r.lc, .slice r.pa r.pauses.length r.pc, .int .i64 r.fw, .int .i64 r.fp, .int .i64 r.wh, .int .i64 r.pl] 27)), y.w.cell? ⟨x.w.heap.size, 9, none⟩ = some (.int .i64 r.fw) := fun y => Since.cell (by simp [go_sem]) (by first | (simp; done) | (simp; omega)) y
  have hb0_10 : ∀ y : Since (x.w.alloc (.cells #[.int .i64 r.id, .int .i64 r.rd, .int .i64 r.s0, .int .i64 r.s1, .int .i64 r.e0, .int .i64 r.e1, .bool r.op, .slice r.la r.legs.length r.lc, .slice r.pa r.pauses.length r.pc, .int .i64 r.fw, .int .i64 r.fp, .int .i64 r.wh, .int .i64 r.pl] 27)), y.w.cell? ⟨x.w.heap.size, 10, none⟩ = some (.int .i64 r.fp) := fun y => Since.cell (by simp [go_sem]) (by first | (simp; done) | (simp; omega)) y
  have hb0_11 : ∀ y : Since (x.w.alloc (.cells #[.int .i64 r.id, .int .i64 r.rd, .int .i64 r.s0, .int .i64 r.s1, .int .i64 r.e0, .int .i64 r.e1, .bool r.op, .slice r.la r.legs.length r.lc, .slice r.pa r.pauses.length r.pc, .int .i64 r.fw, .int .i64 r.fp, .int .i64 r.wh, .int .i64 r.pl] 27)), y.w.cell? ⟨x.w.heap.size, 11, none⟩ = some (.int .i64 r.wh) := fun y => Since.cell (by simp [go_sem]) (by first | (simp; done) | (simp; omega)) y
  have hb0_12 : ∀ y : Since (x.w.alloc (.cells #[.int .i64 r.id, .int .i64 r.rd, .int .i64 r.s0, .int .i64 r.s1, .int .i64 r.e0, .int .i64 r.e1, .bool r.op, .slice r.la r.legs.length r.lc, .slice r.pa r.pauses.length r.pc, .int .i64 r.fw, .int .i64 r.fp, .int .i64 r.wh, .int .i64 r.pl] 27)), y.w.cell? ⟨x.w.heap.size, 12, none⟩ = some (.int .i64 r.pl) := fun y => Since.cell (by simp [go_sem]) (by first | (simp; done) | (simp; omega)) y
  have hf0 : ∀ (y : Since (x.w.alloc (.cells #[.int .i64 r.id, .int .i64 r.rd, .int .i64 r.s0, .int .i64 r.s1, .int .i64 r.e0, .int .i64 r.e1, .bool r.op, .slice r.la r.legs.length r.lc, .slice r.pa r.pauses.length r.pc, .int .i64 r.fw, .int .i64 r.fp, .int .i64 r.wh, .int .i64 r.pl] 27))) (o : Nat), y.w.frozen? ⟨x.w.heap.size, o, none⟩ = false := fun y o => Since.free (by simp [go_sem]) (by first | (simp; done) | (simp; omega)) y
  have hWup : ∃ z : Since w, (x.w.alloc (.cells #[.int .i64 r.id, .int .i64 r.rd, .int .i64 r.s0, .int .i64 r.s1, .int .i64 r.e0, .int .i64 r.e1, .bool r.op, .slice r.la r.legs.length r.lc, .slice r.pa r.pauses.length r.pc, .int .i64 r.fw, .int .i64 r.fp, .int .i64 r.wh, .int .i64 r.pl] 27)) = z.w := x.alloc _
  obtain ⟨y0, hy0⟩ := Since.refl (x.w.alloc (.cells #[.int .i64 r.id, .int .i64 r.rd, .int .i64 r.s0, .int .i64 r.s1, .int .i64 r.e0, .int .i64 r.e1, .bool r.op, .slice r.la r.legs.length r.lc, .slice r.pa r.pauses.length r.pc, .int .i64 r.fw, .int .i64 r.fp, .int .i64 r.wh, .int .i64 r.pl] 27))
  have Hbx := Lib.hid (And.intro x.b.size (show x.w.heap.size + 1 = (x.w.alloc (.cells #[.int .i64 r.id, .int .i64 r.rd, .int .i64 r.s0, .int .i64 r.s1, .int .i64 r.e0, .int .i64 r.e1, .bool r.op, .slice r.la r.legs.length r.lc, .slice r.pa r.pauses.length r.pc, .int .i64 r.fw, .int .i64 r.fp, .int .i64 r.wh, .int .i64 r.pl] 27)).heap.size from by simp))
  generalize hW : (x.w.alloc (.cells #[.int .i64 r.id, .int .i64 r.rd, .int .i64 r.s0, .int .i64 r.s1, .int .i64 r.e0, .int .i64 r.e1, .bool r.op, .slice r.la r.legs.length r.lc, .slice r.pa r.pauses.length r.pc, .int .i64 r.fw, .int .i64 r.fp, .int .i64 r.wh, .int .i64 r.pl] 27)) = W at *
  clear hW
  generalize x.w.heap.size = bx at *
  have Hup := Lib.hid (Since.up hWup)
  rw [hy0]
  clear hy0
  replace H := Lib.hid (H.out.to hWup)
  have HW := Lib.hid hWup
  clear hWup
  go_wp2_with (go_at_call 38; ((with_reducible refine (Hc.out W y0 H.out).mono ?_); rintro _ _ ⟨ax, cx, u, y1, rfl, rfl, h1, h2, h3⟩; have H5 := Lib.hid (Hpost.out W HW.out _ _ ⟨ax, cx, u, y1, rfl, rfl, h1, h2, h3⟩); clear h1 h2 h3))
  exact H5.out
end Go.Proofs.Ytefodfpnedcodaa
/- The reference of the certain and the possible time, second part: Pausing, Riding. -/
namespace Go.Proofs.Ytefodfpnedcodaa
open Go.RowKit

theorem sureQ_append (l m : List Pse) : sureQ (l ++ m) = sureQ l ++ sureQ m := by simp [sureQ]
theorem possQ_append (l m : List Pse) : possQ (l ++ m) = possQ l ++ possQ m := by simp [possQ]
theorem sureQ_len (l : List Pse) : (sureQ l).length ≤ l.length := by unfold sureQ; rw [List.length_map]; exact List.length_filter_le _ _
theorem possQ_good {r : Ride} (h : RideOk r) : badW (possQ r.pauses) = false := by rw [possQ_eq h]; exact possP_good h
theorem rpau_of {r : Ride} (h : ivE r = 0) {c : List Win} (k : RComOk (sureQ r.pauses) [sureW r] c) : SetOk (ivE r) (pauS r) (1 + r.pauses.length) c := by
  have hr := rideOk_of h
  have hw : sureW r = ⟨r.s1, max r.s1 r.e0⟩ := if_pos h
  have hb : (badW (sureQ r.pauses) || badW [sureW r]) = false := by
    rw [sureQ_good hr, hw, badW_one (sureW_vld hr)]; rfl
  have hs := k.ok hb
  refine ⟨fun _ => ⟨hs.n, fun t => ?_⟩, fun h' => (h' h).elim, by have := k.n; have := sureQ_len r.pauses; simp at *; omega⟩
  rw [hs.h]; show (hasW (sureQ r.pauses) t && hasW [sureW r] t) = _
  rw [hasW_one, hasW_sureQ, Bool.and_comm]; rfl
theorem rrid_of {r : Ride} (h : ivE r = 0) {c : List Win} (k : MinOk [sureW r] (possQ r.pauses) c) : SetOk (ivE r) (ridS r) (1 + r.pauses.length) c := by
  rw [possQ_eq (rideOk_of h)] at k
  exact rid_of h k
theorem rcommonP_s {W : World} (w' : World) (hw : IsSince W w') (a1 : Option Addr) (l : List Win) (c1 : Nat) (p : Addr) (S : Win) (e : Int) (h1 : WinRow w' a1 l) (h2 : WinRow w' (some p) [S]) (hl : l.length ≤ 100000) (he : setE l [S] = e) :
    Calls Try.prog 27 #[.slice a1 l.length c1, .slice (some p) 1 1] w' (SetRes W (RComOk l [S]) e) := by
  subst he
  exact (rcommon_calls w' (Since.self w') a1 l c1 (some p) [S] 1 h1 h2 hl (by simp)).mono fun o w'' k => setRes_up hw k
theorem rminusP_s {W : World} (w' : World) (hw : IsSince W w') (p : Addr) (S : Win) (a1 : Option Addr) (l : List Win) (n c1 : Nat) (e : Int) (h1 : WinRow w' (some p) [S]) (h2 : WinRow w' a1 l) (hn : l.length = n) (hl : n ≤ 100000) (he : setE [S] l = e) :
    Calls Try.prog 43 #[.slice (some p) 1 1, .slice a1 n c1] w' (SetRes W (MinOk [S] l) e) := by
  subst hn; subst he
  exact (rminus_calls w' (Since.self w') (some p) [S] 1 a1 l c1 h1 h2 (by simp) hl).mono fun o w'' k => setRes_up hw k
set_option maxRecDepth 100000 in
set_option maxHeartbeats 8000000 in
theorem rpausing_calls (w : World) (x : Since w) (r : Ride) (h : r.At w) :
    Calls Try.prog 17 #[.agg #[.int .i64 r.id, .int .i64 r.rd, .int .i64 r.s0, .int .i64 r.s1, .int .i64 r.e0, .int .i64 r.e1, .bool r.op, .slice r.la r.legs.length r.lc, .slice r.pa r.pauses.length r.pc, .int .i64 r.fw, .int .i64 r.fp, .int .i64 r.wh, .int .i64 r.pl]] x.w (SetRes w (SetOk (ivE r) (pauS r) (1 + r.pauses.length)) (ivE r)) := by
  have H := Lib.hid h
  have HPs := Lib.hid h.p
  have hpm := h.pm
  clear h
  have Hc := Lib.hid (fun (w : World) (x : Since w) (h : r.At w) => rsure_calls w x r h)
  have Hno := Lib.hid (show ∀ y : Since w, ivE r ≠ 0 → SetRes w (SetOk (ivE r) (pauS r) (1 + r.pauses.length)) (ivE r) (.returned (.tuple #[.slice none 0 0, .int .i64 (ivE r)])) y.w from fun y h => setRes_nil ⟨fun h' => (h h').elim, fun _ => rfl, by simp⟩ y)
  have Hyes := Lib.hid (show ivE r = 0 → ∀ o w', SetRes w (RComOk (sureQ r.pauses) [sureW r]) 0 o w' → SetRes w (SetOk (ivE r) (pauS r) (1 + r.pauses.length)) (ivE r) o w' from fun h o w' k => by
    have k2 := setRes_mono (R := SetOk (ivE r) (pauS r) (1 + r.pauses.length)) (fun c hc => rpau_of h hc) k
    rw [h] at k2 ⊢; exact k2)
  have Hpl := Lib.hid (fun h : ivE r = 0 => (rideOk_of h).pn)
  have Hse := Lib.hid (show ivE r = 0 → setE (sureQ r.pauses) [sureW r] = 0 from fun h => by
    have hr := rideOk_of h
    unfold setE
    rw [sureQ_good hr, show sureW r = ⟨r.s1, max r.s1 r.e0⟩ from if_pos h, badW_one (sureW_vld hr)]; rfl)
  generalize SetRes w (SetOk (ivE r) (pauS r) (1 + r.pauses.length)) (ivE r) = PO at *
  generalize sureW r = S at *
  generalize ivE r = E at *
  generalize r.pa = pa at *
  generalize hps : r.pauses = ps at *
  have Hps := Lib.hid hps
  clear hps
  go_enter Try.func17, Try.ntmps17
  go_upto_region 1 with fail
  have hb0_0 : ∀ y : Since (x.w.alloc (.cells #[.int .i64 r.id, .int .i64 r.rd, .int .i64 r.s0, .int .i64 r.s1, .int .i64 r.e0, .int .i64 r.e1, .bool r.op, .slice r.la r.legs.length r.lc, .slice pa ps.length r.pc, .int .i64 r.fw, .int .i64 r.fp, .int .i64 r.wh, .int .i64 r.pl] 27)), y.w.cell? ⟨x.w.heap.size, 0, none⟩ = some (.int .i64 r.id) := fun y => Since.cell (by simp [go_sem]) (by first | (simp; done) | (simp; omega)) y
  have hb0_1 : ∀ y : Since (x.w.alloc (.cells #[.int .i64 r.id, .int .i64 r.rd, .int .i64 r.s0, .int .i64 r.s1, .int .i64 r.e0, .int .i64 r.e1, .bool r.op, .slice r.la r.legs.length r.lc, .slice pa ps.length r.pc, .int .i64 r.fw, .int .i64 r.fp, .int .i64 r.wh, .int .i64 r.pl] 27)), y.w.cell? ⟨x.w.heap.size, 1, none⟩ = some (.int .i64 r.rd) := fun y => Since.cell (by simp [go_sem]) (by first | (simp; done) | (simp; omega)) y
  have hb0_2 : ∀ y : Since (x.w.alloc (.cells #[.int .i64 r.id, .int .i64 r.rd, .int .i64 r.s0, .int .i64 r.s1, .int .i64 r.e0, .int .i64 r.e1, .bool r.op, .slice r.la r.legs.length r.lc, .slice pa ps.length r.pc, .int .i64 r.fw, .int .i64 r.fp, .int .i64 r.wh, .int .i64 r.pl] 27)), y.w.cell? ⟨x.w.heap.size, 2, none⟩ = some (.int .i64 r.s0) := fun y => Since.cell (by simp [go_sem]) (by first | (simp; done) | (simp; omega)) y
  have hb0_3 : ∀ y : Since (x.w.alloc (.cells #[.int .i64 r.id, .int .i64 r.rd, .int .i64 r.s0, .int .i64 r.s1, .int .i64 r.e0, .int .i64 r.e1, .bool r.op, .slice r.la r.legs.length r.lc, .slice pa ps.length r.pc, .int .i64 r.fw, .int .i64 r.fp, .int .i64 r.wh, .int .i64 r.pl] 27)), y.w.cell? ⟨x.w.heap.size, 3, none⟩ = some (.int .i64 r.s1) := fun y => Since.cell (by simp [go_sem]) (by first | (simp; done) | (simp; omega)) y
  have hb0_4 : ∀ y : Since (x.w.alloc (.cells #[.int .i64 r.id, .int .i64 r.rd, .int .i64 r.s0, .int .i64 r.s1, .int .i64 r.e0, .int .i64 r.e1, .bool r.op, .slice r.la r.legs.length r.lc, .slice pa ps.length r.pc, .int .i64 r.fw, .int .i64 r.fp, .int .i64 r.wh, .int .i64 r.pl] 27)), y.w.cell? ⟨x.w.heap.size, 4, none⟩ = some (.int .i64 r.e0) := fun y => Since.cell (by simp [go_sem]) (by first | (simp; done) | (simp; omega)) y
  have hb0_5 : ∀ y : Since (x.w.alloc (.cells #[.int .i64 r.id, .int .i64 r.rd, .int .i64 r.s0, .int .i64 r.s1, .int .i64 r.e0, .int .i64 r.e1, .bool r.op, .slice r.la r.legs.length r.lc, .slice pa ps.length r.pc, .int .i64 r.fw, .int .i64 r.fp, .int .i64 r.wh, .int .i64 r.pl] 27)), y.w.cell? ⟨x.w.heap.size, 5, none⟩ = some (.int .i64 r.e1) := fun y => Since.cell (by simp [go_sem]) (by first | (simp; done) | (simp; omega)) y
  have hb0_6 : ∀ y : Since (x.w.alloc (.cells #[.int .i64 r.id, .int .i64 r.rd, .int .i64 r.s0, .int .i64 r.s1, .int .i64 r.e0, .int .i64 r.e1, .bool r.op, .slice r.la r.legs.length r.lc, .slice pa ps.length r.pc, .int .i64 r.fw, .int .i64 r.fp, .int .i64 r.wh, .int .i64 r.pl] 27)), y.w.cell? ⟨x.w.heap.size, 6, none⟩ = some (.bool r.op) := fun y => Since.cell (by simp [go_sem]) (by first | (simp; done) | (simp; omega)) y
  have hb0_7 : ∀ y : Since (x.w.alloc (.cells #[.int .i64 r.id, .int .i64 r.rd, .int .i64 r.s0, .int .i64 r.s1, .int .i64 r.e0, .int .i64 r.e1, .bool r.op, .slice r.la r.legs.length r.lc, .slice pa ps.length r.pc, .int .i64 r.fw, .int .i64 r.fp, .int .i64 r.wh, .int .i64 r.pl] 27)), y.w.cell? ⟨x.w.heap.size, 7, none⟩ = some (.slice r.la r.legs.length r.lc) := fun y => Since.cell (by simp [go_sem]) (by first | (simp; done) | (simp; omega)) y
  have hb0_8 : ∀ y : Since (x.w.alloc (.cells #[.int .i64 r.id, .int .i64 r.rd, .int .i64 r.s0, .int .i64 r.s1, .int .i64 r.e0, .int .i64 r.e1, .bool r.op, .slice r.la r.legs.length r.lc, .slice pa ps.length r.pc, .int .i64 r.fw, .int .i64 r.fp, .int .i64 r.wh, .int .i64 r.pl] 27)), y.w.cell? ⟨x.w.heap.size, 8, none⟩ = some (.slice pa ps.length r.pc) := fun y => Since.cell (by simp [go_sem]) (by first | (simp; done) | (simp; omega)) y
  have hb0_9 : ∀ y : Since (x.w.alloc (.cells #[.int .i64 r.id, .int .i64 r.rd, .int .i64 r.s0, .int .i64 r.s1, .int .i64 r.e0, .int .i64 r.e1, .bool r.op, .slice r.la r.legs.length r.lc, .slice pa ps.length r.pc, .int .i64 r.fw, .int .i64 r.fp, .int .i64 r.wh, .int .i64 r.pl] 27)), y.w.cell? ⟨x.w.heap.size, 9, none⟩ = some (.int .i64 r.fw) := fun y => Since.cell (by simp [go_sem]) (by first | (simp; done) | (simp; omega)) y
  have hb0_10 : ∀ y : Since (x.w.alloc (.cells #[.int .i64 r.id, .int .i64 r.rd, .int .i64 r.s0, .int .i64 r.s1, .int .i64 r.e0, .int .i64 r.e1, .bool r.op, .slice r.la r.legs.length r.lc, .slice pa ps.length r.pc, .int .i64 r.fw, .int .i64 r.fp, .int .i64 r.wh, .int .i64 r.pl] 27)), y.w.cell? ⟨x.w.heap.size, 10, none⟩ = some (.int .i64 r.fp) := fun y => Since.cell (by simp [go_sem]) (by first | (simp; done) | (simp; omega)) y
  have hb0_11 : ∀ y : Since (x.w.alloc (.cells #[.int .i64 r.id, .int .i64 r.rd, .int .i64 r.s0, .int .i64 r.s1, .int .i64 r.e0, .int .i64 r.e1, .bool r.op, .slice r.la r.legs.length r.lc, .slice pa ps.length r.pc, .int .i64 r.fw, .int .i64 r.fp, .int .i64 r.wh, .int .i64 r.pl] 27)), y.w.cell? ⟨x.w.heap.size, 11, none⟩ = some (.int .i64 r.wh) := fun y => Since.cell (by simp [go_sem]) (by first | (simp; done) | (simp; omega)) y
  have hb0_12 : ∀ y : Since (x.w.alloc (.cells #[.int .i64 r.id, .int .i64 r.rd, .int .i64 r.s0, .int .i64 r.s1, .int .i64 r.e0, .int .i64 r.e1, .bool r.op, .slice r.la r.legs.length r.lc, .slice pa ps.length r.pc, .int .i64 r.fw, .int .i64 r.fp, .int .i64 r.wh, .int .i64 r.pl] 27)), y.w.cell? ⟨x.w.heap.size, 12, none⟩ = some (.int .i64 r.pl) := fun y => Since.cell (by simp [go_sem]) (by first | (simp; done) | (simp; omega)) y
  have hf0 : ∀ (y : Since (x.w.alloc (.cells #[.int .i64 r.id, .int .i64 r.rd, .int .i64 r.s0, .int .i64 r.s1, .int .i64 r.e0, .int .i64 r.e1, .bool r.op, .slice r.la r.legs.length r.lc, .slice pa ps.length r.pc, .int .i64 r.fw, .int .i64 r.fp, .int .i64 r.wh, .int .i64 r.pl] 27))) (o : Nat), y.w.frozen? ⟨x.w.heap.size, o, none⟩ = false := fun y o => Since.free (by simp [go_sem]) (by first | (simp; done) | (simp; omega)) y
  have hWup : ∃ z : Since w, (x.w.alloc (.cells #[.int .i64 r.id, .int .i64 r.rd, .int .i64 r.s0, .int .i64 r.s1, .int .i64 r.e0, .int .i64 r.e1, .bool r.op, .slice r.la r.legs.length r.lc, .slice pa ps.length r.pc, .int .i64 r.fw, .int .i64 r.fp, .int .i64 r.wh, .int .i64 r.pl] 27)) = z.w := x.alloc _
  obtain ⟨y0, hy0⟩ := Since.refl (x.w.alloc (.cells #[.int .i64 r.id, .int .i64 r.rd, .int .i64 r.s0, .int .i64 r.s1, .int .i64 r.e0, .int .i64 r.e1, .bool r.op, .slice r.la r.legs.length r.lc, .slice pa ps.length r.pc, .int .i64 r.fw, .int .i64 r.fp, .int .i64 r.wh, .int .i64 r.pl] 27))
  have Hbx := Lib.hid (And.intro x.b.size (show x.w.heap.size + 1 = (x.w.alloc (.cells #[.int .i64 r.id, .int .i64 r.rd, .int .i64 r.s0, .int .i64 r.s1, .int .i64 r.e0, .int .i64 r.e1, .bool r.op, .slice r.la r.legs.length r.lc, .slice pa ps.length r.pc, .int .i64 r.fw, .int .i64 r.fp, .int .i64 r.wh, .int .i64 r.pl] 27)).heap.size from by simp))
  generalize hW : (x.w.alloc (.cells #[.int .i64 r.id, .int .i64 r.rd, .int .i64 r.s0, .int .i64 r.s1, .int .i64 r.e0, .int .i64 r.e1, .bool r.op, .slice r.la r.legs.length r.lc, .slice pa ps.length r.pc, .int .i64 r.fw, .int .i64 r.fp, .int .i64 r.wh, .int .i64 r.pl] 27)) = W at *
  clear hW
  generalize x.w.heap.size = bx at *
  have Hup := Lib.hid (Since.up hWup)
  rw [hy0]
  clear hy0
  replace H := Lib.hid (H.out.to hWup)
  replace HPs := Lib.hid (HPs.out.to hWup)
  clear hWup
  go_upto_region 2 with (go_at_call 13; ((with_reducible refine (Hc.out W y0 H.out).mono ?_); rintro _ _ ⟨rfl, y1, rfl⟩))
  have hs0 : (y1.w.alloc (.cells #[.int .i64 S.f, .int .i64 S.t] 31)).cell? ⟨y1.w.heap.size, 0, none⟩ = some (.int .i64 S.f) := by simp [go_sem]
  have hs1 : (y1.w.alloc (.cells #[.int .i64 S.f, .int .i64 S.t] 31)).cell? ⟨y1.w.heap.size, 1, none⟩ = some (.int .i64 S.t) := by simp [go_sem]
  have hsf : ∀ o, (y1.w.alloc (.cells #[.int .i64 S.f, .int .i64 S.t] 31)).frozen? ⟨y1.w.heap.size, o, none⟩ = false := fun o => by simp [go_sem]
  have hlt0 : y1.w.heap.size < (y1.w.alloc (.cells #[.int .i64 S.f, .int .i64 S.t] 31)).heap.size := by simp
  have hst0 : ∃ zz : Since y1.w, (y1.w.alloc (.cells #[.int .i64 S.f, .int .i64 S.t] 31)) = zz.w := IsSince.alloc (IsSince.self _) _
  have hsz0 := y1.b.size
  obtain ⟨y2, e2⟩ := IsSince.alloc (IsSince.of y1) (.cells #[.int .i64 S.f, .int .i64 S.t] 31)
  rw [e2] at hs0 hs1 hsf hlt0 hst0 ⊢
  skip
  clear e2 hst0
  generalize y1.w.heap.size = gs at *
  have Hhs0 : ∀ q : Since y2.w, q.w.cell? ⟨gs, 0, none⟩ = some (.int .i64 S.f) := fun q => Since.cell hs0 (by omega) q
  have Hhs1 : ∀ q : Since y2.w, q.w.cell? ⟨gs, 1, none⟩ = some (.int .i64 S.t) := fun q => Since.cell hs1 (by omega) q
  have Hhsf : ∀ (q : Since y2.w) (o : Nat), q.w.frozen? ⟨gs, o, none⟩ = false := fun q o => Since.free (hsf o) (by omega) q
  have Hhsg := Lib.hid (And.intro hsz0 hlt0)
  clear hlt0 hsz0
  by_cases he : E = 0
  case neg =>
    have hee : (E != 0) = true := by simpa using he
    have Hno2 := Lib.hid (fun y : Since w => Hno.out y he)
    clear he
    go_wp2_with fail
    obtain ⟨z, hz⟩ := Hup.out y2
    rw [hz]
    exact Hno2.out z
  case pos =>
    have hpl := Hpl.out he
    have Hse2 := Lib.hid (Hse.out he)
    have Hyes2 := Lib.hid (Hyes.out he)
    subst he
    have Hup2 := Lib.hid (show ∀ w', IsSince y2.w w' → IsSince w w' from fun w' h => by obtain ⟨z, rfl⟩ := h; obtain ⟨u, hu⟩ := y2.trans z; rw [hu]; exact Hup.out u)
    have hb8 := Since.cellTo (⟨y2, rfl⟩ : ∃ zz : Since W, y2.w = zz.w) hb0_8
    replace HPs := Lib.hid (HPs.out.to (⟨y2, rfl⟩ : ∃ zz : Since W, y2.w = zz.w))
    obtain ⟨n, hn⟩ : ∃ n, n = ps.length := ⟨_, rfl⟩
    rw [← hn] at hpl hb8 ⊢
    have Hn := Lib.hid hn
    clear Hc Hno Hyes Hpl Hse hs0 hs1 hsf Hhsf hb0_0 hb0_1 hb0_2 hb0_3 hb0_4 hb0_5 hb0_6 hb0_7 hb0_8 hb0_9 hb0_10 hb0_11 hb0_12 hf0 hn hpm
    go_wp2_with fail
    go_loopw [6, 7] (fun v i wr => ∃ (k : Nat) (out : List Win) (y : Since y2.w), k ≤ n ∧ i = .int .i64 k ∧ wr = y.w ∧ y.w.ownsRow y2.w.heap.size 31 2 v out.length (flat Win.cs out) ∧ out = sureQ (ps.take k) ∧ out.length ≤ k) (fun _ i _ => n - (intOf i).toNat)
    case atStart => exact ⟨0, [], Since.self _, by omega, rfl, rfl, ⟨rfl, .inl ⟨rfl, rfl⟩⟩, rfl, by simp⟩
    case round =>
      obtain ⟨k, out, y, hk, rfl, rfl, hown, hout, hlen⟩ := hrel
      have Hown := Lib.hid hown; have Hout := Lib.hid hout
      clear hown hout
      by_cases hlt : k < n
      · obtain ⟨e, he⟩ : ∃ e, ps[k]? = some e := ⟨_, List.getElem?_eq_getElem (by have := Hn.out; omega)⟩
        have hk0 : (0 : Int) ≤ (k : Int) := by omega
        have hkl : (k : Int) < (n : Int) := by omega
        have Htk := Lib.hid (show sureQ (ps.take (k + 1)) = sureQ (ps.take k) ++ sureQ [e] by rw [List.take_add_one, he]; exact sureQ_append _ _)
        obtain ⟨b1, off1, rfl, h1'⟩ := Els.pse HPs.out he
        have ra0 := h1'.c0
        have ra1 := h1'.c1
        have ra2 := h1'.c2
        have ra3 := h1'.c3
        clear h1' he
        go_upto_region 9 with fail
        have hp0 : (y.w.alloc (.cells #[.int .i64 e.f0, .int .i64 e.f1, .int .i64 e.t0, .int .i64 e.t1] 52)).cell? ⟨y.w.heap.size, 0, none⟩ = some (.int .i64 e.f0) := by simp [go_sem]
        have hp1 : (y.w.alloc (.cells #[.int .i64 e.f0, .int .i64 e.f1, .int .i64 e.t0, .int .i64 e.t1] 52)).cell? ⟨y.w.heap.size, 1, none⟩ = some (.int .i64 e.f1) := by simp [go_sem]
        have hp2 : (y.w.alloc (.cells #[.int .i64 e.f0, .int .i64 e.f1, .int .i64 e.t0, .int .i64 e.t1] 52)).cell? ⟨y.w.heap.size, 2, none⟩ = some (.int .i64 e.t0) := by simp [go_sem]
        have hp3 : (y.w.alloc (.cells #[.int .i64 e.f0, .int .i64 e.f1, .int .i64 e.t0, .int .i64 e.t1] 52)).cell? ⟨y.w.heap.size, 3, none⟩ = some (.int .i64 e.t1) := by simp [go_sem]
        have hpf : ∀ o, (y.w.alloc (.cells #[.int .i64 e.f0, .int .i64 e.f1, .int .i64 e.t0, .int .i64 e.t1] 52)).frozen? ⟨y.w.heap.size, o, none⟩ = false := fun o => by simp [go_sem]
        have hlt0 : y.w.heap.size < (y.w.alloc (.cells #[.int .i64 e.f0, .int .i64 e.f1, .int .i64 e.t0, .int .i64 e.t1] 52)).heap.size := by simp
        have hst0 : ∃ zz : Since y.w, (y.w.alloc (.cells #[.int .i64 e.f0, .int .i64 e.f1, .int .i64 e.t0, .int .i64 e.t1] 52)) = zz.w := IsSince.alloc (IsSince.self _) _
        have hsz0 := y.b.size
        obtain ⟨y3, e2⟩ := IsSince.alloc (IsSince.of y) (.cells #[.int .i64 e.f0, .int .i64 e.f1, .int .i64 e.t0, .int .i64 e.t1] 52)
        rw [e2] at hp0 hp1 hp2 hp3 hpf hlt0 hst0 ⊢
        (replace Hown := Lib.hid (own_to Hown.out hst0))
        clear e2 hst0
        generalize y.w.heap.size = gp at *
        have Hhp0 : ∀ q : Since y3.w, q.w.cell? ⟨gp, 0, none⟩ = some (.int .i64 e.f0) := fun q => Since.cell hp0 (by omega) q
        have Hhp1 : ∀ q : Since y3.w, q.w.cell? ⟨gp, 1, none⟩ = some (.int .i64 e.f1) := fun q => Since.cell hp1 (by omega) q
        have Hhp2 : ∀ q : Since y3.w, q.w.cell? ⟨gp, 2, none⟩ = some (.int .i64 e.t0) := fun q => Since.cell hp2 (by omega) q
        have Hhp3 : ∀ q : Since y3.w, q.w.cell? ⟨gp, 3, none⟩ = some (.int .i64 e.t1) := fun q => Since.cell hp3 (by omega) q
        have Hhpf : ∀ (q : Since y3.w) (o : Nat), q.w.frozen? ⟨gp, o, none⟩ = false := fun q o => Since.free (hpf o) (by omega) q
        have Hhpg := Lib.hid (And.intro hsz0 hlt0)
        clear hlt0 hsz0
        rcases (by omega : e.f1 < e.t0 ∨ e.t0 ≤ e.f1) with hle | hle
        · have Hq := Lib.hid (show sureQ [e] = [⟨e.f1, e.t0⟩] by simp [sureQ, hle])
          go_wp2_with (at_builtin; (refine wpList_appendK (w0 := y2.w) ?hw rfl _ _ 35 rfl y2.w.heap.size (Nat.le_refl _) ?hb 31 (.agg #[.int .i64 0, .int .i64 0]) 16 sWin u6 out.length (flat Win.cs out) rfl ?hown ⟨y3.w.heap.size, 0, none⟩ 1 1 (⟨e.f1, e.t0⟩ : Win).cs rfl rfl ?hc (win_one _) ?h63 ?hbytes ?_; rotate_right 1; intro v2 q2 hown4 _ hg4))
          case hw => exact IsSince.alloc (IsSince.of y3) _
          case hb => have := y3.b.size; simp; omega
          case hown => exact own_to Hown.out (IsSince.alloc (IsSince.self _) _)
          case hc => exact cell_new_at y3.w (⟨e.f1, e.t0⟩ : Win).cs _
          case h63 => unfold maxLen; omega
          case hbytes => omega
          rw [← flat_one Win.cs (⟨e.f1, e.t0⟩ : Win), ← flat_append] at hown4
          have Hown4 := Lib.hid (show q2.w.ownsRow y2.w.heap.size 31 2 v2 (out ++ [(⟨e.f1, e.t0⟩ : Win)]).length (flat Win.cs (out ++ [(⟨e.f1, e.t0⟩ : Win)])) by rw [List.length_append, List.length_singleton]; exact hown4)
          clear hown4 hg4
          go_wp2_with fail
          go_roundw
          case rel => exact ⟨k + 1, out ++ [⟨e.f1, e.t0⟩], q2, by omega, by go_num, rfl, Hown4.out, by rw [Htk.out, Hq.out, ← Hout.out], by simp; omega⟩
          case measure => simp [intOf] <;> omega
        · have Hq := Lib.hid (show sureQ [e] = [] by simp [sureQ]; omega)
          go_wp2_with fail
          go_roundw
          case rel => exact ⟨k + 1, out, y3, by omega, by go_num, rfl, Hown.out, by rw [Htk.out, Hq.out, List.append_nil]; exact Hout.out, by omega⟩
          case measure => simp [intOf] <;> omega
      · obtain rfl : k = n := by omega
        have Hq := Lib.hid (show out = sureQ ps by rw [Hout.out, List.take_of_length_le (by have := Hn.out; omega)])
        obtain ⟨hlen1, a5, c5, rfl, hc5, he5, _, _⟩ := own_els Win.len (by decide) Hown.out
        have hs0 := Hhs0 y
        have hs1 := Hhs1 y
        have HR := Lib.hid (he5.to (IsSince.alloc (IsSince.self y.w) (.cells #[.int .i64 S.f, .int .i64 S.t] 31)))
        clear hlen1 hc5 he5
        go_wp2_with (go_at_call 27; ((with_reducible refine (rcommonP_s (W := y2.w) _ (IsSince.alloc (IsSince.of y) _) a5 out c5 ⟨y.w.heap.size, 0, none⟩ S 0 HR.out (els_one _ S) (by omega) (by rw [Hq.out]; exact Hse2.out)).mono ?_); rintro _ _ ⟨a6, c6, u6, y6, rfl, rfl, hr6, hc6, hq6⟩; (rw [Hq.out] at hq6); have H6 := Lib.hid (Hyes2.out _ _ (setRes_up (Hup2.out _ (IsSince.self _)) ⟨a6, c6, u6, y6, rfl, rfl, hr6, hc6, hq6⟩)); clear hr6 hc6 hq6))
        exact H6.out
set_option maxRecDepth 100000 in
set_option maxHeartbeats 8000000 in
theorem rriding_calls (w : World) (x : Since w) (r : Ride) (h : r.At w) :
    Calls Try.prog 19 #[.agg #[.int .i64 r.id, .int .i64 r.rd, .int .i64 r.s0, .int .i64 r.s1, .int .i64 r.e0, .int .i64 r.e1, .bool r.op, .slice r.la r.legs.length r.lc, .slice r.pa r.pauses.length r.pc, .int .i64 r.fw, .int .i64 r.fp, .int .i64 r.wh, .int .i64 r.pl]] x.w (SetRes w (SetOk (ivE r) (ridS r) (1 + r.pauses.length)) (ivE r)) := by
  have H := Lib.hid h
  have HPs := Lib.hid h.p
  have hpm := h.pm
  clear h
  have Hc := Lib.hid (fun (w : World) (x : Since w) (h : r.At w) => rsure_calls w x r h)
  have Hno := Lib.hid (show ∀ y : Since w, ivE r ≠ 0 → SetRes w (SetOk (ivE r) (ridS r) (1 + r.pauses.length)) (ivE r) (.returned (.tuple #[.slice none 0 0, .int .i64 (ivE r)])) y.w from fun y h => setRes_nil ⟨fun h' => (h h').elim, fun _ => rfl, by simp⟩ y)
  have Hyes := Lib.hid (show ivE r = 0 → ∀ o w', SetRes w (MinOk [sureW r] (possQ r.pauses)) 0 o w' → SetRes w (SetOk (ivE r) (ridS r) (1 + r.pauses.length)) (ivE r) o w' from fun h o w' k => by
    have k2 := setRes_mono (R := SetOk (ivE r) (ridS r) (1 + r.pauses.length)) (fun c hc => rrid_of h hc) k
    rw [h] at k2 ⊢; exact k2)
  have Hpl := Lib.hid (fun h : ivE r = 0 => (rideOk_of h).pn)
  have Hse := Lib.hid (show ivE r = 0 → setE [sureW r] (possQ r.pauses) = 0 from fun h => by
    have hr := rideOk_of h
    unfold setE
    rw [possQ_good hr, show sureW r = ⟨r.s1, max r.s1 r.e0⟩ from if_pos h, badW_one (sureW_vld hr)]; rfl)
  generalize SetRes w (SetOk (ivE r) (ridS r) (1 + r.pauses.length)) (ivE r) = PO at *
  generalize sureW r = S at *
  generalize ivE r = E at *
  generalize r.pa = pa at *
  generalize hps : r.pauses = ps at *
  have Hps := Lib.hid hps
  clear hps
  go_enter Try.func19, Try.ntmps19
  go_upto_region 1 with fail
  have hb0_0 : ∀ y : Since (x.w.alloc (.cells #[.int .i64 r.id, .int .i64 r.rd, .int .i64 r.s0, .int .i64 r.s1, .int .i64 r.e0, .int .i64 r.e1, .bool r.op, .slice r.la r.legs.length r.lc, .slice pa ps.length r.pc, .int .i64 r.fw, .int .i64 r.fp, .int .i64 r.wh, .int .i64 r.pl] 27)), y.w.cell? ⟨x.w.heap.size, 0, none⟩ = some (.int .i64 r.id) := fun y => Since.cell (by simp [go_sem]) (by first | (simp; done) | (simp; omega)) y
  have hb0_1 : ∀ y : Since (x.w.alloc (.cells #[.int .i64 r.id, .int .i64 r.rd, .int .i64 r.s0, .int .i64 r.s1, .int .i64 r.e0, .int .i64 r.e1, .bool r.op, .slice r.la r.legs.length r.lc, .slice pa ps.length r.pc, .int .i64 r.fw, .int .i64 r.fp, .int .i64 r.wh, .int .i64 r.pl] 27)), y.w.cell? ⟨x.w.heap.size, 1, none⟩ = some (.int .i64 r.rd) := fun y => Since.cell (by simp [go_sem]) (by first | (simp; done) | (simp; omega)) y
  have hb0_2 : ∀ y : Since (x.w.alloc (.cells #[.int .i64 r.id, .int .i64 r.rd, .int .i64 r.s0, .int .i64 r.s1, .int .i64 r.e0, .int .i64 r.e1, .bool r.op, .slice r.la r.legs.length r.lc, .slice pa ps.length r.pc, .int .i64 r.fw, .int .i64 r.fp, .int .i64 r.wh, .int .i64 r.pl] 27)), y.w.cell? ⟨x.w.heap.size, 2, none⟩ = some (.int .i64 r.s0) := fun y => Since.cell (by simp [go_sem]) (by first | (simp; done) | (simp; omega)) y
  have hb0_3 : ∀ y : Since (x.w.alloc (.cells #[.int .i64 r.id, .int .i64 r.rd, .int .i64 r.s0, .int .i64 r.s1, .int .i64 r.e0, .int .i64 r.e1, .bool r.op, .slice r.la r.legs.length r.lc, .slice pa ps.length r.pc, .int .i64 r.fw, .int .i64 r.fp, .int .i64 r.wh, .int .i64 r.pl] 27)), y.w.cell? ⟨x.w.heap.size, 3, none⟩ = some (.int .i64 r.s1) := fun y => Since.cell (by simp [go_sem]) (by first | (simp; done) | (simp; omega)) y
  have hb0_4 : ∀ y : Since (x.w.alloc (.cells #[.int .i64 r.id, .int .i64 r.rd, .int .i64 r.s0, .int .i64 r.s1, .int .i64 r.e0, .int .i64 r.e1, .bool r.op, .slice r.la r.legs.length r.lc, .slice pa ps.length r.pc, .int .i64 r.fw, .int .i64 r.fp, .int .i64 r.wh, .int .i64 r.pl] 27)), y.w.cell? ⟨x.w.heap.size, 4, none⟩ = some (.int .i64 r.e0) := fun y => Since.cell (by simp [go_sem]) (by first | (simp; done) | (simp; omega)) y
  have hb0_5 : ∀ y : Since (x.w.alloc (.cells #[.int .i64 r.id, .int .i64 r.rd, .int .i64 r.s0, .int .i64 r.s1, .int .i64 r.e0, .int .i64 r.e1, .bool r.op, .slice r.la r.legs.length r.lc, .slice pa ps.length r.pc, .int .i64 r.fw, .int .i64 r.fp, .int .i64 r.wh, .int .i64 r.pl] 27)), y.w.cell? ⟨x.w.heap.size, 5, none⟩ = some (.int .i64 r.e1) := fun y => Since.cell (by simp [go_sem]) (by first | (simp; done) | (simp; omega)) y
  have hb0_6 : ∀ y : Since (x.w.alloc (.cells #[.int .i64 r.id, .int .i64 r.rd, .int .i64 r.s0, .int .i64 r.s1, .int .i64 r.e0, .int .i64 r.e1, .bool r.op, .slice r.la r.legs.length r.lc, .slice pa ps.length r.pc, .int .i64 r.fw, .int .i64 r.fp, .int .i64 r.wh, .int .i64 r.pl] 27)), y.w.cell? ⟨x.w.heap.size, 6, none⟩ = some (.bool r.op) := fun y => Since.cell (by simp [go_sem]) (by first | (simp; done) | (simp; omega)) y
  have hb0_7 : ∀ y : Since (x.w.alloc (.cells #[.int .i64 r.id, .int .i64 r.rd, .int .i64 r.s0, .int .i64 r.s1, .int .i64 r.e0, .int .i64 r.e1, .bool r.op, .slice r.la r.legs.length r.lc, .slice pa ps.length r.pc, .int .i64 r.fw, .int .i64 r.fp, .int .i64 r.wh, .int .i64 r.pl] 27)), y.w.cell? ⟨x.w.heap.size, 7, none⟩ = some (.slice r.la r.legs.length r.lc) := fun y => Since.cell (by simp [go_sem]) (by first | (simp; done) | (simp; omega)) y
  have hb0_8 : ∀ y : Since (x.w.alloc (.cells #[.int .i64 r.id, .int .i64 r.rd, .int .i64 r.s0, .int .i64 r.s1, .int .i64 r.e0, .int .i64 r.e1, .bool r.op, .slice r.la r.legs.length r.lc, .slice pa ps.length r.pc, .int .i64 r.fw, .int .i64 r.fp, .int .i64 r.wh, .int .i64 r.pl] 27)), y.w.cell? ⟨x.w.heap.size, 8, none⟩ = some (.slice pa ps.length r.pc) := fun y => Since.cell (by simp [go_sem]) (by first | (simp; done) | (simp; omega)) y
  have hb0_9 : ∀ y : Since (x.w.alloc (.cells #[.int .i64 r.id, .int .i64 r.rd, .int .i64 r.s0, .int .i64 r.s1, .int .i64 r.e0, .int .i64 r.e1, .bool r.op, .slice r.la r.legs.length r.lc, .slice pa ps.length r.pc, .int .i64 r.fw, .int .i64 r.fp, .int .i64 r.wh, .int .i64 r.pl] 27)), y.w.cell? ⟨x.w.heap.size, 9, none⟩ = some (.int .i64 r.fw) := fun y => Since.cell (by simp [go_sem]) (by first | (simp; done) | (simp; omega)) y
  have hb0_10 : ∀ y : Since (x.w.alloc (.cells #[.int .i64 r.id, .int .i64 r.rd, .int .i64 r.s0, .int .i64 r.s1, .int .i64 r.e0, .int .i64 r.e1, .bool r.op, .slice r.la r.legs.length r.lc, .slice pa ps.length r.pc, .int .i64 r.fw, .int .i64 r.fp, .int .i64 r.wh, .int .i64 r.pl] 27)), y.w.cell? ⟨x.w.heap.size, 10, none⟩ = some (.int .i64 r.fp) := fun y => Since.cell (by simp [go_sem]) (by first | (simp; done) | (simp; omega)) y
  have hb0_11 : ∀ y : Since (x.w.alloc (.cells #[.int .i64 r.id, .int .i64 r.rd, .int .i64 r.s0, .int .i64 r.s1, .int .i64 r.e0, .int .i64 r.e1, .bool r.op, .slice r.la r.legs.length r.lc, .slice pa ps.length r.pc, .int .i64 r.fw, .int .i64 r.fp, .int .i64 r.wh, .int .i64 r.pl] 27)), y.w.cell? ⟨x.w.heap.size, 11, none⟩ = some (.int .i64 r.wh) := fun y => Since.cell (by simp [go_sem]) (by first | (simp; done) | (simp; omega)) y
  have hb0_12 : ∀ y : Since (x.w.alloc (.cells #[.int .i64 r.id, .int .i64 r.rd, .int .i64 r.s0, .int .i64 r.s1, .int .i64 r.e0, .int .i64 r.e1, .bool r.op, .slice r.la r.legs.length r.lc, .slice pa ps.length r.pc, .int .i64 r.fw, .int .i64 r.fp, .int .i64 r.wh, .int .i64 r.pl] 27)), y.w.cell? ⟨x.w.heap.size, 12, none⟩ = some (.int .i64 r.pl) := fun y => Since.cell (by simp [go_sem]) (by first | (simp; done) | (simp; omega)) y
  have hf0 : ∀ (y : Since (x.w.alloc (.cells #[.int .i64 r.id, .int .i64 r.rd, .int .i64 r.s0, .int .i64 r.s1, .int .i64 r.e0, .int .i64 r.e1, .bool r.op, .slice r.la r.legs.length r.lc, .slice pa ps.length r.pc, .int .i64 r.fw, .int .i64 r.fp, .int .i64 r.wh, .int .i64 r.pl] 27))) (o : Nat), y.w.frozen? ⟨x.w.heap.size, o, none⟩ = false := fun y o => Since.free (by simp [go_sem]) (by first | (simp; done) | (simp; omega)) y
  have hWup : ∃ z : Since w, (x.w.alloc (.cells #[.int .i64 r.id, .int .i64 r.rd, .int .i64 r.s0, .int .i64 r.s1, .int .i64 r.e0, .int .i64 r.e1, .bool r.op, .slice r.la r.legs.length r.lc, .slice pa ps.length r.pc, .int .i64 r.fw, .int .i64 r.fp, .int .i64 r.wh, .int .i64 r.pl] 27)) = z.w := x.alloc _
  obtain ⟨y0, hy0⟩ := Since.refl (x.w.alloc (.cells #[.int .i64 r.id, .int .i64 r.rd, .int .i64 r.s0, .int .i64 r.s1, .int .i64 r.e0, .int .i64 r.e1, .bool r.op, .slice r.la r.legs.length r.lc, .slice pa ps.length r.pc, .int .i64 r.fw, .int .i64 r.fp, .int .i64 r.wh, .int .i64 r.pl] 27))
  have Hbx := Lib.hid (And.intro x.b.size (show x.w.heap.size + 1 = (x.w.alloc (.cells #[.int .i64 r.id, .int .i64 r.rd, .int .i64 r.s0, .int .i64 r.s1, .int .i64 r.e0, .int .i64 r.e1, .bool r.op, .slice r.la r.legs.length r.lc, .slice pa ps.length r.pc, .int .i64 r.fw, .int .i64 r.fp, .int .i64 r.wh, .int .i64 r.pl] 27)).heap.size from by simp))
  generalize hW : (x.w.alloc (.cells #[.int .i64 r.id, .int .i64 r.rd, .int .i64 r.s0, .int .i64 r.s1, .int .i64 r.e0, .int .i64 r.e1, .bool r.op, .slice r.la r.legs.length r.lc, .slice pa ps.length r.pc, .int .i64 r.fw, .int .i64 r.fp, .int .i64 r.wh, .int .i64 r.pl] 27)) = W at *
  clear hW
  generalize x.w.heap.size = bx at *
  have Hup := Lib.hid (Since.up hWup)
  rw [hy0]
  clear hy0
  replace H := Lib.hid (H.out.to hWup)
  replace HPs := Lib.hid (HPs.out.to hWup)
  clear hWup
  go_upto_region 2 with (go_at_call 13; ((with_reducible refine (Hc.out W y0 H.out).mono ?_); rintro _ _ ⟨rfl, y1, rfl⟩))
  have hs0 : (y1.w.alloc (.cells #[.int .i64 S.f, .int .i64 S.t] 31)).cell? ⟨y1.w.heap.size, 0, none⟩ = some (.int .i64 S.f) := by simp [go_sem]
  have hs1 : (y1.w.alloc (.cells #[.int .i64 S.f, .int .i64 S.t] 31)).cell? ⟨y1.w.heap.size, 1, none⟩ = some (.int .i64 S.t) := by simp [go_sem]
  have hsf : ∀ o, (y1.w.alloc (.cells #[.int .i64 S.f, .int .i64 S.t] 31)).frozen? ⟨y1.w.heap.size, o, none⟩ = false := fun o => by simp [go_sem]
  have hlt0 : y1.w.heap.size < (y1.w.alloc (.cells #[.int .i64 S.f, .int .i64 S.t] 31)).heap.size := by simp
  have hst0 : ∃ zz : Since y1.w, (y1.w.alloc (.cells #[.int .i64 S.f, .int .i64 S.t] 31)) = zz.w := IsSince.alloc (IsSince.self _) _
  have hsz0 := y1.b.size
  obtain ⟨y2, e2⟩ := IsSince.alloc (IsSince.of y1) (.cells #[.int .i64 S.f, .int .i64 S.t] 31)
  rw [e2] at hs0 hs1 hsf hlt0 hst0 ⊢
  skip
  clear e2 hst0
  generalize y1.w.heap.size = gs at *
  have Hhs0 : ∀ q : Since y2.w, q.w.cell? ⟨gs, 0, none⟩ = some (.int .i64 S.f) := fun q => Since.cell hs0 (by omega) q
  have Hhs1 : ∀ q : Since y2.w, q.w.cell? ⟨gs, 1, none⟩ = some (.int .i64 S.t) := fun q => Since.cell hs1 (by omega) q
  have Hhsf : ∀ (q : Since y2.w) (o : Nat), q.w.frozen? ⟨gs, o, none⟩ = false := fun q o => Since.free (hsf o) (by omega) q
  have Hhsg := Lib.hid (And.intro hsz0 hlt0)
  clear hlt0 hsz0
  by_cases he : E = 0
  case neg =>
    have hee : (E != 0) = true := by simpa using he
    have Hno2 := Lib.hid (fun y : Since w => Hno.out y he)
    clear he
    go_wp2_with fail
    obtain ⟨z, hz⟩ := Hup.out y2
    rw [hz]
    exact Hno2.out z
  case pos =>
    have hpl := Hpl.out he
    have Hse2 := Lib.hid (Hse.out he)
    have Hyes2 := Lib.hid (Hyes.out he)
    subst he
    have Hup2 := Lib.hid (show ∀ w', IsSince y2.w w' → IsSince w w' from fun w' h => by obtain ⟨z, rfl⟩ := h; obtain ⟨u, hu⟩ := y2.trans z; rw [hu]; exact Hup.out u)
    have hb8 := Since.cellTo (⟨y2, rfl⟩ : ∃ zz : Since W, y2.w = zz.w) hb0_8
    replace HPs := Lib.hid (HPs.out.to (⟨y2, rfl⟩ : ∃ zz : Since W, y2.w = zz.w))
    obtain ⟨n, hn⟩ : ∃ n, n = ps.length := ⟨_, rfl⟩
    rw [← hn] at hpl hb8 ⊢
    have Hn := Lib.hid hn
    clear Hc Hno Hyes Hpl Hse hs0 hs1 hsf Hhsf hb0_0 hb0_1 hb0_2 hb0_3 hb0_4 hb0_5 hb0_6 hb0_7 hb0_8 hb0_9 hb0_10 hb0_11 hb0_12 hf0 hn hpm
    go_wp2_with fail
    go_loopw [6, 7] (fun v i wr => ∃ (k : Nat) (out : List Win) (y : Since y2.w), k ≤ n ∧ i = .int .i64 k ∧ wr = y.w ∧ y.w.ownsRow y2.w.heap.size 31 2 v k (flat Win.cs out) ∧ out = possQ (ps.take k) ∧ out.length = k) (fun _ i _ => n - (intOf i).toNat)
    case atStart => exact ⟨0, [], Since.self _, by omega, rfl, rfl, ⟨rfl, .inl ⟨rfl, rfl⟩⟩, rfl, rfl⟩
    case round =>
      obtain ⟨k, out, y, hk, rfl, rfl, hown, hout, hlen⟩ := hrel
      have Hown := Lib.hid hown; have Hout := Lib.hid hout; have Hlen := Lib.hid hlen
      clear hown hout hlen
      by_cases hlt : k < n
      · obtain ⟨e, he⟩ : ∃ e, ps[k]? = some e := ⟨_, List.getElem?_eq_getElem (by have := Hn.out; omega)⟩
        have hk0 : (0 : Int) ≤ (k : Int) := by omega
        have hkl : (k : Int) < (n : Int) := by omega
        have Htk := Lib.hid (show possQ (ps.take (k + 1)) = possQ (ps.take k) ++ [⟨e.f0, e.t1⟩] by rw [List.take_add_one, he]; exact possQ_append _ _)
        obtain ⟨b1, off1, rfl, h1'⟩ := Els.pse (Since.els HPs.out y) he
        have ra0 := h1'.c0
        have ra1 := h1'.c1
        have ra2 := h1'.c2
        have ra3 := h1'.c3
        have hb9 := Since.cellTo (⟨y, rfl⟩ : ∃ zz : Since y2.w, y.w = zz.w) hb8
        clear h1' he
        go_upto_region 8 with fail
        refine wp_region_tail (fun w' => ∃ q : Since (y.w), w' = q.w) [0] [1, 2, 3, 4, 5, 6, 7, 8, 9, 10, 11, 12, 13, 14, 15] 16 (by kernel_rfl) (by kernel_rfl) (fun _ _ _ _ _ h => h) (Since.drawn _) ?_
        simp only [List.cons_append, List.nil_append, picks_cons, picks_nil, List.getD_cons_zero, List.getD_cons_succ]
        repeat (go_big_quiet_step (fail))
        refine wpQuiet_nil ?_
        rintro _ ⟨q, rfl⟩
        simp only [List.drop_succ_cons, List.drop_zero]
        go_wp2_with (at_builtin; (refine wpList_appendK (w0 := y2.w) ?hw rfl _ _ 35 rfl y2.w.heap.size (Nat.le_refl _) ?hb 31 (.agg #[.int .i64 0, .int .i64 0]) 16 sWin u6 k (flat Win.cs out) rfl ?hown ⟨q.w.heap.size, 0, none⟩ 1 1 (⟨e.f0, e.t1⟩ : Win).cs rfl rfl ?hc (win_one _) ?h63 ?hbytes ?_; rotate_right 1; intro v2 q2 hown4 _ hg4))
        case hw => obtain ⟨yz, hyz⟩ := y.trans q; rw [hyz]; exact IsSince.alloc (IsSince.of yz) _
        case hb => have := y.b.size; have := q.b.size; simp; omega
        case hown => exact own_to (own_to Hown.out ⟨q, rfl⟩) (IsSince.alloc (IsSince.self _) _)
        case hc => exact cell_new_at q.w (⟨e.f0, e.t1⟩ : Win).cs _
        case h63 => unfold maxLen; omega
        case hbytes => omega
        rw [← flat_one Win.cs (⟨e.f0, e.t1⟩ : Win), ← flat_append] at hown4
        have Hown4 := Lib.hid hown4
        clear hown4 hg4
        go_wp2_with fail
        go_roundw
        case rel => exact ⟨k + 1, out ++ [⟨e.f0, e.t1⟩], q2, by omega, by go_num, rfl, Hown4.out, by rw [Htk.out, ← Hout.out], by simp; exact Hlen.out⟩
        case measure => simp [intOf] <;> omega
      · obtain rfl : k = n := by omega
        have Hq := Lib.hid (show out = possQ ps by rw [Hout.out, List.take_of_length_le (by have := Hn.out; omega)])
        obtain ⟨hlen1, a5, c5, rfl, hc5, he5, _, _⟩ := own_els Win.len (by decide) Hown.out
        rw [Hlen.out]
        have hs0 := Hhs0 y
        have hs1 := Hhs1 y
        have HR := Lib.hid (he5.to (IsSince.alloc (IsSince.self y.w) (.cells #[.int .i64 S.f, .int .i64 S.t] 31)))
        clear hlen1 hc5 he5
        go_wp2_with (go_at_call 43; ((with_reducible refine (rminusP_s (W := y2.w) _ (IsSince.alloc (IsSince.of y) _) ⟨y.w.heap.size, 0, none⟩ S a5 out k c5 0 (els_one _ S) HR.out Hlen.out (by omega) (by rw [Hq.out]; exact Hse2.out)).mono ?_); rintro _ _ ⟨a6, c6, u6, y6, rfl, rfl, hr6, hc6, hq6⟩; (rw [Hq.out] at hq6); have H6 := Lib.hid (Hyes2.out _ _ (setRes_up (Hup2.out _ (IsSince.self _)) ⟨a6, c6, u6, y6, rfl, rfl, hr6, hc6, hq6⟩)); clear hr6 hc6 hq6))
        exact H6.out
end Go.Proofs.Ytefodfpnedcodaa
/- The walks of the certain and the possible time, fourth part: Seconds. -/
namespace Go.Proofs.Ytefodfpnedcodaa
open Go.RowKit

/-- how many moments a set has -/
theorem lenS_is (S : Int → Bool) : ∃ n : Int, n = cnt S 4294944000 := ⟨_, rfl⟩
noncomputable def lenS (S : Int → Bool) : Int := Classical.choose (lenS_is S)
theorem lenS_eq (S : Int → Bool) : lenS S = cnt S 4294944000 := Classical.choose_spec (lenS_is S)
theorem IsSet.lenS {u : List Win} {S : Int → Bool} (h : IsSet u S) : lenW u = lenS S := by rw [h.len, lenS_eq]
/-- the seconds of Riding, of Pausing -/
noncomputable def secR (r : Ride) : Int := if ivE r = 0 then lenS (ridS r) else 0
noncomputable def secP (r : Ride) : Int := if ivE r = 0 then lenS (pauS r) else 0
theorem norm_good {l : List Win} (h : Norm l) : badW l = false := badW_false.2 fun x hx => (vldW_iff x).2 (by have := h.v x hx; omega)
theorem len_of {l u : List Win} {S : Int → Bool} (hl : IsSet l S) (h : UnOk l u) : unE l = 0 ∧ lenW u = lenS S := by
  have hb := norm_good hl.n
  refine ⟨by unfold unE; rw [hb]; rfl, ?_⟩
  have h2 := h.ok hb
  have : u = l := h2.unique ⟨hl.n, fun t => rfl⟩
  rw [this, hl.lenS]
def Num3Res (w : World) (m n E : Int) (o : Ending) (w' : World) : Prop := o = .returned (.tuple #[.int .i64 m, .int .i64 n, .int .i64 E]) ∧ ∃ y : Since w, w' = y.w
theorem num3Res {w w' : World} {m n E a b e : Int} (y : Since w) (hm : m = a) (hn : n = b) (hE : E = e) (hw : w' = y.w) : Num3Res w m n E (.returned (.tuple #[.int .i64 a, .int .i64 b, .int .i64 e])) w' := by
  subst hm; subst hn; subst hE; exact ⟨rfl, y, hw⟩
/-- as SetRes, in a world that is later than W -/
def SetResS (W w : World) (Q : List Win → Prop) (e : Int) (o : Ending) (w' : World) : Prop :=
  ∃ (a : Option Addr) (cap : Nat) (u : List Win) (z : Since W), o = .returned (.tuple #[.slice a u.length cap, .int .i64 e]) ∧ w' = z.w ∧ (∃ v : Since w, z.w = v.w) ∧ WinRow z.w a u ∧ u.length ≤ cap ∧ Q u
theorem setResS {W w : World} (h : IsSince W w) {Q : List Win → Prop} {e : Int} {o : Ending} {w' : World} (k : SetRes w Q e o w') : SetResS W w Q e o w' := by
  obtain ⟨a, cap, u, y, ho, hw, hr, hc, hq⟩ := k
  obtain ⟨z, hz⟩ := h
  subst hz
  obtain ⟨v, hv⟩ := z.trans y
  exact ⟨a, cap, u, v, ho, hw.trans hv, ⟨y, hv.symm⟩, hv ▸ hr, hc, hq⟩
def IntResS (W w : World) (n e : Int) (o : Ending) (w' : World) : Prop := o = .returned (.tuple #[.int .i64 n, .int .i64 e]) ∧ ∃ z : Since W, w' = z.w ∧ ∃ v : Since w, z.w = v.w
theorem riding_s {W : World} (w' : World) (hw : IsSince W w') (r : Ride) (h : r.At W) : Calls Try.prog 18 #[.agg #[.int .i64 r.id, .int .i64 r.rd, .int .i64 r.s0, .int .i64 r.s1, .int .i64 r.e0, .int .i64 r.e1, .bool r.op, .slice r.la r.legs.length r.lc, .slice r.pa r.pauses.length r.pc, .int .i64 r.fw, .int .i64 r.fp, .int .i64 r.wh, .int .i64 r.pl]] w' (SetResS W w' (SetOk (ivE r) (ridS r) (1 + r.pauses.length)) (ivE r)) :=
  (riding_calls w' (Since.self w') r (h.to hw)).mono fun _ _ k => setResS hw k
theorem pausing_s {W : World} (w' : World) (hw : IsSince W w') (r : Ride) (h : r.At W) : Calls Try.prog 16 #[.agg #[.int .i64 r.id, .int .i64 r.rd, .int .i64 r.s0, .int .i64 r.s1, .int .i64 r.e0, .int .i64 r.e1, .bool r.op, .slice r.la r.legs.length r.lc, .slice r.pa r.pauses.length r.pc, .int .i64 r.fw, .int .i64 r.fp, .int .i64 r.wh, .int .i64 r.pl]] w' (SetResS W w' (SetOk (ivE r) (pauS r) (1 + r.pauses.length)) (ivE r)) :=
  (pausing_calls w' (Since.self w') r (h.to hw)).mono fun _ _ k => setResS hw k
theorem length_s {W : World} (w' : World) (hw : IsSince W w') (a : Option Addr) (l : List Win) (c : Nat) (S : Int → Bool) (hS : IsSet l S) (hr : WinRow w' a l) (hl : l.length ≤ 100000) : Calls Try.prog 44 #[.slice a l.length c] w' (IntResS W w' (lenS S) 0) := by
  refine (length_calls w' (Since.self w') a l c hr hl).mono ?_
  rintro _ _ ⟨u, y, rfl, rfl, hu⟩
  obtain ⟨h1, h2⟩ := len_of hS hu
  obtain ⟨z, hz⟩ := hw
  subst hz
  obtain ⟨v, hv⟩ := z.trans y
  exact ⟨by rw [h1, h2], v, hv, y, hv.symm⟩
set_option maxRecDepth 100000 in
set_option maxHeartbeats 8000000 in
theorem seconds_calls (w : World) (x : Since w) (r : Ride) (h : r.At w) :
    Calls Try.prog 21 #[.agg #[.int .i64 r.id, .int .i64 r.rd, .int .i64 r.s0, .int .i64 r.s1, .int .i64 r.e0, .int .i64 r.e1, .bool r.op, .slice r.la r.legs.length r.lc, .slice r.pa r.pauses.length r.pc, .int .i64 r.fw, .int .i64 r.fp, .int .i64 r.wh, .int .i64 r.pl]] x.w (Num3Res w (secR r) (secP r) (ivE r)) := by
  have H := Lib.hid h
  clear h
  have Hok := Lib.hid (fun (h : ivE r = 0) (u : List Win) (S : Int → Bool) (k : SetOk (ivE r) S (1 + r.pauses.length) u) => k.ok h)
  have Hm := Lib.hid (show secR r = if ivE r = 0 then lenS (ridS r) else 0 from rfl)
  have Hn := Lib.hid (show secP r = if ivE r = 0 then lenS (pauS r) else 0 from rfl)
  have Hpost := Lib.hid (fun (w' : World) (a b e : Int) (y : Since w) (hm : secR r = a) (hn : secP r = b) (hE : ivE r = e) (hw : w' = y.w) => num3Res y hm hn hE hw)
  generalize Num3Res w (secR r) (secP r) (ivE r) = PO at *
  have Hpl := Lib.hid (fun h : ivE r = 0 => (rideOk_of h).pn)
  have Hr := Lib.hid (fun (w : World) (h : r.At w) (w' : World) (hw : IsSince w w') => riding_s w' hw r h)
  have Hp := Lib.hid (fun (w : World) (h : r.At w) (w' : World) (hw : IsSince w w') => pausing_s w' hw r h)
  generalize secR r = sr at *
  generalize secP r = sp at *
  generalize ivE r = E at *
  go_enter Try.func21, Try.ntmps21
  go_upto_region 1 with fail
  have hb0_0 : ∀ y : Since (x.w.alloc (.cells #[.int .i64 r.id, .int .i64 r.rd, .int .i64 r.s0, .int .i64 r.s1, .int .i64 r.e0, .int .i64 r.e1, .bool r.op, .slice r.la r.legs.length r.lc, .slice r.pa r.pauses.length r.pc, .int .i64 r.fw, .int .i64 r.fp, .int .i64 r.wh, .int .i64 r.pl] 27)), y.w.cell? ⟨x.w.heap.size, 0, none⟩ = some (.int .i64 r.id) := fun y => Since.cell (by simp [go_sem]) (by first | (simp; done) | (simp; omega)) y
  have hb0_1 : ∀ y : Since (x.w.alloc (.cells #[.int .i64 r.id, .int .i64 r.rd, .int .i64 r.s0, .int .i64 r.s1, .int .i64 r.e0, .int .i64 r.e1, .bool r.op, .slice r.la r.legs.length r.lc, .slice r.pa r.pauses.length r.pc, .int .i64 r.fw, .int .i64 r.fp, .int .i64 r.wh, .int .i64 r.pl] 27)), y.w.cell? ⟨x.w.heap.size, 1, none⟩ = some (.int .i64 r.rd) := fun y => Since.cell (by simp [go_sem]) (by first | (simp; done) | (simp; omega)) y
  have hb0_2 : ∀ y : Since (x.w.alloc (.cells #[.int .i64 r.id, .int .i64 r.rd, .int .i64 r.s0, .int .i64 r.s1, .int .i64 r.e0, .int .i64 r.e1, .bool r.op, .slice r.la r.legs.length r.lc, .slice r.pa r.pauses.length r.pc, .int .i64 r.fw, .int .i64 r.fp, .int .i64 r.wh, .int .i64 r.pl] 27)), y.w.cell? ⟨x.w.heap.size, 2, none⟩ = some (.int .i64 r.s0) := fun y => Since.cell (by simp [go_sem]) (by first | (simp; done) | (simp; omega)) y
  have hb0_3 : ∀ y : Since (x.w.alloc (.cells #[.int .i64 r.id, .int .i64 r.rd, .int .i64 r.s0, .int .i64 r.s1, .int .i64 r.e0, .int .i64 r.e1, .bool r.op, .slice r.la r.legs.length r.lc, .slice r.pa r.pauses.length r.pc, .int .i64 r.fw, .int .i64 r.fp, .int .i64 r.wh, .int .i64 r.pl] 27)), y.w.cell? ⟨x.w.heap.size, 3, none⟩ = some (.int .i64 r.s1) := fun y => Since.cell (by simp [go_sem]) (by first | (simp; done) | (simp; omega)) y
  have hb0_4 : ∀ y : Since (x.w.alloc (.cells #[.int .i64 r.id, .int .i64 r.rd, .int .i64 r.s0, .int .i64 r.s1, .int .i64 r.e0, .int .i64 r.e1, .bool r.op, .slice r.la r.legs.length r.lc, .slice r.pa r.pauses.length r.pc, .int .i64 r.fw, .int .i64 r.fp, .int .i64 r.wh, .int .i64 r.pl] 27)), y.w.cell? ⟨x.w.heap.size, 4, none⟩ = some (.int .i64 r.e0) := fun y => Since.cell (by simp [go_sem]) (by first | (simp; done) | (simp; omega)) y
  have hb0_5 : ∀ y : Since (x.w.alloc (.cells #[.int .i64 r.id, .int .i64 r.rd, .int .i64 r.s0, .int .i64 r.s1, .int .i64 r.e0, .int .i64 r.e1, .bool r.op, .slice r.la r.legs.length r.lc, .slice r.pa r.pauses.length r.pc, .int .i64 r.fw, .int .i64 r.fp, .int .i64 r.wh, .int .i64 r.pl] 27)), y.w.cell? ⟨x.w.heap.size, 5, none⟩ = some (.int .i64 r.e1) := fun y => Since.cell (by simp [go_sem]) (by first | (simp; done) | (simp; omega)) y
  have hb0_6 : ∀ y : Since (x.w.alloc (.cells #[.int .i64 r.id, .int .i64 r.rd, .int .i64 r.s0, .int .i64 r.s1, .int .i64 r.e0, .int .i64 r.e1, .bool r.op, .slice r.la r.legs.length r.lc, .slice r.pa r.pauses.length r.pc, .int .i64 r.fw, .int .i64 r.fp, .int .i64 r.wh, .int .i64 r.pl] 27)), y.w.cell? ⟨x.w.heap.size, 6, none⟩ = some (.bool r.op) := fun y => Since.cell (by simp [go_sem]) (by first | (simp; done) | (simp; omega)) y
  have hb0_7 : ∀ y : Since (x.w.alloc (.cells #[.int .i64 r.id, .int .i64 r.rd, .int .i64 r.s0, .int .i64 r.s1, .int .i64 r.e0, .int .i64 r.e1, .bool r.op, .slice r.la r.legs.length r.lc, .slice r.pa r.pauses.length r.pc, .int .i64 r.fw, .int .i64 r.fp, .int .i64 r.wh, .int .i64 r.pl] 27)), y.w.cell? ⟨x.w.heap.size, 7, none⟩ = some (.slice r.la r.legs.length r.lc) := fun y => Since.cell (by simp [go_sem]) (by first | (simp; done) | (simp; omega)) y
  have hb0_8 : ∀ y : Since (x.w.alloc (.cells #[.int .i64 r.id, .int .i64 r.rd, .int .i64 r.s0, .int .i64 r.s1, .int .i64 r.e0, .int .i64 r.e1, .bool r.op, .slice r.la r.legs.length r.lc, .slice r.pa r.pauses.length r.pc, .int .i64 r.fw, .int .i64 r.fp, .int .i64 r.wh, .int .i64 r.pl] 27)), y.w.cell? ⟨x.w.heap.size, 8, none⟩ = some (.slice r.pa r.pauses.length r.pc) := fun y => Since.cell (by simp [go_sem]) (by first | (simp; done) | (simp; omega)) y
  have hb0_9 : ∀ y : Since (x.w.alloc (.cells #[.int .i64 r.id, .int .i64 r.rd, .int .i64 r.s0, .int .i64 r.s1, .int .i64 r.e0, .int .i64 r.e1, .bool r.op, .slice r.la r.legs.length r.lc, .slice r.pa r.pauses.length r.pc, .int .i64 r.fw, .int .i64 r.fp, .int .i64 r.wh, .int .i64 r.pl] 27)), y.w.cell? ⟨x.w.heap.size, 9, none⟩ = some (.int .i64 r.fw) := fun y => Since.cell (by simp [go_sem]) (by first | (simp; done) | (simp; omega)) y
  have hb0_10 : ∀ y : Since (x.w.alloc (.cells #[.int .i64 r.id, .int .i64 r.rd, .int .i64 r.s0, .int .i64 r.s1, .int .i64 r.e0, .int .i64 r.e1, .bool r.op, .slice r.la r.legs.length r.lc, .slice r.pa r.pauses.length r.pc, .int .i64 r.fw, .int .i64 r.fp, .int .i64 r.wh, .int .i64 r.pl] 27)), y.w.cell? ⟨x.w.heap.size, 10, none⟩ = some (.int .i64 r.fp) := fun y => Since.cell (by simp [go_sem]) (by first | (simp; done) | (simp; omega)) y
  have hb0_11 : ∀ y : Since (x.w.alloc (.cells #[.int .i64 r.id, .int .i64 r.rd, .int .i64 r.s0, .int .i64 r.s1, .int .i64 r.e0, .int .i64 r.e1, .bool r.op, .slice r.la r.legs.length r.lc, .slice r.pa r.pauses.length r.pc, .int .i64 r.fw, .int .i64 r.fp, .int .i64 r.wh, .int .i64 r.pl] 27)), y.w.cell? ⟨x.w.heap.size, 11, none⟩ = some (.int .i64 r.wh) := fun y => Since.cell (by simp [go_sem]) (by first | (simp; done) | (simp; omega)) y
  have hb0_12 : ∀ y : Since (x.w.alloc (.cells #[.int .i64 r.id, .int .i64 r.rd, .int .i64 r.s0, .int .i64 r.s1, .int .i64 r.e0, .int .i64 r.e1, .bool r.op, .slice r.la r.legs.length r.lc, .slice r.pa r.pauses.length r.pc, .int .i64 r.fw, .int .i64 r.fp, .int .i64 r.wh, .int .i64 r.pl] 27)), y.w.cell? ⟨x.w.heap.size, 12, none⟩ = some (.int .i64 r.pl) := fun y => Since.cell (by simp [go_sem]) (by first | (simp; done) | (simp; omega)) y
  have hf0 : ∀ (y : Since (x.w.alloc (.cells #[.int .i64 r.id, .int .i64 r.rd, .int .i64 r.s0, .int .i64 r.s1, .int .i64 r.e0, .int .i64 r.e1, .bool r.op, .slice r.la r.legs.length r.lc, .slice r.pa r.pauses.length r.pc, .int .i64 r.fw, .int .i64 r.fp, .int .i64 r.wh, .int .i64 r.pl] 27))) (o : Nat), y.w.frozen? ⟨x.w.heap.size, o, none⟩ = false := fun y o => Since.free (by simp [go_sem]) (by first | (simp; done) | (simp; omega)) y
  have hWup : ∃ z : Since w, (x.w.alloc (.cells #[.int .i64 r.id, .int .i64 r.rd, .int .i64 r.s0, .int .i64 r.s1, .int .i64 r.e0, .int .i64 r.e1, .bool r.op, .slice r.la r.legs.length r.lc, .slice r.pa r.pauses.length r.pc, .int .i64 r.fw, .int .i64 r.fp, .int .i64 r.wh, .int .i64 r.pl] 27)) = z.w := x.alloc _
  obtain ⟨y0, hy0⟩ := Since.refl (x.w.alloc (.cells #[.int .i64 r.id, .int .i64 r.rd, .int .i64 r.s0, .int .i64 r.s1, .int .i64 r.e0, .int .i64 r.e1, .bool r.op, .slice r.la r.legs.length r.lc, .slice r.pa r.pauses.length r.pc, .int .i64 r.fw, .int .i64 r.fp, .int .i64 r.wh, .int .i64 r.pl] 27))
  have Hbx := Lib.hid (And.intro x.b.size (show x.w.heap.size + 1 = (x.w.alloc (.cells #[.int .i64 r.id, .int .i64 r.rd, .int .i64 r.s0, .int .i64 r.s1, .int .i64 r.e0, .int .i64 r.e1, .bool r.op, .slice r.la r.legs.length r.lc, .slice r.pa r.pauses.length r.pc, .int .i64 r.fw, .int .i64 r.fp, .int .i64 r.wh, .int .i64 r.pl] 27)).heap.size from by simp))
  generalize hW : (x.w.alloc (.cells #[.int .i64 r.id, .int .i64 r.rd, .int .i64 r.s0, .int .i64 r.s1, .int .i64 r.e0, .int .i64 r.e1, .bool r.op, .slice r.la r.legs.length r.lc, .slice r.pa r.pauses.length r.pc, .int .i64 r.fw, .int .i64 r.fp, .int .i64 r.wh, .int .i64 r.pl] 27)) = W at *
  clear hW
  generalize x.w.heap.size = bx at *
  have Hup := Lib.hid (Since.up hWup)
  rw [hy0]
  clear hy0
  replace H := Lib.hid (H.out.to hWup)
  clear hWup
  by_cases he : E = 0
  · have hpl := Hpl.out he
    have Hok2 := Lib.hid (Hok.out he)
    subst he
    have HM := Lib.hid (show sr = lenS (ridS r) from Hm.out)
    have HN := Lib.hid (show sp = lenS (pauS r) from Hn.out)
    clear Hok Hm Hn
    go_upto_region 2 with (go_at_call 18; ((with_reducible refine (Hr.out W H.out _ (IsSince.of y0)).mono ?_); rintro _ _ ⟨ax, cx, u, y1, rfl, rfl, _, hu, _, hU⟩; have HU := Lib.hid hu; have HUo := Lib.hid (Hok2.out _ _ hU); have hul := hU.n; clear hu hU))
    go_upto_region 5 with (go_at_call 16; ((with_reducible refine (Hp.out W H.out _ (IsSince.of y1)).mono ?_); rintro _ _ ⟨ay, cy, v, y2, rfl, rfl, hz2, hv, _, hV⟩; have HV := Lib.hid hv; have HVo := Lib.hid (Hok2.out _ _ hV); have hvl := hV.n; replace HU := Lib.hid (HU.out.to hz2); clear hv hV hz2))
    clear Hr Hp
    go_upto_region 8 with (go_at_call 44; ((with_reducible refine (length_s (W := W) _ (IsSince.of y2) ax u cx (ridS r) HUo.out HU.out (by omega)).mono ?_); rintro _ _ ⟨rfl, y3, rfl, hz3⟩; replace HV := Lib.hid (HV.out.to hz3); clear hz3))
    go_wp2_with (go_at_call 44; ((with_reducible refine (length_s (W := W) _ (IsSince.of y3) ay v cy (pauS r) HVo.out HV.out (by omega)).mono ?_); rintro _ _ ⟨rfl, y4, rfl, _⟩))
    go_ret3
    obtain ⟨z, hz⟩ := Hup.out y4
    exact Hpost.out _ _ _ _ z HM.out HN.out rfl hz
  · have hee : (E != 0) = true := by simpa using he
    go_wp2_with (go_at_call 18; ((with_reducible refine (Hr.out W H.out _ (IsSince.of y0)).mono ?_); rintro _ _ ⟨ax, cx, u, y1, rfl, rfl, _, hu, _, hU⟩; have HU := Lib.hid hu; have HUo := Lib.hid hU; clear hu hU))
    go_ret3
    obtain ⟨z, hz⟩ := Hup.out y1
    exact Hpost.out _ _ _ _ z (by rw [Hm.out, if_neg he]) (by rw [Hn.out, if_neg he]) rfl hz
end Go.Proofs.Ytefodfpnedcodaa
/- The reference of the certain and the possible time, third part: Seconds, Doubt. -/
namespace Go.Proofs.Ytefodfpnedcodaa
open Go.RowKit

theorem rriding_s {W : World} (w' : World) (hw : IsSince W w') (r : Ride) (h : r.At W) : Calls Try.prog 19 #[.agg #[.int .i64 r.id, .int .i64 r.rd, .int .i64 r.s0, .int .i64 r.s1, .int .i64 r.e0, .int .i64 r.e1, .bool r.op, .slice r.la r.legs.length r.lc, .slice r.pa r.pauses.length r.pc, .int .i64 r.fw, .int .i64 r.fp, .int .i64 r.wh, .int .i64 r.pl]] w' (SetResS W w' (SetOk (ivE r) (ridS r) (1 + r.pauses.length)) (ivE r)) :=
  (rriding_calls w' (Since.self w') r (h.to hw)).mono fun _ _ k => setResS hw k
theorem rpausing_s {W : World} (w' : World) (hw : IsSince W w') (r : Ride) (h : r.At W) : Calls Try.prog 17 #[.agg #[.int .i64 r.id, .int .i64 r.rd, .int .i64 r.s0, .int .i64 r.s1, .int .i64 r.e0, .int .i64 r.e1, .bool r.op, .slice r.la r.legs.length r.lc, .slice r.pa r.pauses.length r.pc, .int .i64 r.fw, .int .i64 r.fp, .int .i64 r.wh, .int .i64 r.pl]] w' (SetResS W w' (SetOk (ivE r) (pauS r) (1 + r.pauses.length)) (ivE r)) :=
  (rpausing_calls w' (Since.self w') r (h.to hw)).mono fun _ _ k => setResS hw k
theorem rlength_s {W : World} (w' : World) (hw : IsSince W w') (a : Option Addr) (l : List Win) (c : Nat) (S : Int → Bool) (hS : IsSet l S) (hr : WinRow w' a l) (hl : l.length ≤ 100000) : Calls Try.prog 29 #[.slice a l.length c] w' (IntResS W w' (lenS S) 0) := by
  refine (rlength_calls w' (Since.self w') a l c hr hl).mono ?_
  rintro _ _ ⟨u, y, rfl, rfl, hu⟩
  obtain ⟨h1, h2⟩ := len_of hS hu
  obtain ⟨z, hz⟩ := hw
  subst hz
  obtain ⟨v, hv⟩ := z.trans y
  exact ⟨by rw [h1, h2], v, hv, y, hv.symm⟩
set_option maxRecDepth 100000 in
set_option maxHeartbeats 8000000 in
theorem rseconds_calls (w : World) (x : Since w) (r : Ride) (h : r.At w) :
    Calls Try.prog 22 #[.agg #[.int .i64 r.id, .int .i64 r.rd, .int .i64 r.s0, .int .i64 r.s1, .int .i64 r.e0, .int .i64 r.e1, .bool r.op, .slice r.la r.legs.length r.lc, .slice r.pa r.pauses.length r.pc, .int .i64 r.fw, .int .i64 r.fp, .int .i64 r.wh, .int .i64 r.pl]] x.w (Num3Res w (secR r) (secP r) (ivE r)) := by
  have H := Lib.hid h
  clear h
  have Hok := Lib.hid (fun (h : ivE r = 0) (u : List Win) (S : Int → Bool) (k : SetOk (ivE r) S (1 + r.pauses.length) u) => k.ok h)
  have Hm := Lib.hid (show secR r = if ivE r = 0 then lenS (ridS r) else 0 from rfl)
  have Hn := Lib.hid (show secP r = if ivE r = 0 then lenS (pauS r) else 0 from rfl)
  have Hpost := Lib.hid (fun (w' : World) (a b e : Int) (y : Since w) (hm : secR r = a) (hn : secP r = b) (hE : ivE r = e) (hw : w' = y.w) => num3Res y hm hn hE hw)
  generalize Num3Res w (secR r) (secP r) (ivE r) = PO at *
  have Hpl := Lib.hid (fun h : ivE r = 0 => (rideOk_of h).pn)
  have Hr := Lib.hid (fun (w : World) (h : r.At w) (w' : World) (hw : IsSince w w') => rriding_s w' hw r h)
  have Hp := Lib.hid (fun (w : World) (h : r.At w) (w' : World) (hw : IsSince w w') => rpausing_s w' hw r h)
  generalize secR r = sr at *
  generalize secP r = sp at *
  generalize ivE r = E at *
  go_enter Try.func22, Try.ntmps22
  go_upto_region 1 with fail
  have hb0_0 : ∀ y : Since (x.w.alloc (.cells #[.int .i64 r.id, .int .i64 r.rd, .int .i64 r.s0, .int .i64 r.s1, .int .i64 r.e0, .int .i64 r.e1, .bool r.op, .slice r.la r.legs.length r.lc, .slice r.pa r.pauses.length r.pc, .int .i64 r.fw, .int .i64 r.fp, .int .i64 r.wh, .int .i64 r.pl] 27)), y.w.cell? ⟨x.w.heap.size, 0, none⟩ = some (.int .i64 r.id) := fun y => Since.cell (by simp [go_sem]) (by first | (simp; done) | (simp; omega)) y
  have hb0_1 : ∀ y : Since (x.w.alloc (.cells #[.int .i64 r.id, .int .i64 r.rd, .int .i64 r.s0, .int .i64 r.s1, .int .i64 r.e0, .int .i64 r.e1, .bool r.op, .slice r.la r.legs.length r.lc, .slice r.pa r.pauses.length r.pc, .int .i64 r.fw, .int .i64 r.fp, .int .i64 r.wh, .int .i64 r.pl] 27)), y.w.cell? ⟨x.w.heap.size, 1, none⟩ = some (.int .i64 r.rd) := fun y => Since.cell (by simp [go_sem]) (by first | (simp; done) | (simp; omega)) y
  have hb0_2 : ∀ y : Since (x.w.alloc (.cells #[.int .i64 r.id, .int .i64 r.rd, .int .i64 r.s0, .int .i64 r.s1, .int .i64 r.e0, .int .i64 r.e1, .bool r.op, .slice r.la r.legs.length r.lc, .slice r.pa r.pauses.length r.pc, .int .i64 r.fw, .int .i64 r.fp, .int .i64 r.wh, .int .i64 r.pl] 27)), y.w.cell? ⟨x.w.heap.size, 2, none⟩ = some (.int .i64 r.s0) := fun y => Since.cell (by simp [go_sem]) (by first | (simp; done) | (simp; omega)) y
  have hb0_3 : ∀ y : Since (x.w.alloc (.cells #[.int .i64 r.id, .int .i64 r.rd, .int .i64 r.s0, .int .i64 r.s1, .int .i64 r.e0, .int .i64 r.e1, .bool r.op, .slice r.la r.legs.length r.lc, .slice r.pa r.pauses.length r.pc, .int .i64 r.fw, .int .i64 r.fp, .int .i64 r.wh, .int .i64 r.pl] 27)), y.w.cell? ⟨x.w.heap.size, 3, none⟩ = some (.int .i64 r.s1) := fun y => Since.cell (by simp [go_sem]) (by first | (simp; done) | (simp; omega)) y
  have hb0_4 : ∀ y : Since (x.w.alloc (.cells #[.int .i64 r.id, .int .i64 r.rd, .int .i64 r.s0, .int .i64 r.s1, .int .i64 r.e0, .int .i64 r.e1, .bool r.op, .slice r.la r.legs.length r.lc, .slice r.pa r.pauses.length r.pc, .int .i64 r.fw, .int .i64 r.fp, .int .i64 r.wh, .int .i64 r.pl] 27)), y.w.cell? ⟨x.w.heap.size, 4, none⟩ = some (.int .i64 r.e0) := fun y => Since.cell (by simp [go_sem]) (by first | (simp; done) | (simp; omega)) y
  have hb0_5 : ∀ y : Since (x.w.alloc (.cells #[.int .i64 r.id, .int .i64 r.rd, .int .i64 r.s0, .int .i64 r.s1, .int .i64 r.e0, .int .i64 r.e1, .bool r.op, .slice r.la r.legs.length r.lc, .slice r.pa r.pauses.length r.pc, .int .i64 r.fw, .int .i64 r.fp, .int .i64 r.wh, .int .i64 r.pl] 27)), y.w.cell? ⟨x.w.heap.size, 5, none⟩ = some (.int .i64 r.e1) := fun y => Since.cell (by simp [go_sem]) (by first | (simp; done) | (simp; omega)) y
  have hb0_6 : ∀ y : Since (x.w.alloc (.cells #[.int .i64 r.id, .int .i64 r.rd, .int .i64 r.s0, .int .i64 r.s1, .int .i64 r.e0, .int .i64 r.e1, .bool r.op, .slice r.la r.legs.length r.lc, .slice r.pa r.pauses.length r.pc, .int .i64 r.fw, .int .i64 r.fp, .int .i64 r.wh, .int .i64 r.pl] 27)), y.w.cell? ⟨x.w.heap.size, 6, none⟩ = some (.bool r.op) := fun y => Since.cell (by simp [go_sem]) (by first | (simp; done) | (simp; omega)) y
  have hb0_7 : ∀ y : Since (x.w.alloc (.cells #[.int .i64 r.id, .int .i64 r.rd, .int .i64 r.s0, .int .i64 r.s1, .int .i64 r.e0, .int .i64 r.e1, .bool r.op, .slice r.la r.legs.length r.lc, .slice r.pa r.pauses.length r.pc, .int .i64 r.fw, .int .i64 r.fp, .int .i64 r.wh, .int .i64 r.pl] 27)), y.w.cell? ⟨x.w.heap.size, 7, none⟩ = some (.slice r.la r.legs.length r.lc) := fun y => Since.cell (by simp [go_sem]) (by first | (simp; done) | (simp; omega)) y
  have hb0_8 : ∀ y : Since (x.w.alloc (.cells #[.int .i64 r.id, .int .i64 r.rd, .int .i64 r.s0, .int .i64 r.s1, .int .i64 r.e0, .int .i64 r.e1, .bool r.op, .slice r.la r.legs.length r.lc, .slice r.pa r.pauses.length r.pc, .int .i64 r.fw, .int .i64 r.fp, .int .i64 r.wh, .int .i64 r.pl] 27)), y.w.cell? ⟨x.w.heap.size, 8, none⟩ = some (.slice r.pa r.pauses.length r.pc) := fun y => Since.cell (by simp [go_sem]) (by first | (simp; done) | (simp; omega)) y
  have hb0_9 : ∀ y : Since (x.w.alloc (.cells #[.int .i64 r.id, .int .i64 r.rd, .int .i64 r.s0, .int .i64 r.s1, .int .i64 r.e0, .int .i64 r.e1, .bool r.op, .slice r.la r.legs.length r.lc, .slice r.pa r.pauses.length r.pc, .int .i64 r.fw, .int .i64 r.fp, .int .i64 r.wh, .int .i64 r.pl] 27)), y.w.cell? ⟨x.w.heap.size, 9, none⟩ = some (.int .i64 r.fw) := fun y => Since.cell (by simp [go_sem]) (by first | (simp; done) | (simp; omega)) y
  have hb0_10 : ∀ y : Since (x.w.alloc (.cells #[.int .i64 r.id, .int .i64 r.rd, .int .i64 r.s0, .int .i64 r.s1, .int .i64 r.e0, .int .i64 r.e1, .bool r.op, .slice r.la r.legs.length r.lc, .slice r.pa r.pauses.length r.pc, .int .i64 r.fw, .int .i64 r.fp, .int .i64 r.wh, .int .i64 r.pl] 27)), y.w.cell? ⟨x.w.heap.size, 10, none⟩ = some (.int .i64 r.fp) := fun y => Since.cell (by simp [go_sem]) (by first | (simp; done) | (simp; omega)) y
  have hb0_11 : ∀ y : Since (x.w.alloc (.cells #[.int .i64 r.id, .int .i64 r.rd, .int .i64 r.s0, .int .i64 r.s1, .int .i64 r.e0, .int .i64 r.e1, .bool r.op, .slice r.la r.legs.length r.lc, .slice r.pa r.pauses.length r.pc, .int .i64 r.fw, .int .i64 r.fp, .int .i64 r.wh, .int .i64 r.pl] 27)), y.w.cell? ⟨x.w.heap.size, 11, none⟩ = some (.int .i64 r.wh) := fun y => Since.cell (by simp [go_sem]) (by first | (simp; done) | (simp; omega)) y
  have hb0_12 : ∀ y : Since (x.w.alloc (.cells #[.int .i64 r.id, .int .i64 r.rd, .int .i64 r.s0, .int .i64 r.s1, .int .i64 r.e0, .int .i64 r.e1, .bool r.op, .slice r.la r.legs.length r.lc, .slice r.pa r.pauses.length r.pc, .int .i64 r.fw, .int .i64 r.fp, .int .i64 r.wh, .int .i64 r.pl] 27)), y.w.cell? ⟨x.w.heap.size, 12, none⟩ = some (.int .i64 r.pl) := fun y => Since.cell (by simp [go_sem]) (by first | (simp; done) | (simp; omega)) y
  have hf0 : ∀ (y : Since (x.w.alloc (.cells #[.int .i64 r.id, .int .i64 r.rd, .int .i64 r.s0, .int .i64 r.s1, .int .i64 r.e0, .int .i64 r.e1, .bool r.op, .slice r.la r.legs.length r.lc, .slice r.pa r.pauses.length r.pc, .int .i64 r.fw, .int .i64 r.fp, .int .i64 r.wh, .int .i64 r.pl] 27))) (o : Nat), y.w.frozen? ⟨x.w.heap.size, o, none⟩ = false := fun y o => Since.free (by simp [go_sem]) (by first | (simp; done) | (simp; omega)) y
  have hWup : ∃ z : Since w, (x.w.alloc (.cells #[.int .i64 r.id, .int .i64 r.rd, .int .i64 r.s0, .int .i64 r.s1, .int .i64 r.e0, .int .i64 r.e1, .bool r.op, .slice r.la r.legs.length r.lc, .slice r.pa r.pauses.length r.pc, .int .i64 r.fw, .int .i64 r.fp, .int .i64 r.wh, .int .i64 r.pl] 27)) = z.w := x.alloc _
  obtain ⟨y0, hy0⟩ := Since.refl (x.w.alloc (.cells #[.int .i64 r.id, .int .i64 r.rd, .int .i64 r.s0, .int .i64 r.s1, .int .i64 r.e0, .int .i64 r.e1, .bool r.op, .slice r.la r.legs.length r.lc, .slice r.pa r.pauses.length r.pc, .int .i64 r.fw, .int .i64 r.fp, .int .i64 r.wh, .int .i64 r.pl] 27))
  have Hbx := Lib.hid (And.intro x.b.size (show x.w.heap.size + 1 = (x.w.alloc (.cells #[.int .i64 r.id, .int .i64 r.rd, .int .i64 r.s0, .int .i64 r.s1, .int .i64 r.e0, .int .i64 r.e1, .bool r.op, .slice r.la r.legs.length r.lc, .slice r.pa r.pauses.length r.pc, .int .i64 r.fw, .int .i64 r.fp, .int .i64 r.wh, .int .i64 r.pl] 27)).heap.size from by simp))
  generalize hW : (x.w.alloc (.cells #[.int .i64 r.id, .int .i64 r.rd, .int .i64 r.s0, .int .i64 r.s1, .int .i64 r.e0, .int .i64 r.e1, .bool r.op, .slice r.la r.legs.length r.lc, .slice r.pa r.pauses.length r.pc, .int .i64 r.fw, .int .i64 r.fp, .int .i64 r.wh, .int .i64 r.pl] 27)) = W at *
  clear hW
  generalize x.w.heap.size = bx at *
  have Hup := Lib.hid (Since.up hWup)
  rw [hy0]
  clear hy0
  replace H := Lib.hid (H.out.to hWup)
  clear hWup
  by_cases he : E = 0
  · have hpl := Hpl.out he
    have Hok2 := Lib.hid (Hok.out he)
    subst he
    have HM := Lib.hid (show sr = lenS (ridS r) from Hm.out)
    have HN := Lib.hid (show sp = lenS (pauS r) from Hn.out)
    clear Hok Hm Hn
    go_upto_region 2 with (go_at_call 19; ((with_reducible refine (Hr.out W H.out _ (IsSince.of y0)).mono ?_); rintro _ _ ⟨ax, cx, u, y1, rfl, rfl, _, hu, _, hU⟩; have HU := Lib.hid hu; have HUo := Lib.hid (Hok2.out _ _ hU); have hul := hU.n; clear hu hU))
    go_upto_region 5 with (go_at_call 17; ((with_reducible refine (Hp.out W H.out _ (IsSince.of y1)).mono ?_); rintro _ _ ⟨ay, cy, v, y2, rfl, rfl, hz2, hv, _, hV⟩; have HV := Lib.hid hv; have HVo := Lib.hid (Hok2.out _ _ hV); have hvl := hV.n; replace HU := Lib.hid (HU.out.to hz2); clear hv hV hz2))
    clear Hr Hp
    go_upto_region 6 with (go_at_call 29; ((with_reducible refine (rlength_s (W := W) _ (IsSince.of y2) ax u cx (ridS r) HUo.out HU.out (by omega)).mono ?_); rintro _ _ ⟨rfl, y3, rfl, hz3⟩; replace HV := Lib.hid (HV.out.to hz3); clear hz3))
    go_wp2_with (go_at_call 29; ((with_reducible refine (rlength_s (W := W) _ (IsSince.of y3) ay v cy (pauS r) HVo.out HV.out (by omega)).mono ?_); rintro _ _ ⟨rfl, y4, rfl, _⟩))
    go_ret3
    obtain ⟨z, hz⟩ := Hup.out y4
    exact Hpost.out _ _ _ _ z HM.out HN.out rfl hz
  · have hee : (E != 0) = true := by simpa using he
    go_wp2_with (go_at_call 19; ((with_reducible refine (Hr.out W H.out _ (IsSince.of y0)).mono ?_); rintro _ _ ⟨ax, cx, u, y1, rfl, rfl, _, hu, _, hU⟩; have HU := Lib.hid hu; have HUo := Lib.hid hU; clear hu hU))
    go_ret3
    obtain ⟨z, hz⟩ := Hup.out y1
    exact Hpost.out _ _ _ _ z (by rw [Hm.out, if_neg he]) (by rw [Hn.out, if_neg he]) rfl hz
set_option maxRecDepth 100000 in
set_option maxHeartbeats 8000000 in
theorem rdoubt_calls (w : World) (x : Since w) (r : Ride) (h : r.At w) :
    Calls Try.prog 24 #[.agg #[.int .i64 r.id, .int .i64 r.rd, .int .i64 r.s0, .int .i64 r.s1, .int .i64 r.e0, .int .i64 r.e1, .bool r.op, .slice r.la r.legs.length r.lc, .slice r.pa r.pauses.length r.pc, .int .i64 r.fw, .int .i64 r.fp, .int .i64 r.wh, .int .i64 r.pl]] x.w (NumRes w (doubtV r) (ivE r)) := by
  have H := Lib.hid h
  clear h
  have Hd := Lib.hid (show doubtV r = if ivE r = 0 then r.e1 - r.s0 - (max r.s1 r.e0 - r.s1) else 0 from rfl)
  have Hsw := Lib.hid (show sureW r = if ivE r = 0 then ⟨r.s1, max r.s1 r.e0⟩ else ⟨0, 0⟩ from rfl)
  have Hpw := Lib.hid (show possW r = if ivE r = 0 then ⟨r.s0, r.e1⟩ else ⟨0, 0⟩ from rfl)
  have Hok := Lib.hid (fun h : ivE r = 0 => rideOk_doubt h)
  generalize doubtV r = D at *
  have Hc := Lib.hid (fun (w : World) (x : Since w) (h : r.At w) => rsure_calls w x r h)
  have Hq := Lib.hid (fun (w : World) (x : Since w) (h : r.At w) => rpossible_calls w x r h)
  generalize sureW r = T at *
  generalize possW r = V at *
  generalize ivE r = E at *
  have Hpost := Lib.hid (fun (w' : World) (m e : Int) (y : Since w) (hS : D = m) (hE : E = e) (hw : w' = y.w) => numRes y hS hE hw)
  generalize NumRes w D E = PO at *
  go_enter Try.func24, Try.ntmps24
  go_upto_region 1 with fail
  have hb0_0 : ∀ y : Since (x.w.alloc (.cells #[.int .i64 r.id, .int .i64 r.rd, .int .i64 r.s0, .int .i64 r.s1, .int .i64 r.e0, .int .i64 r.e1, .bool r.op, .slice r.la r.legs.length r.lc, .slice r.pa r.pauses.length r.pc, .int .i64 r.fw, .int .i64 r.fp, .int .i64 r.wh, .int .i64 r.pl] 27)), y.w.cell? ⟨x.w.heap.size, 0, none⟩ = some (.int .i64 r.id) := fun y => Since.cell (by simp [go_sem]) (by first | (simp; done) | (simp; omega)) y
  have hb0_1 : ∀ y : Since (x.w.alloc (.cells #[.int .i64 r.id, .int .i64 r.rd, .int .i64 r.s0, .int .i64 r.s1, .int .i64 r.e0, .int .i64 r.e1, .bool r.op, .slice r.la r.legs.length r.lc, .slice r.pa r.pauses.length r.pc, .int .i64 r.fw, .int .i64 r.fp, .int .i64 r.wh, .int .i64 r.pl] 27)), y.w.cell? ⟨x.w.heap.size, 1, none⟩ = some (.int .i64 r.rd) := fun y => Since.cell (by simp [go_sem]) (by first | (simp; done) | (simp; omega)) y
  have hb0_2 : ∀ y : Since (x.w.alloc (.cells #[.int .i64 r.id, .int .i64 r.rd, .int .i64 r.s0, .int .i64 r.s1, .int .i64 r.e0, .int .i64 r.e1, .bool r.op, .slice r.la r.legs.length r.lc, .slice r.pa r.pauses.length r.pc, .int .i64 r.fw, .int .i64 r.fp, .int .i64 r.wh, .int .i64 r.pl] 27)), y.w.cell? ⟨x.w.heap.size, 2, none⟩ = some (.int .i64 r.s0) := fun y => Since.cell (by simp [go_sem]) (by first | (simp; done) | (simp; omega)) y
  have hb0_3 : ∀ y : Since (x.w.alloc (.cells #[.int .i64 r.id, .int .i64 r.rd, .int .i64 r.s0, .int .i64 r.s1, .int .i64 r.e0, .int .i64 r.e1, .bool r.op, .slice r.la r.legs.length r.lc, .slice r.pa r.pauses.length r.pc, .int .i64 r.fw, .int .i64 r.fp, .int .i64 r.wh, .int .i64 r.pl] 27)), y.w.cell? ⟨x.w.heap.size, 3, none⟩ = some (.int .i64 r.s1) := fun y => Since.cell (by simp [go_sem]) (by first | (simp; done) | (simp; omega)) y
  have hb0_4 : ∀ y : Since (x.w.alloc (.cells #[.int .i64 r.id, .int .i64 r.rd, .int .i64 r.s0, .int .i64 r.s1, .int .i64 r.e0, .int .i64 r.e1, .bool r.op, .slice r.la r.legs.length r.lc, .slice r.pa r.pauses.length r.pc, .int .i64 r.fw, .int .i64 r.fp, .int .i64 r.wh, .int .i64 r.pl] 27)), y.w.cell? ⟨x.w.heap.size, 4, none⟩ = some (.int .i64 r.e0) := fun y => Since.cell (by simp [go_sem]) (by first | (simp; done) | (simp; omega)) y
  have hb0_5 : ∀ y : Since (x.w.alloc (.cells #[.int .i64 r.id, .int .i64 r.rd, .int .i64 r.s0, .int .i64 r.s1, .int .i64 r.e0, .int .i64 r.e1, .bool r.op, .slice r.la r.legs.length r.lc, .slice r.pa r.pauses.length r.pc, .int .i64 r.fw, .int .i64 r.fp, .int .i64 r.wh, .int .i64 r.pl] 27)), y.w.cell? ⟨x.w.heap.size, 5, none⟩ = some (.int .i64 r.e1) := fun y => Since.cell (by simp [go_sem]) (by first | (simp; done) | (simp; omega)) y
  have hb0_6 : ∀ y : Since (x.w.alloc (.cells #[.int .i64 r.id, .int .i64 r.rd, .int .i64 r.s0, .int .i64 r.s1, .int .i64 r.e0, .int .i64 r.e1, .bool r.op, .slice r.la r.legs.length r.lc, .slice r.pa r.pauses.length r.pc, .int .i64 r.fw, .int .i64 r.fp, .int .i64 r.wh, .int .i64 r.pl] 27)), y.w.cell? ⟨x.w.heap.size, 6, none⟩ = some (.bool r.op) := fun y => Since.cell (by simp [go_sem]) (by first | (simp; done) | (simp; omega)) y
  have hb0_7 : ∀ y : Since (x.w.alloc (.cells #[.int .i64 r.id, .int .i64 r.rd, .int .i64 r.s0, .int .i64 r.s1, .int .i64 r.e0, .int .i64 r.e1, .bool r.op, .slice r.la r.legs.length r.lc, .slice r.pa r.pauses.length r.pc, .int .i64 r.fw, .int .i64 r.fp, .int .i64 r.wh, .int .i64 r.pl] 27)), y.w.cell? ⟨x.w.heap.size, 7, none⟩ = some (.slice r.la r.legs.length r.lc) := fun y => Since.cell (by simp [go_sem]) (by first | (simp; done) | (simp; omega)) y
  have hb0_8 : ∀ y : Since (x.w.alloc (.cells #[.int .i64 r.id, .int .i64 r.rd, .int .i64 r.s0, .int .i64 r.s1, .int .i64 r.e0, .int .i64 r.e1, .bool r.op, .slice r.la r.legs.length r.lc, .slice r.pa r.pauses.length r.pc, .int .i64 r.fw, .int .i64 r.fp, .int .i64 r.wh, .int .i64 r.pl] 27)), y.w.cell? ⟨x.w.heap.size, 8, none⟩ = some (.slice r.pa r.pauses.length r.pc) := fun y => Since.cell (by simp [go_sem]) (by first | (simp; done) | (simp; omega)) y
  have hb0_9 : ∀ y : Since (x.w.alloc (.cells #[.int .i64 r.id, .int .i64 r.rd, .int .i64 r.s0, .int .i64 r.s1, .int .i64 r.e0, .int .i64 r.e1, .bool r.op, .slice r.la r.legs.length r.lc, .slice r.pa r.pauses.length r.pc, .int .i64 r.fw, .int .i64 r.fp, .int .i64 r.wh, .int .i64 r.pl] 27)), y.w.cell? ⟨x.w.heap.size, 9, none⟩ = some (.int .i64 r.fw) := fun y => Since.cell (by simp [go_sem]) (by first | (simp; done) | (simp; omega)) y
  have hb0_10 : ∀ y : Since (x.w.alloc (.cells #[.int .i64 r.id, .int .i64 r.rd, .int .i64 r.s0, .int .i64 r.s1, .int .i64 r.e0, .int .i64 r.e1, .bool r.op, .slice r.la r.legs.length r.lc, .slice r.pa r.pauses.length r.pc, .int .i64 r.fw, .int .i64 r.fp, .int .i64 r.wh, .int .i64 r.pl] 27)), y.w.cell? ⟨x.w.heap.size, 10, none⟩ = some (.int .i64 r.fp) := fun y => Since.cell (by simp [go_sem]) (by first | (simp; done) | (simp; omega)) y
  have hb0_11 : ∀ y : Since (x.w.alloc (.cells #[.int .i64 r.id, .int .i64 r.rd, .int .i64 r.s0, .int .i64 r.s1, .int .i64 r.e0, .int .i64 r.e1, .bool r.op, .slice r.la r.legs.length r.lc, .slice r.pa r.pauses.length r.pc, .int .i64 r.fw, .int .i64 r.fp, .int .i64 r.wh, .int .i64 r.pl] 27)), y.w.cell? ⟨x.w.heap.size, 11, none⟩ = some (.int .i64 r.wh) := fun y => Since.cell (by simp [go_sem]) (by first | (simp; done) | (simp; omega)) y
  have hb0_12 : ∀ y : Since (x.w.alloc (.cells #[.int .i64 r.id, .int .i64 r.rd, .int .i64 r.s0, .int .i64 r.s1, .int .i64 r.e0, .int .i64 r.e1, .bool r.op, .slice r.la r.legs.length r.lc, .slice r.pa r.pauses.length r.pc, .int .i64 r.fw, .int .i64 r.fp, .int .i64 r.wh, .int .i64 r.pl] 27)), y.w.cell? ⟨x.w.heap.size, 12, none⟩ = some (.int .i64 r.pl) := fun y => Since.cell (by simp [go_sem]) (by first | (simp; done) | (simp; omega)) y
  have hf0 : ∀ (y : Since (x.w.alloc (.cells #[.int .i64 r.id, .int .i64 r.rd, .int .i64 r.s0, .int .i64 r.s1, .int .i64 r.e0, .int .i64 r.e1, .bool r.op, .slice r.la r.legs.length r.lc, .slice r.pa r.pauses.length r.pc, .int .i64 r.fw, .int .i64 r.fp, .int .i64 r.wh, .int .i64 r.pl] 27))) (o : Nat), y.w.frozen? ⟨x.w.heap.size, o, none⟩ = false := fun y o => Since.free (by simp [go_sem]) (by first | (simp; done) | (simp; omega)) y
  have hWup : ∃ z : Since w, (x.w.alloc (.cells #[.int .i64 r.id, .int .i64 r.rd, .int .i64 r.s0, .int .i64 r.s1, .int .i64 r.e0, .int .i64 r.e1, .bool r.op, .slice r.la r.legs.length r.lc, .slice r.pa r.pauses.length r.pc, .int .i64 r.fw, .int .i64 r.fp, .int .i64 r.wh, .int .i64 r.pl] 27)) = z.w := x.alloc _
  obtain ⟨y0, hy0⟩ := Since.refl (x.w.alloc (.cells #[.int .i64 r.id, .int .i64 r.rd, .int .i64 r.s0, .int .i64 r.s1, .int .i64 r.e0, .int .i64 r.e1, .bool r.op, .slice r.la r.legs.length r.lc, .slice r.pa r.pauses.length r.pc, .int .i64 r.fw, .int .i64 r.fp, .int .i64 r.wh, .int .i64 r.pl] 27))
  have Hbx := Lib.hid (And.intro x.b.size (show x.w.heap.size + 1 = (x.w.alloc (.cells #[.int .i64 r.id, .int .i64 r.rd, .int .i64 r.s0, .int .i64 r.s1, .int .i64 r.e0, .int .i64 r.e1, .bool r.op, .slice r.la r.legs.length r.lc, .slice r.pa r.pauses.length r.pc, .int .i64 r.fw, .int .i64 r.fp, .int .i64 r.wh, .int .i64 r.pl] 27)).heap.size from by simp))
  generalize hW : (x.w.alloc (.cells #[.int .i64 r.id, .int .i64 r.rd, .int .i64 r.s0, .int .i64 r.s1, .int .i64 r.e0, .int .i64 r.e1, .bool r.op, .slice r.la r.legs.length r.lc, .slice r.pa r.pauses.length r.pc, .int .i64 r.fw, .int .i64 r.fp, .int .i64 r.wh, .int .i64 r.pl] 27)) = W at *
  clear hW
  generalize x.w.heap.size = bx at *
  have Hup := Lib.hid (Since.up hWup)
  rw [hy0]
  clear hy0
  replace H := Lib.hid (H.out.to hWup)
  clear hWup
  go_upto_region 2 with (go_at_call 15; ((with_reducible refine (Hq.out W y0 H.out).mono ?_); rintro _ _ ⟨rfl, y1, rfl⟩))
  have hs0 : (y1.w.alloc (.cells #[.int .i64 V.f, .int .i64 V.t] 31)).cell? ⟨y1.w.heap.size, 0, none⟩ = some (.int .i64 V.f) := by simp [go_sem]
  have hs1 : (y1.w.alloc (.cells #[.int .i64 V.f, .int .i64 V.t] 31)).cell? ⟨y1.w.heap.size, 1, none⟩ = some (.int .i64 V.t) := by simp [go_sem]
  have hsf : ∀ o, (y1.w.alloc (.cells #[.int .i64 V.f, .int .i64 V.t] 31)).frozen? ⟨y1.w.heap.size, o, none⟩ = false := fun o => by simp [go_sem]
  have hlt0 : y1.w.heap.size < (y1.w.alloc (.cells #[.int .i64 V.f, .int .i64 V.t] 31)).heap.size := by simp
  have hst0 : ∃ zz : Since y1.w, (y1.w.alloc (.cells #[.int .i64 V.f, .int .i64 V.t] 31)) = zz.w := IsSince.alloc (IsSince.self _) _
  have hsz0 := y1.b.size
  obtain ⟨y2, e2⟩ := IsSince.alloc (IsSince.of y1) (.cells #[.int .i64 V.f, .int .i64 V.t] 31)
  rw [e2] at hs0 hs1 hsf hlt0 hst0 ⊢
  skip
  clear e2 hst0
  generalize y1.w.heap.size = gs at *
  have Hhs0 : ∀ q : Since y2.w, q.w.cell? ⟨gs, 0, none⟩ = some (.int .i64 V.f) := fun q => Since.cell hs0 (by omega) q
  have Hhs1 : ∀ q : Since y2.w, q.w.cell? ⟨gs, 1, none⟩ = some (.int .i64 V.t) := fun q => Since.cell hs1 (by omega) q
  have Hhsf : ∀ (q : Since y2.w) (o : Nat), q.w.frozen? ⟨gs, o, none⟩ = false := fun q o => Since.free (hsf o) (by omega) q
  have Hhsg := Lib.hid (And.intro hsz0 hlt0)
  clear hlt0 hsz0
  by_cases he : E = 0
  · have HD := Lib.hid (show D = V.t - V.f - (T.t - T.f) by rw [Hd.out, Hsw.out, Hpw.out, if_pos he, if_pos he, if_pos he])
    obtain ⟨k0, k1, k2, k3, k4, k5⟩ := Hok.out he
    have hT : T.f = r.s1 ∧ T.t = max r.s1 r.e0 ∧ V.f = r.s0 ∧ V.t = r.e1 := by rw [Hsw.out, Hpw.out, if_pos he, if_pos he]; exact ⟨rfl, rfl, rfl, rfl⟩
    have k6 : 0 ≤ T.f := by omega
    have k7 : T.f ≤ 4294943999 := by omega
    have k8 : 0 ≤ T.t := by omega
    have k9 : T.t ≤ 4294943999 := by omega
    have l6 : 0 ≤ V.f := by omega
    have l7 : V.f ≤ 4294943999 := by omega
    have l8 : 0 ≤ V.t := by omega
    have l9 : V.t ≤ 4294943999 := by omega
    clear hT
    subst he
    replace hb0_0 := Since.cellTo ⟨y2, rfl⟩ hb0_0
    replace hb0_1 := Since.cellTo ⟨y2, rfl⟩ hb0_1
    replace hb0_2 := Since.cellTo ⟨y2, rfl⟩ hb0_2
    replace hb0_3 := Since.cellTo ⟨y2, rfl⟩ hb0_3
    replace hb0_4 := Since.cellTo ⟨y2, rfl⟩ hb0_4
    replace hb0_5 := Since.cellTo ⟨y2, rfl⟩ hb0_5
    replace hb0_6 := Since.cellTo ⟨y2, rfl⟩ hb0_6
    replace hb0_7 := Since.cellTo ⟨y2, rfl⟩ hb0_7
    replace hb0_8 := Since.cellTo ⟨y2, rfl⟩ hb0_8
    replace hb0_9 := Since.cellTo ⟨y2, rfl⟩ hb0_9
    replace hb0_10 := Since.cellTo ⟨y2, rfl⟩ hb0_10
    replace hb0_11 := Since.cellTo ⟨y2, rfl⟩ hb0_11
    replace hb0_12 := Since.cellTo ⟨y2, rfl⟩ hb0_12
    obtain ⟨q2, hq0⟩ := Since.refl y2.w
    rw [hq0]
    clear hq0
    go_upto_region 5 with (go_at_call 13; ((with_reducible refine (Hc.out y2.w q2 (H.out.to ⟨y2, rfl⟩)).mono ?_); rintro _ _ ⟨rfl, y3, rfl⟩))
    have ht0 : (y3.w.alloc (.cells #[.int .i64 T.f, .int .i64 T.t] 31)).cell? ⟨y3.w.heap.size, 0, none⟩ = some (.int .i64 T.f) := by simp [go_sem]
    have ht1 : (y3.w.alloc (.cells #[.int .i64 T.f, .int .i64 T.t] 31)).cell? ⟨y3.w.heap.size, 1, none⟩ = some (.int .i64 T.t) := by simp [go_sem]
    have htf : ∀ o, (y3.w.alloc (.cells #[.int .i64 T.f, .int .i64 T.t] 31)).frozen? ⟨y3.w.heap.size, o, none⟩ = false := fun o => by simp [go_sem]
    have hlt0 : y3.w.heap.size < (y3.w.alloc (.cells #[.int .i64 T.f, .int .i64 T.t] 31)).heap.size := by simp
    have hst0 : ∃ zz : Since y3.w, (y3.w.alloc (.cells #[.int .i64 T.f, .int .i64 T.t] 31)) = zz.w := IsSince.alloc (IsSince.self _) _
    have hsz0 := y3.b.size
    obtain ⟨y4, e2⟩ := IsSince.alloc (IsSince.of y3) (.cells #[.int .i64 T.f, .int .i64 T.t] 31)
    rw [e2] at ht0 ht1 htf hlt0 hst0 ⊢
    skip
    clear e2 hst0
    generalize y3.w.heap.size = gt at *
    have Hht0 : ∀ q : Since y4.w, q.w.cell? ⟨gt, 0, none⟩ = some (.int .i64 T.f) := fun q => Since.cell ht0 (by omega) q
    have Hht1 : ∀ q : Since y4.w, q.w.cell? ⟨gt, 1, none⟩ = some (.int .i64 T.t) := fun q => Since.cell ht1 (by omega) q
    have Hhtf : ∀ (q : Since y4.w) (o : Nat), q.w.frozen? ⟨gt, o, none⟩ = false := fun q o => Since.free (htf o) (by omega) q
    have Hhtg := Lib.hid (And.intro hsz0 hlt0)
    clear hlt0 hsz0
    go_wp2_with fail
    obtain ⟨y5, h5⟩ := y2.trans y4
    rw [h5]
    obtain ⟨z, hz⟩ := Hup.out y5
    exact Hpost.out _ _ _ z HD.out rfl hz
  · have hee : (E != 0) = true := by simpa using he
    have HD := Lib.hid (show D = 0 by rw [Hd.out, if_neg he])
    go_wp2_with fail
    obtain ⟨z, hz⟩ := Hup.out y2
    exact Hpost.out _ _ _ z HD.out rfl hz
end Go.Proofs.Ytefodfpnedcodaa
/- The laws of the certain and the possible time, first part: few, the chapter's ride. -/
namespace Go.Proofs.Ytefodfpnedcodaa
open Go.RowKit

/-- at most 100 legs and 100 pauses -/
def few23 (r : Ride) : Bool := decide (r.legs.length ≤ 100) && decide (r.pauses.length ≤ 100)
theorem few23_calls (w : World) (x : Since w) (r : Ride) (h : r.At w) :
    Calls Try.prog 10 #[.agg #[.int .i64 r.id, .int .i64 r.rd, .int .i64 r.s0, .int .i64 r.s1, .int .i64 r.e0, .int .i64 r.e1, .bool r.op, .slice r.la r.legs.length r.lc, .slice r.pa r.pauses.length r.pc, .int .i64 r.fw, .int .i64 r.fp, .int .i64 r.wh, .int .i64 r.pl]] x.w fun o w' => o = .returned (.bool (few23 r)) ∧ ∃ y : Since w, w' = y.w := by
  have hlm := h.lm
  have hpm := h.pm
  clear h
  have Hf := Lib.hid (show few23 r = (decide (r.legs.length ≤ 100) && decide (r.pauses.length ≤ 100)) from rfl)
  go_enter Try.func10, Try.ntmps10
  go_upto_region 1 with fail
  have hb0_0 : ∀ y : Since (x.w.alloc (.cells #[.int .i64 r.id, .int .i64 r.rd, .int .i64 r.s0, .int .i64 r.s1, .int .i64 r.e0, .int .i64 r.e1, .bool r.op, .slice r.la r.legs.length r.lc, .slice r.pa r.pauses.length r.pc, .int .i64 r.fw, .int .i64 r.fp, .int .i64 r.wh, .int .i64 r.pl] 27)), y.w.cell? ⟨x.w.heap.size, 0, none⟩ = some (.int .i64 r.id) := fun y => Since.cell (by simp [go_sem]) (by first | (simp; done) | (simp; omega)) y
  have hb0_1 : ∀ y : Since (x.w.alloc (.cells #[.int .i64 r.id, .int .i64 r.rd, .int .i64 r.s0, .int .i64 r.s1, .int .i64 r.e0, .int .i64 r.e1, .bool r.op, .slice r.la r.legs.length r.lc, .slice r.pa r.pauses.length r.pc, .int .i64 r.fw, .int .i64 r.fp, .int .i64 r.wh, .int .i64 r.pl] 27)), y.w.cell? ⟨x.w.heap.size, 1, none⟩ = some (.int .i64 r.rd) := fun y => Since.cell (by simp [go_sem]) (by first | (simp; done) | (simp; omega)) y
  have hb0_2 : ∀ y : Since (x.w.alloc (.cells #[.int .i64 r.id, .int .i64 r.rd, .int .i64 r.s0, .int .i64 r.s1, .int .i64 r.e0, .int .i64 r.e1, .bool r.op, .slice r.la r.legs.length r.lc, .slice r.pa r.pauses.length r.pc, .int .i64 r.fw, .int .i64 r.fp, .int .i64 r.wh, .int .i64 r.pl] 27)), y.w.cell? ⟨x.w.heap.size, 2, none⟩ = some (.int .i64 r.s0) := fun y => Since.cell (by simp [go_sem]) (by first | (simp; done) | (simp; omega)) y
  have hb0_3 : ∀ y : Since (x.w.alloc (.cells #[.int .i64 r.id, .int .i64 r.rd, .int .i64 r.s0, .int .i64 r.s1, .int .i64 r.e0, .int .i64 r.e1, .bool r.op, .slice r.la r.legs.length r.lc, .slice r.pa r.pauses.length r.pc, .int .i64 r.fw, .int .i64 r.fp, .int .i64 r.wh, .int .i64 r.pl] 27)), y.w.cell? ⟨x.w.heap.size, 3, none⟩ = some (.int .i64 r.s1) := fun y => Since.cell (by simp [go_sem]) (by first | (simp; done) | (simp; omega)) y
  have hb0_4 : ∀ y : Since (x.w.alloc (.cells #[.int .i64 r.id, .int .i64 r.rd, .int .i64 r.s0, .int .i64 r.s1, .int .i64 r.e0, .int .i64 r.e1, .bool r.op, .slice r.la r.legs.length r.lc, .slice r.pa r.pauses.length r.pc, .int .i64 r.fw, .int .i64 r.fp, .int .i64 r.wh, .int .i64 r.pl] 27)), y.w.cell? ⟨x.w.heap.size, 4, none⟩ = some (.int .i64 r.e0) := fun y => Since.cell (by simp [go_sem]) (by first | (simp; done) | (simp; omega)) y
  have hb0_5 : ∀ y : Since (x.w.alloc (.cells #[.int .i64 r.id, .int .i64 r.rd, .int .i64 r.s0, .int .i64 r.s1, .int .i64 r.e0, .int .i64 r.e1, .bool r.op, .slice r.la r.legs.length r.lc, .slice r.pa r.pauses.length r.pc, .int .i64 r.fw, .int .i64 r.fp, .int .i64 r.wh, .int .i64 r.pl] 27)), y.w.cell? ⟨x.w.heap.size, 5, none⟩ = some (.int .i64 r.e1) := fun y => Since.cell (by simp [go_sem]) (by first | (simp; done) | (simp; omega)) y
  have hb0_6 : ∀ y : Since (x.w.alloc (.cells #[.int .i64 r.id, .int .i64 r.rd, .int .i64 r.s0, .int .i64 r.s1, .int .i64 r.e0, .int .i64 r.e1, .bool r.op, .slice r.la r.legs.length r.lc, .slice r.pa r.pauses.length r.pc, .int .i64 r.fw, .int .i64 r.fp, .int .i64 r.wh, .int .i64 r.pl] 27)), y.w.cell? ⟨x.w.heap.size, 6, none⟩ = some (.bool r.op) := fun y => Since.cell (by simp [go_sem]) (by first | (simp; done) | (simp; omega)) y
  have hb0_7 : ∀ y : Since (x.w.alloc (.cells #[.int .i64 r.id, .int .i64 r.rd, .int .i64 r.s0, .int .i64 r.s1, .int .i64 r.e0, .int .i64 r.e1, .bool r.op, .slice r.la r.legs.length r.lc, .slice r.pa r.pauses.length r.pc, .int .i64 r.fw, .int .i64 r.fp, .int .i64 r.wh, .int .i64 r.pl] 27)), y.w.cell? ⟨x.w.heap.size, 7, none⟩ = some (.slice r.la r.legs.length r.lc) := fun y => Since.cell (by simp [go_sem]) (by first | (simp; done) | (simp; omega)) y
  have hb0_8 : ∀ y : Since (x.w.alloc (.cells #[.int .i64 r.id, .int .i64 r.rd, .int .i64 r.s0, .int .i64 r.s1, .int .i64 r.e0, .int .i64 r.e1, .bool r.op, .slice r.la r.legs.length r.lc, .slice r.pa r.pauses.length r.pc, .int .i64 r.fw, .int .i64 r.fp, .int .i64 r.wh, .int .i64 r.pl] 27)), y.w.cell? ⟨x.w.heap.size, 8, none⟩ = some (.slice r.pa r.pauses.length r.pc) := fun y => Since.cell (by simp [go_sem]) (by first | (simp; done) | (simp; omega)) y
  have hb0_9 : ∀ y : Since (x.w.alloc (.cells #[.int .i64 r.id, .int .i64 r.rd, .int .i64 r.s0, .int .i64 r.s1, .int .i64 r.e0, .int .i64 r.e1, .bool r.op, .slice r.la r.legs.length r.lc, .slice r.pa r.pauses.length r.pc, .int .i64 r.fw, .int .i64 r.fp, .int .i64 r.wh, .int .i64 r.pl] 27)), y.w.cell? ⟨x.w.heap.size, 9, none⟩ = some (.int .i64 r.fw) := fun y => Since.cell (by simp [go_sem]) (by first | (simp; done) | (simp; omega)) y
  have hb0_10 : ∀ y : Since (x.w.alloc (.cells #[.int .i64 r.id, .int .i64 r.rd, .int .i64 r.s0, .int .i64 r.s1, .int .i64 r.e0, .int .i64 r.e1, .bool r.op, .slice r.la r.legs.length r.lc, .slice r.pa r.pauses.length r.pc, .int .i64 r.fw, .int .i64 r.fp, .int .i64 r.wh, .int .i64 r.pl] 27)), y.w.cell? ⟨x.w.heap.size, 10, none⟩ = some (.int .i64 r.fp) := fun y => Since.cell (by simp [go_sem]) (by first | (simp; done) | (simp; omega)) y
  have hb0_11 : ∀ y : Since (x.w.alloc (.cells #[.int .i64 r.id, .int .i64 r.rd, .int .i64 r.s0, .int .i64 r.s1, .int .i64 r.e0, .int .i64 r.e1, .bool r.op, .slice r.la r.legs.length r.lc, .slice r.pa r.pauses.length r.pc, .int .i64 r.fw, .int .i64 r.fp, .int .i64 r.wh, .int .i64 r.pl] 27)), y.w.cell? ⟨x.w.heap.size, 11, none⟩ = some (.int .i64 r.wh) := fun y => Since.cell (by simp [go_sem]) (by first | (simp; done) | (simp; omega)) y
  have hb0_12 : ∀ y : Since (x.w.alloc (.cells #[.int .i64 r.id, .int .i64 r.rd, .int .i64 r.s0, .int .i64 r.s1, .int .i64 r.e0, .int .i64 r.e1, .bool r.op, .slice r.la r.legs.length r.lc, .slice r.pa r.pauses.length r.pc, .int .i64 r.fw, .int .i64 r.fp, .int .i64 r.wh, .int .i64 r.pl] 27)), y.w.cell? ⟨x.w.heap.size, 12, none⟩ = some (.int .i64 r.pl) := fun y => Since.cell (by simp [go_sem]) (by first | (simp; done) | (simp; omega)) y
  have hf0 : ∀ (y : Since (x.w.alloc (.cells #[.int .i64 r.id, .int .i64 r.rd, .int .i64 r.s0, .int .i64 r.s1, .int .i64 r.e0, .int .i64 r.e1, .bool r.op, .slice r.la r.legs.length r.lc, .slice r.pa r.pauses.length r.pc, .int .i64 r.fw, .int .i64 r.fp, .int .i64 r.wh, .int .i64 r.pl] 27))) (o : Nat), y.w.frozen? ⟨x.w.heap.size, o, none⟩ = false := fun y o => Since.free (by simp [go_sem]) (by first | (simp; done) | (simp; omega)) y
  have hWup : ∃ z : Since w, (x.w.alloc (.cells #[.int .i64 r.id, .int .i64 r.rd, .int .i64 r.s0, .int .i64 r.s1, .int .i64 r.e0, .int .i64 r.e1, .bool r.op, .slice r.la r.legs.length r.lc, .slice r.pa r.pauses.length r.pc, .int .i64 r.fw, .int .i64 r.fp, .int .i64 r.wh, .int .i64 r.pl] 27)) = z.w := x.alloc _
  obtain ⟨y0, hy0⟩ := Since.refl (x.w.alloc (.cells #[.int .i64 r.id, .int .i64 r.rd, .int .i64 r.s0, .int .i64 r.s1, .int .i64 r.e0, .int .i64 r.e1, .bool r.op, .slice r.la r.legs.length r.lc, .slice r.pa r.pauses.length r.pc, .int .i64 r.fw, .int .i64 r.fp, .int .i64 r.wh, .int .i64 r.pl] 27))
  have Hbx := Lib.hid (And.intro x.b.size (show x.w.heap.size + 1 = (x.w.alloc (.cells #[.int .i64 r.id, .int .i64 r.rd, .int .i64 r.s0, .int .i64 r.s1, .int .i64 r.e0, .int .i64 r.e1, .bool r.op, .slice r.la r.legs.length r.lc, .slice r.pa r.pauses.length r.pc, .int .i64 r.fw, .int .i64 r.fp, .int .i64 r.wh, .int .i64 r.pl] 27)).heap.size from by simp))
  generalize hW : (x.w.alloc (.cells #[.int .i64 r.id, .int .i64 r.rd, .int .i64 r.s0, .int .i64 r.s1, .int .i64 r.e0, .int .i64 r.e1, .bool r.op, .slice r.la r.legs.length r.lc, .slice r.pa r.pauses.length r.pc, .int .i64 r.fw, .int .i64 r.fp, .int .i64 r.wh, .int .i64 r.pl] 27)) = W at *
  clear hW
  generalize x.w.heap.size = bx at *
  have Hup := Lib.hid (Since.up hWup)
  rw [hy0]
  clear hy0
  clear hWup
  rcases (by omega : 100 < r.legs.length ∨ (r.legs.length ≤ 100 ∧ 100 < r.pauses.length) ∨ (r.legs.length ≤ 100 ∧ r.pauses.length ≤ 100)) with h | ⟨h, h'⟩ | ⟨h, h'⟩
  all_goals
    have Hr := Lib.hid (show few23 r = (decide (r.legs.length ≤ 100) && decide (r.pauses.length ≤ 100)) from rfl)
    first | rw [decide_eq_true h] at Hr | rw [decide_eq_false (show ¬ r.legs.length ≤ 100 by omega)] at Hr
    first | rw [decide_eq_true h'] at Hr | rw [decide_eq_false (show ¬ r.pauses.length ≤ 100 by omega)] at Hr | skip
    go_wp2_with fail
    go_ret
    exact ⟨ret_bool (by rw [Hr.out]; first | rfl | (simp; omega)), Hup.out _⟩
/-- the chapter's ride -/
def sampleR (a1 a2 : Option Addr) : Ride := ⟨1, 0, 1000, 1010, 1600, 1605, false, a1, [⟨0, 1000, 1010, 1600, 1605⟩], 1, a2, [⟨1200, 1203, 1300, 1306⟩], 1, 1, 0, 1, 0⟩
/-- what the chapter says of its ride -/
structure Smp (r : Ride) : Prop where
  e : ivE r = 0
  s : sureW r = ⟨1010, 1600⟩
  p : possW r = ⟨1000, 1605⟩
  d : doubtV r = 15
  pau : IsSet [⟨1203, 1300⟩] (pauS r)
  rid : IsSet [⟨1010, 1200⟩, ⟨1306, 1600⟩] (ridS r)
theorem smp_of (a1 a2 : Option Addr) : Smp (sampleR a1 a2) := by
  have e : ivE (sampleR a1 a2) = 0 := rfl
  have hs : sureW (sampleR a1 a2) = ⟨1010, 1600⟩ := rfl
  refine ⟨e, hs, rfl, rfl, ⟨⟨fun x hx => ?_, by simp⟩, fun t => ?_⟩, ⟨⟨fun x hx => ?_, by simp⟩, fun t => ?_⟩⟩
  · simp at hx; subst hx; decide
  · have h1 : pauS (sampleR a1 a2) t = (inW t ⟨1010, 1600⟩ && hasW [⟨1203, 1300⟩] t) := by
      unfold pauS; rw [hs]; rfl
    rw [h1, hasW_one, Bool.eq_iff_iff, Bool.and_eq_true, inW_iff, inW_iff]
    show 1203 ≤ t ∧ t < 1300 ↔ (1010 ≤ t ∧ t < 1600) ∧ (1203 ≤ t ∧ t < 1300)
    omega
  · simp at hx; rcases hx with rfl | rfl <;> decide
  · have h1 : ridS (sampleR a1 a2) t = (inW t ⟨1010, 1600⟩ && !hasW [⟨1200, 1306⟩] t) := by
      unfold ridS; rw [hs]; rfl
    rw [h1, hasW_one, hasW_cons, hasW_one, Bool.eq_iff_iff, Bool.or_eq_true, Bool.and_eq_true, Bool.not_eq_true', ← Bool.not_eq_true, inW_iff, inW_iff, inW_iff, inW_iff]
    show (1010 ≤ t ∧ t < 1200) ∨ (1306 ≤ t ∧ t < 1600) ↔ (1010 ≤ t ∧ t < 1600) ∧ ¬ (1200 ≤ t ∧ t < 1306)
    omega
theorem Smp.rs {r : Ride} (h : Smp r) : secR r = 484 := by unfold secR; rw [if_pos h.e, ← h.rid.lenS]; rfl
theorem Smp.ps {r : Ride} (h : Smp r) : secP r = 97 := by unfold secP; rw [if_pos h.e, ← h.pau.lenS]; rfl
def SampleRes (w : World) (o : Ending) (w' : World) : Prop := ∃ (r : Ride) (y : Since w), o = .returned (.agg #[.int .i64 r.id, .int .i64 r.rd, .int .i64 r.s0, .int .i64 r.s1, .int .i64 r.e0, .int .i64 r.e1, .bool r.op, .slice r.la r.legs.length r.lc, .slice r.pa r.pauses.length r.pc, .int .i64 r.fw, .int .i64 r.fp, .int .i64 r.wh, .int .i64 r.pl]) ∧ w' = y.w ∧ r.At y.w ∧ Smp r
set_option maxHeartbeats 4000000 in
theorem sample_calls (w : World) (x : Since w) : Calls Try.prog 36 #[] x.w (SampleRes w) := by
  go_enter Try.func36, Try.ntmps36
  go_wp2_with fail
  obtain ⟨y1, h1⟩ := Since.allocs x [.cells #[.int .i64 1, .int .i64 0, .int .i64 1000, .int .i64 1010, .int .i64 1600, .int .i64 1605, .bool false, .slice (some ⟨x.w.heap.size + 1 + 1 + 1, 0, none⟩) 1 1, .slice (some ⟨x.w.heap.size + 1 + 1 + 1 + 1, 0, none⟩) 1 1, .int .i64 1, .int .i64 0, .int .i64 1, .int .i64 0] 27, .cells #[.int .i64 1000, .int .i64 1010] 23, .cells #[.int .i64 1600, .int .i64 1605] 23]
  have hs1 : y1.w.heap.size = x.w.heap.size + 1 + 1 + 1 := by rw [← h1]; simp
  refine bodyPost_ret (v := .agg #[.int .i64 1, .int .i64 0, .int .i64 1000, .int .i64 1010, .int .i64 1600, .int .i64 1605, .bool false, .slice (some ⟨x.w.heap.size + 1 + 1 + 1, 0, none⟩) 1 1, .slice (some ⟨x.w.heap.size + 1 + 1 + 1 + 1, 0, none⟩) 1 1, .int .i64 1, .int .i64 0, .int .i64 1, .int .i64 0]) (by simp [results, Try.results36, go_sem]) rfl ?_
  simp only [List.foldl_cons, List.foldl_nil] at h1
  rw [h1]
  have hl := els_mk Leg.len y1.w [(⟨0, 1000, 1010, 1600, 1605⟩ : Leg)] 60
  obtain ⟨y2, h2⟩ := y1.alloc (.cells (flat Leg.cs [(⟨0, 1000, 1010, 1600, 1605⟩ : Leg)]).toArray 60)
  have hs2 : y2.w.heap.size = x.w.heap.size + 1 + 1 + 1 + 1 := by rw [← h2, ← hs1]; simp
  have hp := els_mk Pse.len y2.w [(⟨1200, 1203, 1300, 1306⟩ : Pse)] 52
  obtain ⟨y3, h3⟩ := y2.alloc (.cells (flat Pse.cs [(⟨1200, 1203, 1300, 1306⟩ : Pse)]).toArray 52)
  rw [hs1] at hl
  rw [hs2] at hp
  refine ⟨sampleR (some ⟨x.w.heap.size + 1 + 1 + 1, 0, none⟩) (some ⟨x.w.heap.size + 1 + 1 + 1 + 1, 0, none⟩), y3, rfl, ?_, ⟨?_, ?_, show 1 ≤ 9223372036854775807 by decide, show 1 ≤ 9223372036854775807 by decide⟩, smp_of _ _⟩
  · rw [← h3, ← h2]; rfl
  · show Els Leg.cs 5 y3.w _ [(⟨0, 1000, 1010, 1600, 1605⟩ : Leg)]
    rw [← h3]
    refine Els.to ?_ (IsSince.alloc (IsSince.self _) _)
    rw [← h2]
    exact hl
  · show Els Pse.cs 4 y3.w _ [(⟨1200, 1203, 1300, 1306⟩ : Pse)]
    rw [← h3]
    exact hp
end Go.Proofs.Ytefodfpnedcodaa
/- The laws of the certain and the possible time, second part: the contracts at later worlds; awake. -/
namespace Go.Proofs.Ytefodfpnedcodaa
open Go.RowKit

theorem sure_s {W : World} (w' : World) (hw : IsSince W w') (r : Ride) (h : r.At W) : Calls Try.prog 12 #[.agg #[.int .i64 r.id, .int .i64 r.rd, .int .i64 r.s0, .int .i64 r.s1, .int .i64 r.e0, .int .i64 r.e1, .bool r.op, .slice r.la r.legs.length r.lc, .slice r.pa r.pauses.length r.pc, .int .i64 r.fw, .int .i64 r.fp, .int .i64 r.wh, .int .i64 r.pl]] w' (Ends W w' (fun o => o = .returned (.tuple #[.agg #[.int .i64 (sureW r).f, .int .i64 (sureW r).t], .int .i64 (ivE r)]))) :=
  later hw fun x => sure_calls w' x r (h.to hw)
theorem possible_s {W : World} (w' : World) (hw : IsSince W w') (r : Ride) (h : r.At W) : Calls Try.prog 14 #[.agg #[.int .i64 r.id, .int .i64 r.rd, .int .i64 r.s0, .int .i64 r.s1, .int .i64 r.e0, .int .i64 r.e1, .bool r.op, .slice r.la r.legs.length r.lc, .slice r.pa r.pauses.length r.pc, .int .i64 r.fw, .int .i64 r.fp, .int .i64 r.wh, .int .i64 r.pl]] w' (Ends W w' (fun o => o = .returned (.tuple #[.agg #[.int .i64 (possW r).f, .int .i64 (possW r).t], .int .i64 (ivE r)]))) :=
  later hw fun x => possible_calls w' x r (h.to hw)
theorem doubt_s {W : World} (w' : World) (hw : IsSince W w') (r : Ride) (h : r.At W) : Calls Try.prog 23 #[.agg #[.int .i64 r.id, .int .i64 r.rd, .int .i64 r.s0, .int .i64 r.s1, .int .i64 r.e0, .int .i64 r.e1, .bool r.op, .slice r.la r.legs.length r.lc, .slice r.pa r.pauses.length r.pc, .int .i64 r.fw, .int .i64 r.fp, .int .i64 r.wh, .int .i64 r.pl]] w' (Ends W w' (fun o => o = .returned (.tuple #[.int .i64 (doubtV r), .int .i64 (ivE r)]))) :=
  later hw fun x => doubt_calls w' x r (h.to hw)
theorem seconds_s {W : World} (w' : World) (hw : IsSince W w') (r : Ride) (h : r.At W) : Calls Try.prog 21 #[.agg #[.int .i64 r.id, .int .i64 r.rd, .int .i64 r.s0, .int .i64 r.s1, .int .i64 r.e0, .int .i64 r.e1, .bool r.op, .slice r.la r.legs.length r.lc, .slice r.pa r.pauses.length r.pc, .int .i64 r.fw, .int .i64 r.fp, .int .i64 r.wh, .int .i64 r.pl]] w' (Ends W w' (fun o => o = .returned (.tuple #[.int .i64 (secR r), .int .i64 (secP r), .int .i64 (ivE r)]))) :=
  later hw fun x => seconds_calls w' x r (h.to hw)
theorem same_s {W : World} (w' : World) (hw : IsSince W w') (a : Option Addr) (us : List Win) (n c : Nat) (a2 : Option Addr) (vs : List Win) (m c2 : Nat) (v : Bool) (h : WinRow w' a us) (hv : WinRow w' a2 vs) (hn : us.length = n) (hm : vs.length = m) (hl : n ≤ 9223372036854775807) (hl2 : m ≤ 9223372036854775807) (he : decide (us = vs) = v) :
    Calls Try.prog 20 #[.slice a n c, .slice a2 m c2] w' (Ends W w' (fun o => o = .returned (.bool v))) := by
  subst hn; subst hm; subst he
  exact later hw fun x => sameW_calls w' x a us c a2 vs c2 h hv hl hl2
/-- a list of windows of the call's own and an error, known -/
def GotW (W w : World) (l : List Win) (n : Nat) (e : Int) (o : Ending) (w' : World) : Prop :=
  ∃ (a : Option Addr) (cap : Nat) (z : Since W), o = .returned (.tuple #[.slice a n cap, .int .i64 e]) ∧ w' = z.w ∧ (∃ v : Since w, z.w = v.w) ∧ WinRow z.w a l ∧ n ≤ cap
theorem gotW {W w : World} {Q : List Win → Prop} {l : List Win} {n : Nat} {e : Int} (hl : ∀ u, Q u → u = l) (hn : l.length = n) {o : Ending} {w' : World} (k : SetResS W w Q e o w') : GotW W w l n e o w' := by
  obtain ⟨a, cap, u, z, h1, h2, h3, h4, h5, h6⟩ := k
  obtain rfl := hl u h6
  subst hn
  exact ⟨a, cap, z, h1, h2, h3, h4, h5⟩
theorem Smp.pausing {r : Ride} (hS : Smp r) {W : World} (w' : World) (hw : IsSince W w') (h : r.At W) : Calls Try.prog 16 #[.agg #[.int .i64 r.id, .int .i64 r.rd, .int .i64 r.s0, .int .i64 r.s1, .int .i64 r.e0, .int .i64 r.e1, .bool r.op, .slice r.la r.legs.length r.lc, .slice r.pa r.pauses.length r.pc, .int .i64 r.fw, .int .i64 r.fp, .int .i64 r.wh, .int .i64 r.pl]] w' (GotW W w' [⟨1203, 1300⟩] 1 0) := by
  refine (pausing_s w' hw r h).mono fun o w'' k => ?_
  have := gotW (fun u (hu : SetOk (ivE r) (pauS r) _ u) => (hu.ok hS.e).unique hS.pau) rfl k
  rwa [hS.e] at this
theorem Smp.riding {r : Ride} (hS : Smp r) {W : World} (w' : World) (hw : IsSince W w') (h : r.At W) : Calls Try.prog 18 #[.agg #[.int .i64 r.id, .int .i64 r.rd, .int .i64 r.s0, .int .i64 r.s1, .int .i64 r.e0, .int .i64 r.e1, .bool r.op, .slice r.la r.legs.length r.lc, .slice r.pa r.pauses.length r.pc, .int .i64 r.fw, .int .i64 r.fp, .int .i64 r.wh, .int .i64 r.pl]] w' (GotW W w' [⟨1010, 1200⟩, ⟨1306, 1600⟩] 2 0) := by
  refine (riding_s w' hw r h).mono fun o w'' k => ?_
  have := gotW (fun u (hu : SetOk (ivE r) (ridS r) _ u) => (hu.ok hS.e).unique hS.rid) rfl k
  rwa [hS.e] at this
theorem Smp.sure {r : Ride} (hS : Smp r) {W : World} (w' : World) (hw : IsSince W w') (h : r.At W) : Calls Try.prog 12 #[.agg #[.int .i64 r.id, .int .i64 r.rd, .int .i64 r.s0, .int .i64 r.s1, .int .i64 r.e0, .int .i64 r.e1, .bool r.op, .slice r.la r.legs.length r.lc, .slice r.pa r.pauses.length r.pc, .int .i64 r.fw, .int .i64 r.fp, .int .i64 r.wh, .int .i64 r.pl]] w' (Ends W w' (fun o => o = .returned (.tuple #[.agg #[.int .i64 1010, .int .i64 1600], .int .i64 0]))) := by
  have := sure_s w' hw r h
  rwa [hS.s, hS.e] at this
theorem Smp.possible {r : Ride} (hS : Smp r) {W : World} (w' : World) (hw : IsSince W w') (h : r.At W) : Calls Try.prog 14 #[.agg #[.int .i64 r.id, .int .i64 r.rd, .int .i64 r.s0, .int .i64 r.s1, .int .i64 r.e0, .int .i64 r.e1, .bool r.op, .slice r.la r.legs.length r.lc, .slice r.pa r.pauses.length r.pc, .int .i64 r.fw, .int .i64 r.fp, .int .i64 r.wh, .int .i64 r.pl]] w' (Ends W w' (fun o => o = .returned (.tuple #[.agg #[.int .i64 1000, .int .i64 1605], .int .i64 0]))) := by
  have := possible_s w' hw r h
  rwa [hS.p, hS.e] at this
theorem Smp.doubt {r : Ride} (hS : Smp r) {W : World} (w' : World) (hw : IsSince W w') (h : r.At W) : Calls Try.prog 23 #[.agg #[.int .i64 r.id, .int .i64 r.rd, .int .i64 r.s0, .int .i64 r.s1, .int .i64 r.e0, .int .i64 r.e1, .bool r.op, .slice r.la r.legs.length r.lc, .slice r.pa r.pauses.length r.pc, .int .i64 r.fw, .int .i64 r.fp, .int .i64 r.wh, .int .i64 r.pl]] w' (Ends W w' (fun o => o = .returned (.tuple #[.int .i64 15, .int .i64 0]))) := by
  have := doubt_s w' hw r h
  rwa [hS.d, hS.e] at this
theorem Smp.seconds {r : Ride} (hS : Smp r) {W : World} (w' : World) (hw : IsSince W w') (h : r.At W) : Calls Try.prog 21 #[.agg #[.int .i64 r.id, .int .i64 r.rd, .int .i64 r.s0, .int .i64 r.s1, .int .i64 r.e0, .int .i64 r.e1, .bool r.op, .slice r.la r.legs.length r.lc, .slice r.pa r.pauses.length r.pc, .int .i64 r.fw, .int .i64 r.fp, .int .i64 r.wh, .int .i64 r.pl]] w' (Ends W w' (fun o => o = .returned (.tuple #[.int .i64 484, .int .i64 97, .int .i64 0]))) := by
  have := seconds_s w' hw r h
  rwa [hS.rs, hS.ps, hS.e] at this
set_option maxRecDepth 100000 in
set_option maxHeartbeats 8000000 in
theorem awake_calls (w : World) (x : Since w) : Calls Try.prog 11 #[] x.w fun o w' => o = .returned (.bool true) ∧ ∃ y : Since w, w' = y.w := by
  have hq1 : ∀ w, (Op.equalIn 10000 31 (.agg #[.int .i64 1010, .int .i64 1600]) (.agg #[.int .i64 1010, .int .i64 1600])).run Try.prog w = .ok true w := fun w => by rw [win_equal]; rfl
  have hq2 : ∀ w, (Op.equalIn 10000 31 (.agg #[.int .i64 1000, .int .i64 1605]) (.agg #[.int .i64 1000, .int .i64 1605])).run Try.prog w = .ok true w := fun w => by rw [win_equal]; rfl
  have hgd := win_guard
  go_enter Try.func11, Try.ntmps11
  go_upto_region 2 with (go_at_call 36; ((with_reducible refine (sample_calls w x).mono ?_); rintro _ _ ⟨r, y1, rfl, rfl, hat, hS⟩; have Hat := Lib.hid hat; have HS := Lib.hid hS; clear hat hS))
  have hr0 : (y1.w.alloc (.cells #[.int .i64 r.id, .int .i64 r.rd, .int .i64 r.s0, .int .i64 r.s1, .int .i64 r.e0, .int .i64 r.e1, .bool r.op, .slice r.la r.legs.length r.lc, .slice r.pa r.pauses.length r.pc, .int .i64 r.fw, .int .i64 r.fp, .int .i64 r.wh, .int .i64 r.pl] 27)).cell? ⟨y1.w.heap.size, 0, none⟩ = some (.int .i64 r.id) := by simp [go_sem]
  have hr1 : (y1.w.alloc (.cells #[.int .i64 r.id, .int .i64 r.rd, .int .i64 r.s0, .int .i64 r.s1, .int .i64 r.e0, .int .i64 r.e1, .bool r.op, .slice r.la r.legs.length r.lc, .slice r.pa r.pauses.length r.pc, .int .i64 r.fw, .int .i64 r.fp, .int .i64 r.wh, .int .i64 r.pl] 27)).cell? ⟨y1.w.heap.size, 1, none⟩ = some (.int .i64 r.rd) := by simp [go_sem]
  have hr2 : (y1.w.alloc (.cells #[.int .i64 r.id, .int .i64 r.rd, .int .i64 r.s0, .int .i64 r.s1, .int .i64 r.e0, .int .i64 r.e1, .bool r.op, .slice r.la r.legs.length r.lc, .slice r.pa r.pauses.length r.pc, .int .i64 r.fw, .int .i64 r.fp, .int .i64 r.wh, .int .i64 r.pl] 27)).cell? ⟨y1.w.heap.size, 2, none⟩ = some (.int .i64 r.s0) := by simp [go_sem]
  have hr3 : (y1.w.alloc (.cells #[.int .i64 r.id, .int .i64 r.rd, .int .i64 r.s0, .int .i64 r.s1, .int .i64 r.e0, .int .i64 r.e1, .bool r.op, .slice r.la r.legs.length r.lc, .slice r.pa r.pauses.length r.pc, .int .i64 r.fw, .int .i64 r.fp, .int .i64 r.wh, .int .i64 r.pl] 27)).cell? ⟨y1.w.heap.size, 3, none⟩ = some (.int .i64 r.s1) := by simp [go_sem]
  have hr4 : (y1.w.alloc (.cells #[.int .i64 r.id, .int .i64 r.rd, .int .i64 r.s0, .int .i64 r.s1, .int .i64 r.e0, .int .i64 r.e1, .bool r.op, .slice r.la r.legs.length r.lc, .slice r.pa r.pauses.length r.pc, .int .i64 r.fw, .int .i64 r.fp, .int .i64 r.wh, .int .i64 r.pl] 27)).cell? ⟨y1.w.heap.size, 4, none⟩ = some (.int .i64 r.e0) := by simp [go_sem]
  have hr5 : (y1.w.alloc (.cells #[.int .i64 r.id, .int .i64 r.rd, .int .i64 r.s0, .int .i64 r.s1, .int .i64 r.e0, .int .i64 r.e1, .bool r.op, .slice r.la r.legs.length r.lc, .slice r.pa r.pauses.length r.pc, .int .i64 r.fw, .int .i64 r.fp, .int .i64 r.wh, .int .i64 r.pl] 27)).cell? ⟨y1.w.heap.size, 5, none⟩ = some (.int .i64 r.e1) := by simp [go_sem]
  have hr6 : (y1.w.alloc (.cells #[.int .i64 r.id, .int .i64 r.rd, .int .i64 r.s0, .int .i64 r.s1, .int .i64 r.e0, .int .i64 r.e1, .bool r.op, .slice r.la r.legs.length r.lc, .slice r.pa r.pauses.length r.pc, .int .i64 r.fw, .int .i64 r.fp, .int .i64 r.wh, .int .i64 r.pl] 27)).cell? ⟨y1.w.heap.size, 6, none⟩ = some (.bool r.op) := by simp [go_sem]
  have hr7 : (y1.w.alloc (.cells #[.int .i64 r.id, .int .i64 r.rd, .int .i64 r.s0, .int .i64 r.s1, .int .i64 r.e0, .int .i64 r.e1, .bool r.op, .slice r.la r.legs.length r.lc, .slice r.pa r.pauses.length r.pc, .int .i64 r.fw, .int .i64 r.fp, .int .i64 r.wh, .int .i64 r.pl] 27)).cell? ⟨y1.w.heap.size, 7, none⟩ = some (.slice r.la r.legs.length r.lc) := by simp [go_sem]
  have hr8 : (y1.w.alloc (.cells #[.int .i64 r.id, .int .i64 r.rd, .int .i64 r.s0, .int .i64 r.s1, .int .i64 r.e0, .int .i64 r.e1, .bool r.op, .slice r.la r.legs.length r.lc, .slice r.pa r.pauses.length r.pc, .int .i64 r.fw, .int .i64 r.fp, .int .i64 r.wh, .int .i64 r.pl] 27)).cell? ⟨y1.w.heap.size, 8, none⟩ = some (.slice r.pa r.pauses.length r.pc) := by simp [go_sem]
  have hr9 : (y1.w.alloc (.cells #[.int .i64 r.id, .int .i64 r.rd, .int .i64 r.s0, .int .i64 r.s1, .int .i64 r.e0, .int .i64 r.e1, .bool r.op, .slice r.la r.legs.length r.lc, .slice r.pa r.pauses.length r.pc, .int .i64 r.fw, .int .i64 r.fp, .int .i64 r.wh, .int .i64 r.pl] 27)).cell? ⟨y1.w.heap.size, 9, none⟩ = some (.int .i64 r.fw) := by simp [go_sem]
  have hr10 : (y1.w.alloc (.cells #[.int .i64 r.id, .int .i64 r.rd, .int .i64 r.s0, .int .i64 r.s1, .int .i64 r.e0, .int .i64 r.e1, .bool r.op, .slice r.la r.legs.length r.lc, .slice r.pa r.pauses.length r.pc, .int .i64 r.fw, .int .i64 r.fp, .int .i64 r.wh, .int .i64 r.pl] 27)).cell? ⟨y1.w.heap.size, 10, none⟩ = some (.int .i64 r.fp) := by simp [go_sem]
  have hr11 : (y1.w.alloc (.cells #[.int .i64 r.id, .int .i64 r.rd, .int .i64 r.s0, .int .i64 r.s1, .int .i64 r.e0, .int .i64 r.e1, .bool r.op, .slice r.la r.legs.length r.lc, .slice r.pa r.pauses.length r.pc, .int .i64 r.fw, .int .i64 r.fp, .int .i64 r.wh, .int .i64 r.pl] 27)).cell? ⟨y1.w.heap.size, 11, none⟩ = some (.int .i64 r.wh) := by simp [go_sem]
  have hr12 : (y1.w.alloc (.cells #[.int .i64 r.id, .int .i64 r.rd, .int .i64 r.s0, .int .i64 r.s1, .int .i64 r.e0, .int .i64 r.e1, .bool r.op, .slice r.la r.legs.length r.lc, .slice r.pa r.pauses.length r.pc, .int .i64 r.fw, .int .i64 r.fp, .int .i64 r.wh, .int .i64 r.pl] 27)).cell? ⟨y1.w.heap.size, 12, none⟩ = some (.int .i64 r.pl) := by simp [go_sem]
  have hrf : ∀ o, (y1.w.alloc (.cells #[.int .i64 r.id, .int .i64 r.rd, .int .i64 r.s0, .int .i64 r.s1, .int .i64 r.e0, .int .i64 r.e1, .bool r.op, .slice r.la r.legs.length r.lc, .slice r.pa r.pauses.length r.pc, .int .i64 r.fw, .int .i64 r.fp, .int .i64 r.wh, .int .i64 r.pl] 27)).frozen? ⟨y1.w.heap.size, o, none⟩ = false := fun o => by simp [go_sem]
  have hlt0 : y1.w.heap.size < (y1.w.alloc (.cells #[.int .i64 r.id, .int .i64 r.rd, .int .i64 r.s0, .int .i64 r.s1, .int .i64 r.e0, .int .i64 r.e1, .bool r.op, .slice r.la r.legs.length r.lc, .slice r.pa r.pauses.length r.pc, .int .i64 r.fw, .int .i64 r.fp, .int .i64 r.wh, .int .i64 r.pl] 27)).heap.size := by simp
  have hst0 : ∃ zz : Since y1.w, (y1.w.alloc (.cells #[.int .i64 r.id, .int .i64 r.rd, .int .i64 r.s0, .int .i64 r.s1, .int .i64 r.e0, .int .i64 r.e1, .bool r.op, .slice r.la r.legs.length r.lc, .slice r.pa r.pauses.length r.pc, .int .i64 r.fw, .int .i64 r.fp, .int .i64 r.wh, .int .i64 r.pl] 27)) = zz.w := IsSince.alloc (IsSince.self _) _
  have hsz0 := y1.b.size
  obtain ⟨y2, e2⟩ := IsSince.alloc (IsSince.of y1) (.cells #[.int .i64 r.id, .int .i64 r.rd, .int .i64 r.s0, .int .i64 r.s1, .int .i64 r.e0, .int .i64 r.e1, .bool r.op, .slice r.la r.legs.length r.lc, .slice r.pa r.pauses.length r.pc, .int .i64 r.fw, .int .i64 r.fp, .int .i64 r.wh, .int .i64 r.pl] 27)
  rw [e2] at hr0 hr1 hr2 hr3 hr4 hr5 hr6 hr7 hr8 hr9 hr10 hr11 hr12 hrf hlt0 hst0 ⊢
  (replace Hat := Lib.hid (Hat.out.to hst0))
  clear e2 hst0
  generalize y1.w.heap.size = gr at *
  have Hhr0 : ∀ q : Since y2.w, q.w.cell? ⟨gr, 0, none⟩ = some (.int .i64 r.id) := fun q => Since.cell hr0 (by omega) q
  have Hhr1 : ∀ q : Since y2.w, q.w.cell? ⟨gr, 1, none⟩ = some (.int .i64 r.rd) := fun q => Since.cell hr1 (by omega) q
  have Hhr2 : ∀ q : Since y2.w, q.w.cell? ⟨gr, 2, none⟩ = some (.int .i64 r.s0) := fun q => Since.cell hr2 (by omega) q
  have Hhr3 : ∀ q : Since y2.w, q.w.cell? ⟨gr, 3, none⟩ = some (.int .i64 r.s1) := fun q => Since.cell hr3 (by omega) q
  have Hhr4 : ∀ q : Since y2.w, q.w.cell? ⟨gr, 4, none⟩ = some (.int .i64 r.e0) := fun q => Since.cell hr4 (by omega) q
  have Hhr5 : ∀ q : Since y2.w, q.w.cell? ⟨gr, 5, none⟩ = some (.int .i64 r.e1) := fun q => Since.cell hr5 (by omega) q
  have Hhr6 : ∀ q : Since y2.w, q.w.cell? ⟨gr, 6, none⟩ = some (.bool r.op) := fun q => Since.cell hr6 (by omega) q
  have Hhr7 : ∀ q : Since y2.w, q.w.cell? ⟨gr, 7, none⟩ = some (.slice r.la r.legs.length r.lc) := fun q => Since.cell hr7 (by omega) q
  have Hhr8 : ∀ q : Since y2.w, q.w.cell? ⟨gr, 8, none⟩ = some (.slice r.pa r.pauses.length r.pc) := fun q => Since.cell hr8 (by omega) q
  have Hhr9 : ∀ q : Since y2.w, q.w.cell? ⟨gr, 9, none⟩ = some (.int .i64 r.fw) := fun q => Since.cell hr9 (by omega) q
  have Hhr10 : ∀ q : Since y2.w, q.w.cell? ⟨gr, 10, none⟩ = some (.int .i64 r.fp) := fun q => Since.cell hr10 (by omega) q
  have Hhr11 : ∀ q : Since y2.w, q.w.cell? ⟨gr, 11, none⟩ = some (.int .i64 r.wh) := fun q => Since.cell hr11 (by omega) q
  have Hhr12 : ∀ q : Since y2.w, q.w.cell? ⟨gr, 12, none⟩ = some (.int .i64 r.pl) := fun q => Since.cell hr12 (by omega) q
  have Hhrf : ∀ (q : Since y2.w) (o : Nat), q.w.frozen? ⟨gr, o, none⟩ = false := fun q o => Since.free (hrf o) (by omega) q
  have Hhrg := Lib.hid (And.intro hsz0 hlt0)
  clear hlt0 hsz0
  clear hr0 hr1 hr2 hr3 hr4 hr5 hr6 hr7 hr8 hr9 hr10 hr11 hr12 hrf
  have HU := Lib.hid (IsSince.of y2)
  obtain ⟨q2, hq0⟩ := Since.refl y2.w
  rw [hq0]
  clear hq0
  go_upto_region 3 with (go_at_call 12; ((with_reducible refine (HS.out.sure (W := y2.w) _ (IsSince.of q2) Hat.out).mono ?_); rintro _ _ ⟨rfl, y3, rfl, _⟩))
  have hs0 : (y3.w.alloc (.cells #[.int .i64 1010, .int .i64 1600] 31)).cell? ⟨y3.w.heap.size, 0, none⟩ = some (.int .i64 1010) := by simp [go_sem]
  have hs1 : (y3.w.alloc (.cells #[.int .i64 1010, .int .i64 1600] 31)).cell? ⟨y3.w.heap.size, 1, none⟩ = some (.int .i64 1600) := by simp [go_sem]
  have hsf : ∀ o, (y3.w.alloc (.cells #[.int .i64 1010, .int .i64 1600] 31)).frozen? ⟨y3.w.heap.size, o, none⟩ = false := fun o => by simp [go_sem]
  have hlt0 : y3.w.heap.size < (y3.w.alloc (.cells #[.int .i64 1010, .int .i64 1600] 31)).heap.size := by simp
  have hst0 : ∃ zz : Since y3.w, (y3.w.alloc (.cells #[.int .i64 1010, .int .i64 1600] 31)) = zz.w := IsSince.alloc (IsSince.self _) _
  have hsz0 := y3.b.size
  obtain ⟨y4, e2⟩ := IsSince.alloc (IsSince.of y3) (.cells #[.int .i64 1010, .int .i64 1600] 31)
  rw [e2] at hs0 hs1 hsf hlt0 hst0 ⊢
  skip
  clear e2 hst0
  generalize y3.w.heap.size = gs at *
  have Hhs0 : ∀ q : Since y4.w, q.w.cell? ⟨gs, 0, none⟩ = some (.int .i64 1010) := fun q => Since.cell hs0 (by omega) q
  have Hhs1 : ∀ q : Since y4.w, q.w.cell? ⟨gs, 1, none⟩ = some (.int .i64 1600) := fun q => Since.cell hs1 (by omega) q
  have Hhsf : ∀ (q : Since y4.w) (o : Nat), q.w.frozen? ⟨gs, o, none⟩ = false := fun q o => Since.free (hsf o) (by omega) q
  have Hhsg := Lib.hid (And.intro hsz0 hlt0)
  clear hlt0 hsz0
  replace Hat := Lib.hid (Hat.out.to ⟨y4, rfl⟩)
  replace HU := Lib.hid (HU.out.trans (IsSince.of y4))
  replace Hhr0 := Since.cellTo ⟨y4, rfl⟩ Hhr0
  replace Hhr1 := Since.cellTo ⟨y4, rfl⟩ Hhr1
  replace Hhr2 := Since.cellTo ⟨y4, rfl⟩ Hhr2
  replace Hhr3 := Since.cellTo ⟨y4, rfl⟩ Hhr3
  replace Hhr4 := Since.cellTo ⟨y4, rfl⟩ Hhr4
  replace Hhr5 := Since.cellTo ⟨y4, rfl⟩ Hhr5
  replace Hhr6 := Since.cellTo ⟨y4, rfl⟩ Hhr6
  replace Hhr7 := Since.cellTo ⟨y4, rfl⟩ Hhr7
  replace Hhr8 := Since.cellTo ⟨y4, rfl⟩ Hhr8
  replace Hhr9 := Since.cellTo ⟨y4, rfl⟩ Hhr9
  replace Hhr10 := Since.cellTo ⟨y4, rfl⟩ Hhr10
  replace Hhr11 := Since.cellTo ⟨y4, rfl⟩ Hhr11
  replace Hhr12 := Since.cellTo ⟨y4, rfl⟩ Hhr12
  clear hs0 hs1 hsf
  obtain ⟨q4, hq0⟩ := Since.refl y4.w
  rw [hq0]
  clear hq0
  go_upto_region 4 with (go_at_call 14; ((with_reducible refine (HS.out.possible (W := y4.w) _ (IsSince.of q4) Hat.out).mono ?_); rintro _ _ ⟨rfl, y5, rfl, _⟩))
  have hp0 : (y5.w.alloc (.cells #[.int .i64 1000, .int .i64 1605] 31)).cell? ⟨y5.w.heap.size, 0, none⟩ = some (.int .i64 1000) := by simp [go_sem]
  have hp1 : (y5.w.alloc (.cells #[.int .i64 1000, .int .i64 1605] 31)).cell? ⟨y5.w.heap.size, 1, none⟩ = some (.int .i64 1605) := by simp [go_sem]
  have hpf : ∀ o, (y5.w.alloc (.cells #[.int .i64 1000, .int .i64 1605] 31)).frozen? ⟨y5.w.heap.size, o, none⟩ = false := fun o => by simp [go_sem]
  have hlt0 : y5.w.heap.size < (y5.w.alloc (.cells #[.int .i64 1000, .int .i64 1605] 31)).heap.size := by simp
  have hst0 : ∃ zz : Since y5.w, (y5.w.alloc (.cells #[.int .i64 1000, .int .i64 1605] 31)) = zz.w := IsSince.alloc (IsSince.self _) _
  have hsz0 := y5.b.size
  obtain ⟨y6, e2⟩ := IsSince.alloc (IsSince.of y5) (.cells #[.int .i64 1000, .int .i64 1605] 31)
  rw [e2] at hp0 hp1 hpf hlt0 hst0 ⊢
  skip
  clear e2 hst0
  generalize y5.w.heap.size = gp at *
  have Hhp0 : ∀ q : Since y6.w, q.w.cell? ⟨gp, 0, none⟩ = some (.int .i64 1000) := fun q => Since.cell hp0 (by omega) q
  have Hhp1 : ∀ q : Since y6.w, q.w.cell? ⟨gp, 1, none⟩ = some (.int .i64 1605) := fun q => Since.cell hp1 (by omega) q
  have Hhpf : ∀ (q : Since y6.w) (o : Nat), q.w.frozen? ⟨gp, o, none⟩ = false := fun q o => Since.free (hpf o) (by omega) q
  have Hhpg := Lib.hid (And.intro hsz0 hlt0)
  clear hlt0 hsz0
  replace Hat := Lib.hid (Hat.out.to ⟨y6, rfl⟩)
  replace HU := Lib.hid (HU.out.trans (IsSince.of y6))
  replace Hhr0 := Since.cellTo ⟨y6, rfl⟩ Hhr0
  replace Hhr1 := Since.cellTo ⟨y6, rfl⟩ Hhr1
  replace Hhr2 := Since.cellTo ⟨y6, rfl⟩ Hhr2
  replace Hhr3 := Since.cellTo ⟨y6, rfl⟩ Hhr3
  replace Hhr4 := Since.cellTo ⟨y6, rfl⟩ Hhr4
  replace Hhr5 := Since.cellTo ⟨y6, rfl⟩ Hhr5
  replace Hhr6 := Since.cellTo ⟨y6, rfl⟩ Hhr6
  replace Hhr7 := Since.cellTo ⟨y6, rfl⟩ Hhr7
  replace Hhr8 := Since.cellTo ⟨y6, rfl⟩ Hhr8
  replace Hhr9 := Since.cellTo ⟨y6, rfl⟩ Hhr9
  replace Hhr10 := Since.cellTo ⟨y6, rfl⟩ Hhr10
  replace Hhr11 := Since.cellTo ⟨y6, rfl⟩ Hhr11
  replace Hhr12 := Since.cellTo ⟨y6, rfl⟩ Hhr12
  replace Hhs0 := Since.cellTo ⟨y6, rfl⟩ Hhs0
  replace Hhs1 := Since.cellTo ⟨y6, rfl⟩ Hhs1
  clear hp0 hp1 hpf Hhrf Hhsf Hhpf
  obtain ⟨q6, hq0⟩ := Since.refl y6.w
  rw [hq0]
  clear hq0
  go_upto_region 5 with (go_at_call 16; ((with_reducible refine (HS.out.pausing (W := y6.w) _ (IsSince.of q6) Hat.out).mono ?_); rintro _ _ ⟨ap, cp, y7, rfl, rfl, _, hc, _⟩; have HC := Lib.hid hc; clear hc))
  go_upto_region 6 with (go_at_call 18; ((with_reducible refine (HS.out.riding (W := y6.w) _ (IsSince.of y7) Hat.out).mono ?_); rintro _ _ ⟨ar, cr, y8, rfl, rfl, hz, hd, _⟩; have HD := Lib.hid hd; replace HC := Lib.hid (HC.out.to hz); clear hd hz))
  go_upto_region 7 with (go_at_call 21; ((with_reducible refine (HS.out.seconds (W := y6.w) _ (IsSince.of y8) Hat.out).mono ?_); rintro _ _ ⟨rfl, y9, rfl, hz⟩; replace HC := Lib.hid (HC.out.to hz); replace HD := Lib.hid (HD.out.to hz); clear hz))
  go_upto_region 8 with (go_at_call 23; ((with_reducible refine (HS.out.doubt (W := y6.w) _ (IsSince.of y9) Hat.out).mono ?_); rintro _ _ ⟨rfl, y10, rfl, hz⟩; replace HC := Lib.hid (HC.out.to hz); replace HD := Lib.hid (HD.out.to hz); clear hz))
  go_wp2_with fail
  refine (same_s (W := y6.w) _ (IsSince.alloc (IsSince.of y10) _) ap [⟨1203, 1300⟩] 1 cp (some ⟨y10.w.heap.size, 0, none⟩) [⟨1203, 1300⟩] 1 1 true (HC.out.to (IsSince.alloc (IsSince.self _) _)) (els_mk Win.len y10.w [⟨1203, 1300⟩] 31) rfl rfl (by decide) (by decide) (by decide)).mono ?_
  rintro _ _ ⟨rfl, y11, rfl, hz⟩
  replace HD := Lib.hid ((HD.out.to (IsSince.alloc (IsSince.self _) _)).to hz)
  clear hz
  go_wp2_with fail
  refine (same_s (W := y6.w) _ (IsSince.alloc (IsSince.of y11) _) ar [⟨1010, 1200⟩, ⟨1306, 1600⟩] 2 cr (some ⟨y11.w.heap.size, 0, none⟩) [⟨1010, 1200⟩, ⟨1306, 1600⟩] 2 2 true (HD.out.to (IsSince.alloc (IsSince.self _) _)) (els_mk Win.len y11.w [⟨1010, 1200⟩, ⟨1306, 1600⟩] 31) rfl rfl (by decide) (by decide) (by decide)).mono ?_
  rintro _ _ ⟨rfl, y12, rfl, _⟩
  go_wp2_with fail
  go_ret
  exact ⟨rfl, HU.out.trans (IsSince.of y12)⟩
end Go.Proofs.Ytefodfpnedcodaa
/- The laws IntervalWindows and IntervalSeconds, walked. -/
namespace Go.Proofs.Ytefodfpnedcodaa
open Go.RowKit

theorem rsure_s {W : World} (w' : World) (hw : IsSince W w') (r : Ride) (h : r.At W) : Calls Try.prog 13 #[.agg #[.int .i64 r.id, .int .i64 r.rd, .int .i64 r.s0, .int .i64 r.s1, .int .i64 r.e0, .int .i64 r.e1, .bool r.op, .slice r.la r.legs.length r.lc, .slice r.pa r.pauses.length r.pc, .int .i64 r.fw, .int .i64 r.fp, .int .i64 r.wh, .int .i64 r.pl]] w' (Ends W w' (fun o => o = .returned (.tuple #[.agg #[.int .i64 (sureW r).f, .int .i64 (sureW r).t], .int .i64 (ivE r)]))) :=
  later hw fun x => rsure_calls w' x r (h.to hw)
theorem rpossible_s {W : World} (w' : World) (hw : IsSince W w') (r : Ride) (h : r.At W) : Calls Try.prog 15 #[.agg #[.int .i64 r.id, .int .i64 r.rd, .int .i64 r.s0, .int .i64 r.s1, .int .i64 r.e0, .int .i64 r.e1, .bool r.op, .slice r.la r.legs.length r.lc, .slice r.pa r.pauses.length r.pc, .int .i64 r.fw, .int .i64 r.fp, .int .i64 r.wh, .int .i64 r.pl]] w' (Ends W w' (fun o => o = .returned (.tuple #[.agg #[.int .i64 (possW r).f, .int .i64 (possW r).t], .int .i64 (ivE r)]))) :=
  later hw fun x => rpossible_calls w' x r (h.to hw)
theorem rdoubt_s {W : World} (w' : World) (hw : IsSince W w') (r : Ride) (h : r.At W) : Calls Try.prog 24 #[.agg #[.int .i64 r.id, .int .i64 r.rd, .int .i64 r.s0, .int .i64 r.s1, .int .i64 r.e0, .int .i64 r.e1, .bool r.op, .slice r.la r.legs.length r.lc, .slice r.pa r.pauses.length r.pc, .int .i64 r.fw, .int .i64 r.fp, .int .i64 r.wh, .int .i64 r.pl]] w' (Ends W w' (fun o => o = .returned (.tuple #[.int .i64 (doubtV r), .int .i64 (ivE r)]))) :=
  later hw fun x => rdoubt_calls w' x r (h.to hw)
theorem rseconds_s {W : World} (w' : World) (hw : IsSince W w') (r : Ride) (h : r.At W) : Calls Try.prog 22 #[.agg #[.int .i64 r.id, .int .i64 r.rd, .int .i64 r.s0, .int .i64 r.s1, .int .i64 r.e0, .int .i64 r.e1, .bool r.op, .slice r.la r.legs.length r.lc, .slice r.pa r.pauses.length r.pc, .int .i64 r.fw, .int .i64 r.fp, .int .i64 r.wh, .int .i64 r.pl]] w' (Ends W w' (fun o => o = .returned (.tuple #[.int .i64 (secR r), .int .i64 (secP r), .int .i64 (ivE r)]))) :=
  later hw fun x => rseconds_calls w' x r (h.to hw)
set_option maxRecDepth 100000 in
set_option maxHeartbeats 8000000 in
theorem intervalWindows_calls (w : World) (x : Since w) (r : Ride) (h : r.At w) :
    Calls Try.prog 3 #[.agg #[.int .i64 r.id, .int .i64 r.rd, .int .i64 r.s0, .int .i64 r.s1, .int .i64 r.e0, .int .i64 r.e1, .bool r.op, .slice r.la r.legs.length r.lc, .slice r.pa r.pauses.length r.pc, .int .i64 r.fw, .int .i64 r.fp, .int .i64 r.wh, .int .i64 r.pl]] x.w fun o w' => o = .returned (.bool true) ∧ ∃ y : Since w, w' = y.w := by
  have H := Lib.hid h
  clear h
  have Hf := Lib.hid (fun (w : World) (x : Since w) (h : r.At w) => few23_calls w x r h)
  have Hfew := Lib.hid (show few23 r = (decide (r.legs.length ≤ 100) && decide (r.pauses.length ≤ 100)) from rfl)
  cases hfw : few23 r with
  | false =>
    rw [hfw] at Hf
    clear hfw
    go_enter Try.func3, Try.ntmps3
    go_upto_region 1 with fail
    have hb0_0 : ∀ y : Since (x.w.alloc (.cells #[.int .i64 r.id, .int .i64 r.rd, .int .i64 r.s0, .int .i64 r.s1, .int .i64 r.e0, .int .i64 r.e1, .bool r.op, .slice r.la r.legs.length r.lc, .slice r.pa r.pauses.length r.pc, .int .i64 r.fw, .int .i64 r.fp, .int .i64 r.wh, .int .i64 r.pl] 27)), y.w.cell? ⟨x.w.heap.size, 0, none⟩ = some (.int .i64 r.id) := fun y => Since.cell (by simp [go_sem]) (by first | (simp; done) | (simp; omega)) y
    have hb0_1 : ∀ y : Since (x.w.alloc (.cells #[.int .i64 r.id, .int .i64 r.rd, .int .i64 r.s0, .int .i64 r.s1, .int .i64 r.e0, .int .i64 r.e1, .bool r.op, .slice r.la r.legs.length r.lc, .slice r.pa r.pauses.length r.pc, .int .i64 r.fw, .int .i64 r.fp, .int .i64 r.wh, .int .i64 r.pl] 27)), y.w.cell? ⟨x.w.heap.size, 1, none⟩ = some (.int .i64 r.rd) := fun y => Since.cell (by simp [go_sem]) (by first | (simp; done) | (simp; omega)) y
    have hb0_2 : ∀ y : Since (x.w.alloc (.cells #[.int .i64 r.id, .int .i64 r.rd, .int .i64 r.s0, .int .i64 r.s1, .int .i64 r.e0, .int .i64 r.e1, .bool r.op, .slice r.la r.legs.length r.lc, .slice r.pa r.pauses.length r.pc, .int .i64 r.fw, .int .i64 r.fp, .int .i64 r.wh, .int .i64 r.pl] 27)), y.w.cell? ⟨x.w.heap.size, 2, none⟩ = some (.int .i64 r.s0) := fun y => Since.cell (by simp [go_sem]) (by first | (simp; done) | (simp; omega)) y
    have hb0_3 : ∀ y : Since (x.w.alloc (.cells #[.int .i64 r.id, .int .i64 r.rd, .int .i64 r.s0, .int .i64 r.s1, .int .i64 r.e0, .int .i64 r.e1, .bool r.op, .slice r.la r.legs.length r.lc, .slice r.pa r.pauses.length r.pc, .int .i64 r.fw, .int .i64 r.fp, .int .i64 r.wh, .int .i64 r.pl] 27)), y.w.cell? ⟨x.w.heap.size, 3, none⟩ = some (.int .i64 r.s1) := fun y => Since.cell (by simp [go_sem]) (by first | (simp; done) | (simp; omega)) y
    have hb0_4 : ∀ y : Since (x.w.alloc (.cells #[.int .i64 r.id, .int .i64 r.rd, .int .i64 r.s0, .int .i64 r.s1, .int .i64 r.e0, .int .i64 r.e1, .bool r.op, .slice r.la r.legs.length r.lc, .slice r.pa r.pauses.length r.pc, .int .i64 r.fw, .int .i64 r.fp, .int .i64 r.wh, .int .i64 r.pl] 27)), y.w.cell? ⟨x.w.heap.size, 4, none⟩ = some (.int .i64 r.e0) := fun y => Since.cell (by simp [go_sem]) (by first | (simp; done) | (simp; omega)) y
    have hb0_5 : ∀ y : Since (x.w.alloc (.cells #[.int .i64 r.id, .int .i64 r.rd, .int .i64 r.s0, .int .i64 r.s1, .int .i64 r.e0, .int .i64 r.e1, .bool r.op, .slice r.la r.legs.length r.lc, .slice r.pa r.pauses.length r.pc, .int .i64 r.fw, .int .i64 r.fp, .int .i64 r.wh, .int .i64 r.pl] 27)), y.w.cell? ⟨x.w.heap.size, 5, none⟩ = some (.int .i64 r.e1) := fun y => Since.cell (by simp [go_sem]) (by first | (simp; done) | (simp; omega)) y
    have hb0_6 : ∀ y : Since (x.w.alloc (.cells #[.int .i64 r.id, .int .i64 r.rd, .int .i64 r.s0, .int .i64 r.s1, .int .i64 r.e0, .int .i64 r.e1, .bool r.op, .slice r.la r.legs.length r.lc, .slice r.pa r.pauses.length r.pc, .int .i64 r.fw, .int .i64 r.fp, .int .i64 r.wh, .int .i64 r.pl] 27)), y.w.cell? ⟨x.w.heap.size, 6, none⟩ = some (.bool r.op) := fun y => Since.cell (by simp [go_sem]) (by first | (simp; done) | (simp; omega)) y
    have hb0_7 : ∀ y : Since (x.w.alloc (.cells #[.int .i64 r.id, .int .i64 r.rd, .int .i64 r.s0, .int .i64 r.s1, .int .i64 r.e0, .int .i64 r.e1, .bool r.op, .slice r.la r.legs.length r.lc, .slice r.pa r.pauses.length r.pc, .int .i64 r.fw, .int .i64 r.fp, .int .i64 r.wh, .int .i64 r.pl] 27)), y.w.cell? ⟨x.w.heap.size, 7, none⟩ = some (.slice r.la r.legs.length r.lc) := fun y => Since.cell (by simp [go_sem]) (by first | (simp; done) | (simp; omega)) y
    have hb0_8 : ∀ y : Since (x.w.alloc (.cells #[.int .i64 r.id, .int .i64 r.rd, .int .i64 r.s0, .int .i64 r.s1, .int .i64 r.e0, .int .i64 r.e1, .bool r.op, .slice r.la r.legs.length r.lc, .slice r.pa r.pauses.length r.pc, .int .i64 r.fw, .int .i64 r.fp, .int .i64 r.wh, .int .i64 r.pl] 27)), y.w.cell? ⟨x.w.heap.size, 8, none⟩ = some (.slice r.pa r.pauses.length r.pc) := fun y => Since.cell (by simp [go_sem]) (by first | (simp; done) | (simp; omega)) y
    have hb0_9 : ∀ y : Since (x.w.alloc (.cells #[.int .i64 r.id, .int .i64 r.rd, .int .i64 r.s0, .int .i64 r.s1, .int .i64 r.e0, .int .i64 r.e1, .bool r.op, .slice r.la r.legs.length r.lc, .slice r.pa r.pauses.length r.pc, .int .i64 r.fw, .int .i64 r.fp, .int .i64 r.wh, .int .i64 r.pl] 27)), y.w.cell? ⟨x.w.heap.size, 9, none⟩ = some (.int .i64 r.fw) := fun y => Since.cell (by simp [go_sem]) (by first | (simp; done) | (simp; omega)) y
    have hb0_10 : ∀ y : Since (x.w.alloc (.cells #[.int .i64 r.id, .int .i64 r.rd, .int .i64 r.s0, .int .i64 r.s1, .int .i64 r.e0, .int .i64 r.e1, .bool r.op, .slice r.la r.legs.length r.lc, .slice r.pa r.pauses.length r.pc, .int .i64 r.fw, .int .i64 r.fp, .int .i64 r.wh, .int .i64 r.pl] 27)), y.w.cell? ⟨x.w.heap.size, 10, none⟩ = some (.int .i64 r.fp) := fun y => Since.cell (by simp [go_sem]) (by first | (simp; done) | (simp; omega)) y
    have hb0_11 : ∀ y : Since (x.w.alloc (.cells #[.int .i64 r.id, .int .i64 r.rd, .int .i64 r.s0, .int .i64 r.s1, .int .i64 r.e0, .int .i64 r.e1, .bool r.op, .slice r.la r.legs.length r.lc, .slice r.pa r.pauses.length r.pc, .int .i64 r.fw, .int .i64 r.fp, .int .i64 r.wh, .int .i64 r.pl] 27)), y.w.cell? ⟨x.w.heap.size, 11, none⟩ = some (.int .i64 r.wh) := fun y => Since.cell (by simp [go_sem]) (by first | (simp; done) | (simp; omega)) y
    have hb0_12 : ∀ y : Since (x.w.alloc (.cells #[.int .i64 r.id, .int .i64 r.rd, .int .i64 r.s0, .int .i64 r.s1, .int .i64 r.e0, .int .i64 r.e1, .bool r.op, .slice r.la r.legs.length r.lc, .slice r.pa r.pauses.length r.pc, .int .i64 r.fw, .int .i64 r.fp, .int .i64 r.wh, .int .i64 r.pl] 27)), y.w.cell? ⟨x.w.heap.size, 12, none⟩ = some (.int .i64 r.pl) := fun y => Since.cell (by simp [go_sem]) (by first | (simp; done) | (simp; omega)) y
    have hf0 : ∀ (y : Since (x.w.alloc (.cells #[.int .i64 r.id, .int .i64 r.rd, .int .i64 r.s0, .int .i64 r.s1, .int .i64 r.e0, .int .i64 r.e1, .bool r.op, .slice r.la r.legs.length r.lc, .slice r.pa r.pauses.length r.pc, .int .i64 r.fw, .int .i64 r.fp, .int .i64 r.wh, .int .i64 r.pl] 27))) (o : Nat), y.w.frozen? ⟨x.w.heap.size, o, none⟩ = false := fun y o => Since.free (by simp [go_sem]) (by first | (simp; done) | (simp; omega)) y
    have hWup : ∃ z : Since w, (x.w.alloc (.cells #[.int .i64 r.id, .int .i64 r.rd, .int .i64 r.s0, .int .i64 r.s1, .int .i64 r.e0, .int .i64 r.e1, .bool r.op, .slice r.la r.legs.length r.lc, .slice r.pa r.pauses.length r.pc, .int .i64 r.fw, .int .i64 r.fp, .int .i64 r.wh, .int .i64 r.pl] 27)) = z.w := x.alloc _
    obtain ⟨y0, hy0⟩ := Since.refl (x.w.alloc (.cells #[.int .i64 r.id, .int .i64 r.rd, .int .i64 r.s0, .int .i64 r.s1, .int .i64 r.e0, .int .i64 r.e1, .bool r.op, .slice r.la r.legs.length r.lc, .slice r.pa r.pauses.length r.pc, .int .i64 r.fw, .int .i64 r.fp, .int .i64 r.wh, .int .i64 r.pl] 27))
    have Hbx := Lib.hid (And.intro x.b.size (show x.w.heap.size + 1 = (x.w.alloc (.cells #[.int .i64 r.id, .int .i64 r.rd, .int .i64 r.s0, .int .i64 r.s1, .int .i64 r.e0, .int .i64 r.e1, .bool r.op, .slice r.la r.legs.length r.lc, .slice r.pa r.pauses.length r.pc, .int .i64 r.fw, .int .i64 r.fp, .int .i64 r.wh, .int .i64 r.pl] 27)).heap.size from by simp))
    generalize hW : (x.w.alloc (.cells #[.int .i64 r.id, .int .i64 r.rd, .int .i64 r.s0, .int .i64 r.s1, .int .i64 r.e0, .int .i64 r.e1, .bool r.op, .slice r.la r.legs.length r.lc, .slice r.pa r.pauses.length r.pc, .int .i64 r.fw, .int .i64 r.fp, .int .i64 r.wh, .int .i64 r.pl] 27)) = W at *
    clear hW
    generalize x.w.heap.size = bx at *
    have Hup := Lib.hid (Since.up hWup)
    rw [hy0]
    clear hy0
    replace H := Lib.hid (H.out.to hWup)
    clear hWup
    go_wp2_with (first | (go_at_call 10; ((with_reducible refine (Hf.out W y0 H.out).mono ?_); rintro _ _ ⟨rfl, y1, rfl⟩)) | (go_at_call 11; ((with_reducible refine (awake_calls W y1).mono ?_); rintro _ _ ⟨rfl, y2, rfl⟩)))
    go_ret
    exact ⟨rfl, Hup.out y2⟩
  | true =>
    rw [hfw] at Hf
    have hpl : r.pauses.length ≤ 100 := by
      rw [Hfew.out, Bool.and_eq_true, decide_eq_true_eq, decide_eq_true_eq] at hfw; exact hfw.2
    clear hfw Hfew
    have hee : (ivE r != ivE r) = false := by simp
    have hee2 : (ivE r == ivE r) = true := by simp
    go_enter Try.func3, Try.ntmps3
    go_upto_region 1 with fail
    have hb0_0 : ∀ y : Since (x.w.alloc (.cells #[.int .i64 r.id, .int .i64 r.rd, .int .i64 r.s0, .int .i64 r.s1, .int .i64 r.e0, .int .i64 r.e1, .bool r.op, .slice r.la r.legs.length r.lc, .slice r.pa r.pauses.length r.pc, .int .i64 r.fw, .int .i64 r.fp, .int .i64 r.wh, .int .i64 r.pl] 27)), y.w.cell? ⟨x.w.heap.size, 0, none⟩ = some (.int .i64 r.id) := fun y => Since.cell (by simp [go_sem]) (by first | (simp; done) | (simp; omega)) y
    have hb0_1 : ∀ y : Since (x.w.alloc (.cells #[.int .i64 r.id, .int .i64 r.rd, .int .i64 r.s0, .int .i64 r.s1, .int .i64 r.e0, .int .i64 r.e1, .bool r.op, .slice r.la r.legs.length r.lc, .slice r.pa r.pauses.length r.pc, .int .i64 r.fw, .int .i64 r.fp, .int .i64 r.wh, .int .i64 r.pl] 27)), y.w.cell? ⟨x.w.heap.size, 1, none⟩ = some (.int .i64 r.rd) := fun y => Since.cell (by simp [go_sem]) (by first | (simp; done) | (simp; omega)) y
    have hb0_2 : ∀ y : Since (x.w.alloc (.cells #[.int .i64 r.id, .int .i64 r.rd, .int .i64 r.s0, .int .i64 r.s1, .int .i64 r.e0, .int .i64 r.e1, .bool r.op, .slice r.la r.legs.length r.lc, .slice r.pa r.pauses.length r.pc, .int .i64 r.fw, .int .i64 r.fp, .int .i64 r.wh, .int .i64 r.pl] 27)), y.w.cell? ⟨x.w.heap.size, 2, none⟩ = some (.int .i64 r.s0) := fun y => Since.cell (by simp [go_sem]) (by first | (simp; done) | (simp; omega)) y
    have hb0_3 : ∀ y : Since (x.w.alloc (.cells #[.int .i64 r.id, .int .i64 r.rd, .int .i64 r.s0, .int .i64 r.s1, .int .i64 r.e0, .int .i64 r.e1, .bool r.op, .slice r.la r.legs.length r.lc, .slice r.pa r.pauses.length r.pc, .int .i64 r.fw, .int .i64 r.fp, .int .i64 r.wh, .int .i64 r.pl] 27)), y.w.cell? ⟨x.w.heap.size, 3, none⟩ = some (.int .i64 r.s1) := fun y => Since.cell (by simp [go_sem]) (by first | (simp; done) | (simp; omega)) y
    have hb0_4 : ∀ y : Since (x.w.alloc (.cells #[.int .i64 r.id, .int .i64 r.rd, .int .i64 r.s0, .int .i64 r.s1, .int .i64 r.e0, .int .i64 r.e1, .bool r.op, .slice r.la r.legs.length r.lc, .slice r.pa r.pauses.length r.pc, .int .i64 r.fw, .int .i64 r.fp, .int .i64 r.wh, .int .i64 r.pl] 27)), y.w.cell? ⟨x.w.heap.size, 4, none⟩ = some (.int .i64 r.e0) := fun y => Since.cell (by simp [go_sem]) (by first | (simp; done) | (simp; omega)) y
    have hb0_5 : ∀ y : Since (x.w.alloc (.cells #[.int .i64 r.id, .int .i64 r.rd, .int .i64 r.s0, .int .i64 r.s1, .int .i64 r.e0, .int .i64 r.e1, .bool r.op, .slice r.la r.legs.length r.lc, .slice r.pa r.pauses.length r.pc, .int .i64 r.fw, .int .i64 r.fp, .int .i64 r.wh, .int .i64 r.pl] 27)), y.w.cell? ⟨x.w.heap.size, 5, none⟩ = some (.int .i64 r.e1) := fun y => Since.cell (by simp [go_sem]) (by first | (simp; done) | (simp; omega)) y
    have hb0_6 : ∀ y : Since (x.w.alloc (.cells #[.int .i64 r.id, .int .i64 r.rd, .int .i64 r.s0, .int .i64 r.s1, .int .i64 r.e0, .int .i64 r.e1, .bool r.op, .slice r.la r.legs.length r.lc, .slice r.pa r.pauses.length r.pc, .int .i64 r.fw, .int .i64 r.fp, .int .i64 r.wh, .int .i64 r.pl] 27)), y.w.cell? ⟨x.w.heap.size, 6, none⟩ = some (.bool r.op) := fun y => Since.cell (by simp [go_sem]) (by first | (simp; done) | (simp; omega)) y
    have hb0_7 : ∀ y : Since (x.w.alloc (.cells #[.int .i64 r.id, .int .i64 r.rd, .int .i64 r.s0, .int .i64 r.s1, .int .i64 r.e0, .int .i64 r.e1, .bool r.op, .slice r.la r.legs.length r.lc, .slice r.pa r.pauses.length r.pc, .int .i64 r.fw, .int .i64 r.fp, .int .i64 r.wh, .int .i64 r.pl] 27)), y.w.cell? ⟨x.w.heap.size, 7, none⟩ = some (.slice r.la r.legs.length r.lc) := fun y => Since.cell (by simp [go_sem]) (by first | (simp; done) | (simp; omega)) y
    have hb0_8 : ∀ y : Since (x.w.alloc (.cells #[.int .i64 r.id, .int .i64 r.rd, .int .i64 r.s0, .int .i64 r.s1, .int .i64 r.e0, .int .i64 r.e1, .bool r.op, .slice r.la r.legs.length r.lc, .slice r.pa r.pauses.length r.pc, .int .i64 r.fw, .int .i64 r.fp, .int .i64 r.wh, .int .i64 r.pl] 27)), y.w.cell? ⟨x.w.heap.size, 8, none⟩ = some (.slice r.pa r.pauses.length r.pc) := fun y => Since.cell (by simp [go_sem]) (by first | (simp; done) | (simp; omega)) y
    have hb0_9 : ∀ y : Since (x.w.alloc (.cells #[.int .i64 r.id, .int .i64 r.rd, .int .i64 r.s0, .int .i64 r.s1, .int .i64 r.e0, .int .i64 r.e1, .bool r.op, .slice r.la r.legs.length r.lc, .slice r.pa r.pauses.length r.pc, .int .i64 r.fw, .int .i64 r.fp, .int .i64 r.wh, .int .i64 r.pl] 27)), y.w.cell? ⟨x.w.heap.size, 9, none⟩ = some (.int .i64 r.fw) := fun y => Since.cell (by simp [go_sem]) (by first | (simp; done) | (simp; omega)) y
    have hb0_10 : ∀ y : Since (x.w.alloc (.cells #[.int .i64 r.id, .int .i64 r.rd, .int .i64 r.s0, .int .i64 r.s1, .int .i64 r.e0, .int .i64 r.e1, .bool r.op, .slice r.la r.legs.length r.lc, .slice r.pa r.pauses.length r.pc, .int .i64 r.fw, .int .i64 r.fp, .int .i64 r.wh, .int .i64 r.pl] 27)), y.w.cell? ⟨x.w.heap.size, 10, none⟩ = some (.int .i64 r.fp) := fun y => Since.cell (by simp [go_sem]) (by first | (simp; done) | (simp; omega)) y
    have hb0_11 : ∀ y : Since (x.w.alloc (.cells #[.int .i64 r.id, .int .i64 r.rd, .int .i64 r.s0, .int .i64 r.s1, .int .i64 r.e0, .int .i64 r.e1, .bool r.op, .slice r.la r.legs.length r.lc, .slice r.pa r.pauses.length r.pc, .int .i64 r.fw, .int .i64 r.fp, .int .i64 r.wh, .int .i64 r.pl] 27)), y.w.cell? ⟨x.w.heap.size, 11, none⟩ = some (.int .i64 r.wh) := fun y => Since.cell (by simp [go_sem]) (by first | (simp; done) | (simp; omega)) y
    have hb0_12 : ∀ y : Since (x.w.alloc (.cells #[.int .i64 r.id, .int .i64 r.rd, .int .i64 r.s0, .int .i64 r.s1, .int .i64 r.e0, .int .i64 r.e1, .bool r.op, .slice r.la r.legs.length r.lc, .slice r.pa r.pauses.length r.pc, .int .i64 r.fw, .int .i64 r.fp, .int .i64 r.wh, .int .i64 r.pl] 27)), y.w.cell? ⟨x.w.heap.size, 12, none⟩ = some (.int .i64 r.pl) := fun y => Since.cell (by simp [go_sem]) (by first | (simp; done) | (simp; omega)) y
    have hf0 : ∀ (y : Since (x.w.alloc (.cells #[.int .i64 r.id, .int .i64 r.rd, .int .i64 r.s0, .int .i64 r.s1, .int .i64 r.e0, .int .i64 r.e1, .bool r.op, .slice r.la r.legs.length r.lc, .slice r.pa r.pauses.length r.pc, .int .i64 r.fw, .int .i64 r.fp, .int .i64 r.wh, .int .i64 r.pl] 27))) (o : Nat), y.w.frozen? ⟨x.w.heap.size, o, none⟩ = false := fun y o => Since.free (by simp [go_sem]) (by first | (simp; done) | (simp; omega)) y
    have hWup : ∃ z : Since w, (x.w.alloc (.cells #[.int .i64 r.id, .int .i64 r.rd, .int .i64 r.s0, .int .i64 r.s1, .int .i64 r.e0, .int .i64 r.e1, .bool r.op, .slice r.la r.legs.length r.lc, .slice r.pa r.pauses.length r.pc, .int .i64 r.fw, .int .i64 r.fp, .int .i64 r.wh, .int .i64 r.pl] 27)) = z.w := x.alloc _
    obtain ⟨y0, hy0⟩ := Since.refl (x.w.alloc (.cells #[.int .i64 r.id, .int .i64 r.rd, .int .i64 r.s0, .int .i64 r.s1, .int .i64 r.e0, .int .i64 r.e1, .bool r.op, .slice r.la r.legs.length r.lc, .slice r.pa r.pauses.length r.pc, .int .i64 r.fw, .int .i64 r.fp, .int .i64 r.wh, .int .i64 r.pl] 27))
    have Hbx := Lib.hid (And.intro x.b.size (show x.w.heap.size + 1 = (x.w.alloc (.cells #[.int .i64 r.id, .int .i64 r.rd, .int .i64 r.s0, .int .i64 r.s1, .int .i64 r.e0, .int .i64 r.e1, .bool r.op, .slice r.la r.legs.length r.lc, .slice r.pa r.pauses.length r.pc, .int .i64 r.fw, .int .i64 r.fp, .int .i64 r.wh, .int .i64 r.pl] 27)).heap.size from by simp))
    generalize hW : (x.w.alloc (.cells #[.int .i64 r.id, .int .i64 r.rd, .int .i64 r.s0, .int .i64 r.s1, .int .i64 r.e0, .int .i64 r.e1, .bool r.op, .slice r.la r.legs.length r.lc, .slice r.pa r.pauses.length r.pc, .int .i64 r.fw, .int .i64 r.fp, .int .i64 r.wh, .int .i64 r.pl] 27)) = W at *
    clear hW
    generalize x.w.heap.size = bx at *
    have Hup := Lib.hid (Since.up hWup)
    rw [hy0]
    clear hy0
    replace H := Lib.hid (H.out.to hWup)
    have HU := Lib.hid (show IsSince w W from hWup)
    clear hWup hf0 Hbx Hup
    go_upto_region 3 with (go_at_call 10; ((with_reducible refine (Hf.out W y0 H.out).mono ?_); rintro _ _ ⟨rfl, y1, rfl⟩))
    clear Hf
    have hq1 : ∀ w, (Op.equalIn 10000 31 (.agg #[.int .i64 (sureW r).f, .int .i64 (sureW r).t]) (.agg #[.int .i64 (sureW r).f, .int .i64 (sureW r).t])).run Try.prog w = .ok true w := fun w => by rw [win_equal]; simp
    have hq2 : ∀ w, (Op.equalIn 10000 31 (.agg #[.int .i64 (possW r).f, .int .i64 (possW r).t]) (.agg #[.int .i64 (possW r).f, .int .i64 (possW r).t])).run Try.prog w = .ok true w := fun w => by rw [win_equal]; simp
    have hgd := win_guard
    go_upto_region 4 with (go_at_call 12; ((with_reducible refine (sure_s (W := W) _ (IsSince.of y1) r H.out).mono ?_); rintro _ _ ⟨rfl, y2, rfl, _⟩))
    have hs0 : (y2.w.alloc (.cells #[.int .i64 (sureW r).f, .int .i64 (sureW r).t] 31)).cell? ⟨y2.w.heap.size, 0, none⟩ = some (.int .i64 (sureW r).f) := by simp [go_sem]
    have hs1 : (y2.w.alloc (.cells #[.int .i64 (sureW r).f, .int .i64 (sureW r).t] 31)).cell? ⟨y2.w.heap.size, 1, none⟩ = some (.int .i64 (sureW r).t) := by simp [go_sem]
    have hsf : ∀ o, (y2.w.alloc (.cells #[.int .i64 (sureW r).f, .int .i64 (sureW r).t] 31)).frozen? ⟨y2.w.heap.size, o, none⟩ = false := fun o => by simp [go_sem]
    have hlt0 : y2.w.heap.size < (y2.w.alloc (.cells #[.int .i64 (sureW r).f, .int .i64 (sureW r).t] 31)).heap.size := by simp
    have hst0 : ∃ zz : Since y2.w, (y2.w.alloc (.cells #[.int .i64 (sureW r).f, .int .i64 (sureW r).t] 31)) = zz.w := IsSince.alloc (IsSince.self _) _
    have hsz0 := y2.b.size
    obtain ⟨y3, e2⟩ := IsSince.alloc (IsSince.of y2) (.cells #[.int .i64 (sureW r).f, .int .i64 (sureW r).t] 31)
    rw [e2] at hs0 hs1 hsf hlt0 hst0 ⊢
    skip
    clear e2 hst0
    generalize y2.w.heap.size = ghs at *
    have Hhs0 : ∀ q : Since y3.w, q.w.cell? ⟨ghs, 0, none⟩ = some (.int .i64 (sureW r).f) := fun q => Since.cell hs0 (by omega) q
    have Hhs1 : ∀ q : Since y3.w, q.w.cell? ⟨ghs, 1, none⟩ = some (.int .i64 (sureW r).t) := fun q => Since.cell hs1 (by omega) q
    have Hhsf : ∀ (q : Since y3.w) (o : Nat), q.w.frozen? ⟨ghs, o, none⟩ = false := fun q o => Since.free (hsf o) (by omega) q
    have Hhsg := Lib.hid (And.intro hsz0 hlt0)
    clear hlt0 hsz0
    clear hs0 hs1 hsf Hhsf
    replace H := Lib.hid (H.out.to ⟨y3, rfl⟩)
    replace HU := Lib.hid (HU.out.trans (IsSince.of y3))
    replace hb0_0 := Since.cellTo ⟨y3, rfl⟩ hb0_0
    replace hb0_1 := Since.cellTo ⟨y3, rfl⟩ hb0_1
    replace hb0_2 := Since.cellTo ⟨y3, rfl⟩ hb0_2
    replace hb0_3 := Since.cellTo ⟨y3, rfl⟩ hb0_3
    replace hb0_4 := Since.cellTo ⟨y3, rfl⟩ hb0_4
    replace hb0_5 := Since.cellTo ⟨y3, rfl⟩ hb0_5
    replace hb0_6 := Since.cellTo ⟨y3, rfl⟩ hb0_6
    replace hb0_7 := Since.cellTo ⟨y3, rfl⟩ hb0_7
    replace hb0_8 := Since.cellTo ⟨y3, rfl⟩ hb0_8
    replace hb0_9 := Since.cellTo ⟨y3, rfl⟩ hb0_9
    replace hb0_10 := Since.cellTo ⟨y3, rfl⟩ hb0_10
    replace hb0_11 := Since.cellTo ⟨y3, rfl⟩ hb0_11
    replace hb0_12 := Since.cellTo ⟨y3, rfl⟩ hb0_12
    obtain ⟨q3, hq0⟩ := Since.refl y3.w
    rw [hq0]
    clear hq0
    go_upto_region 5 with (go_at_call 13; ((with_reducible refine (rsure_s (W := y3.w) _ (IsSince.of q3) r H.out).mono ?_); rintro _ _ ⟨rfl, y4, rfl, _⟩))
    have ht0 : (y4.w.alloc (.cells #[.int .i64 (sureW r).f, .int .i64 (sureW r).t] 31)).cell? ⟨y4.w.heap.size, 0, none⟩ = some (.int .i64 (sureW r).f) := by simp [go_sem]
    have ht1 : (y4.w.alloc (.cells #[.int .i64 (sureW r).f, .int .i64 (sureW r).t] 31)).cell? ⟨y4.w.heap.size, 1, none⟩ = some (.int .i64 (sureW r).t) := by simp [go_sem]
    have htf : ∀ o, (y4.w.alloc (.cells #[.int .i64 (sureW r).f, .int .i64 (sureW r).t] 31)).frozen? ⟨y4.w.heap.size, o, none⟩ = false := fun o => by simp [go_sem]
    have hlt0 : y4.w.heap.size < (y4.w.alloc (.cells #[.int .i64 (sureW r).f, .int .i64 (sureW r).t] 31)).heap.size := by simp
    have hst0 : ∃ zz : Since y4.w, (y4.w.alloc (.cells #[.int .i64 (sureW r).f, .int .i64 (sureW r).t] 31)) = zz.w := IsSince.alloc (IsSince.self _) _
    have hsz0 := y4.b.size
    obtain ⟨y5, e2⟩ := IsSince.alloc (IsSince.of y4) (.cells #[.int .i64 (sureW r).f, .int .i64 (sureW r).t] 31)
    rw [e2] at ht0 ht1 htf hlt0 hst0 ⊢
    skip
    clear e2 hst0
    generalize y4.w.heap.size = ght at *
    have Hht0 : ∀ q : Since y5.w, q.w.cell? ⟨ght, 0, none⟩ = some (.int .i64 (sureW r).f) := fun q => Since.cell ht0 (by omega) q
    have Hht1 : ∀ q : Since y5.w, q.w.cell? ⟨ght, 1, none⟩ = some (.int .i64 (sureW r).t) := fun q => Since.cell ht1 (by omega) q
    have Hhtf : ∀ (q : Since y5.w) (o : Nat), q.w.frozen? ⟨ght, o, none⟩ = false := fun q o => Since.free (htf o) (by omega) q
    have Hhtg := Lib.hid (And.intro hsz0 hlt0)
    clear hlt0 hsz0
    clear ht0 ht1 htf Hhtf
    replace H := Lib.hid (H.out.to ⟨y5, rfl⟩)
    replace HU := Lib.hid (HU.out.trans (IsSince.of y5))
    replace hb0_0 := Since.cellTo ⟨y5, rfl⟩ hb0_0
    replace hb0_1 := Since.cellTo ⟨y5, rfl⟩ hb0_1
    replace hb0_2 := Since.cellTo ⟨y5, rfl⟩ hb0_2
    replace hb0_3 := Since.cellTo ⟨y5, rfl⟩ hb0_3
    replace hb0_4 := Since.cellTo ⟨y5, rfl⟩ hb0_4
    replace hb0_5 := Since.cellTo ⟨y5, rfl⟩ hb0_5
    replace hb0_6 := Since.cellTo ⟨y5, rfl⟩ hb0_6
    replace hb0_7 := Since.cellTo ⟨y5, rfl⟩ hb0_7
    replace hb0_8 := Since.cellTo ⟨y5, rfl⟩ hb0_8
    replace hb0_9 := Since.cellTo ⟨y5, rfl⟩ hb0_9
    replace hb0_10 := Since.cellTo ⟨y5, rfl⟩ hb0_10
    replace hb0_11 := Since.cellTo ⟨y5, rfl⟩ hb0_11
    replace hb0_12 := Since.cellTo ⟨y5, rfl⟩ hb0_12
    replace Hhs0 := Since.cellTo ⟨y5, rfl⟩ Hhs0
    replace Hhs1 := Since.cellTo ⟨y5, rfl⟩ Hhs1
    obtain ⟨q5, hq0⟩ := Since.refl y5.w
    rw [hq0]
    clear hq0
    go_upto_region 6 with (go_at_call 14; ((with_reducible refine (possible_s (W := y5.w) _ (IsSince.of q5) r H.out).mono ?_); rintro _ _ ⟨rfl, y6, rfl, _⟩))
    have hu0 : (y6.w.alloc (.cells #[.int .i64 (possW r).f, .int .i64 (possW r).t] 31)).cell? ⟨y6.w.heap.size, 0, none⟩ = some (.int .i64 (possW r).f) := by simp [go_sem]
    have hu1 : (y6.w.alloc (.cells #[.int .i64 (possW r).f, .int .i64 (possW r).t] 31)).cell? ⟨y6.w.heap.size, 1, none⟩ = some (.int .i64 (possW r).t) := by simp [go_sem]
    have huf : ∀ o, (y6.w.alloc (.cells #[.int .i64 (possW r).f, .int .i64 (possW r).t] 31)).frozen? ⟨y6.w.heap.size, o, none⟩ = false := fun o => by simp [go_sem]
    have hlt0 : y6.w.heap.size < (y6.w.alloc (.cells #[.int .i64 (possW r).f, .int .i64 (possW r).t] 31)).heap.size := by simp
    have hst0 : ∃ zz : Since y6.w, (y6.w.alloc (.cells #[.int .i64 (possW r).f, .int .i64 (possW r).t] 31)) = zz.w := IsSince.alloc (IsSince.self _) _
    have hsz0 := y6.b.size
    obtain ⟨y7, e2⟩ := IsSince.alloc (IsSince.of y6) (.cells #[.int .i64 (possW r).f, .int .i64 (possW r).t] 31)
    rw [e2] at hu0 hu1 huf hlt0 hst0 ⊢
    skip
    clear e2 hst0
    generalize y6.w.heap.size = ghu at *
    have Hhu0 : ∀ q : Since y7.w, q.w.cell? ⟨ghu, 0, none⟩ = some (.int .i64 (possW r).f) := fun q => Since.cell hu0 (by omega) q
    have Hhu1 : ∀ q : Since y7.w, q.w.cell? ⟨ghu, 1, none⟩ = some (.int .i64 (possW r).t) := fun q => Since.cell hu1 (by omega) q
    have Hhuf : ∀ (q : Since y7.w) (o : Nat), q.w.frozen? ⟨ghu, o, none⟩ = false := fun q o => Since.free (huf o) (by omega) q
    have Hhug := Lib.hid (And.intro hsz0 hlt0)
    clear hlt0 hsz0
    clear hu0 hu1 huf Hhuf
    replace H := Lib.hid (H.out.to ⟨y7, rfl⟩)
    replace HU := Lib.hid (HU.out.trans (IsSince.of y7))
    replace hb0_0 := Since.cellTo ⟨y7, rfl⟩ hb0_0
    replace hb0_1 := Since.cellTo ⟨y7, rfl⟩ hb0_1
    replace hb0_2 := Since.cellTo ⟨y7, rfl⟩ hb0_2
    replace hb0_3 := Since.cellTo ⟨y7, rfl⟩ hb0_3
    replace hb0_4 := Since.cellTo ⟨y7, rfl⟩ hb0_4
    replace hb0_5 := Since.cellTo ⟨y7, rfl⟩ hb0_5
    replace hb0_6 := Since.cellTo ⟨y7, rfl⟩ hb0_6
    replace hb0_7 := Since.cellTo ⟨y7, rfl⟩ hb0_7
    replace hb0_8 := Since.cellTo ⟨y7, rfl⟩ hb0_8
    replace hb0_9 := Since.cellTo ⟨y7, rfl⟩ hb0_9
    replace hb0_10 := Since.cellTo ⟨y7, rfl⟩ hb0_10
    replace hb0_11 := Since.cellTo ⟨y7, rfl⟩ hb0_11
    replace hb0_12 := Since.cellTo ⟨y7, rfl⟩ hb0_12
    replace Hhs0 := Since.cellTo ⟨y7, rfl⟩ Hhs0
    replace Hhs1 := Since.cellTo ⟨y7, rfl⟩ Hhs1
    replace Hht0 := Since.cellTo ⟨y7, rfl⟩ Hht0
    replace Hht1 := Since.cellTo ⟨y7, rfl⟩ Hht1
    obtain ⟨q7, hq0⟩ := Since.refl y7.w
    rw [hq0]
    clear hq0
    go_upto_region 7 with (go_at_call 15; ((with_reducible refine (rpossible_s (W := y7.w) _ (IsSince.of q7) r H.out).mono ?_); rintro _ _ ⟨rfl, y8, rfl, _⟩))
    have hv0 : (y8.w.alloc (.cells #[.int .i64 (possW r).f, .int .i64 (possW r).t] 31)).cell? ⟨y8.w.heap.size, 0, none⟩ = some (.int .i64 (possW r).f) := by simp [go_sem]
    have hv1 : (y8.w.alloc (.cells #[.int .i64 (possW r).f, .int .i64 (possW r).t] 31)).cell? ⟨y8.w.heap.size, 1, none⟩ = some (.int .i64 (possW r).t) := by simp [go_sem]
    have hvf : ∀ o, (y8.w.alloc (.cells #[.int .i64 (possW r).f, .int .i64 (possW r).t] 31)).frozen? ⟨y8.w.heap.size, o, none⟩ = false := fun o => by simp [go_sem]
    have hlt0 : y8.w.heap.size < (y8.w.alloc (.cells #[.int .i64 (possW r).f, .int .i64 (possW r).t] 31)).heap.size := by simp
    have hst0 : ∃ zz : Since y8.w, (y8.w.alloc (.cells #[.int .i64 (possW r).f, .int .i64 (possW r).t] 31)) = zz.w := IsSince.alloc (IsSince.self _) _
    have hsz0 := y8.b.size
    obtain ⟨y9, e2⟩ := IsSince.alloc (IsSince.of y8) (.cells #[.int .i64 (possW r).f, .int .i64 (possW r).t] 31)
    rw [e2] at hv0 hv1 hvf hlt0 hst0 ⊢
    skip
    clear e2 hst0
    generalize y8.w.heap.size = ghv at *
    have Hhv0 : ∀ q : Since y9.w, q.w.cell? ⟨ghv, 0, none⟩ = some (.int .i64 (possW r).f) := fun q => Since.cell hv0 (by omega) q
    have Hhv1 : ∀ q : Since y9.w, q.w.cell? ⟨ghv, 1, none⟩ = some (.int .i64 (possW r).t) := fun q => Since.cell hv1 (by omega) q
    have Hhvf : ∀ (q : Since y9.w) (o : Nat), q.w.frozen? ⟨ghv, o, none⟩ = false := fun q o => Since.free (hvf o) (by omega) q
    have Hhvg := Lib.hid (And.intro hsz0 hlt0)
    clear hlt0 hsz0
    clear hv0 hv1 hvf Hhvf
    replace H := Lib.hid (H.out.to ⟨y9, rfl⟩)
    replace HU := Lib.hid (HU.out.trans (IsSince.of y9))
    replace hb0_0 := Since.cellTo ⟨y9, rfl⟩ hb0_0
    replace hb0_1 := Since.cellTo ⟨y9, rfl⟩ hb0_1
    replace hb0_2 := Since.cellTo ⟨y9, rfl⟩ hb0_2
    replace hb0_3 := Since.cellTo ⟨y9, rfl⟩ hb0_3
    replace hb0_4 := Since.cellTo ⟨y9, rfl⟩ hb0_4
    replace hb0_5 := Since.cellTo ⟨y9, rfl⟩ hb0_5
    replace hb0_6 := Since.cellTo ⟨y9, rfl⟩ hb0_6
    replace hb0_7 := Since.cellTo ⟨y9, rfl⟩ hb0_7
    replace hb0_8 := Since.cellTo ⟨y9, rfl⟩ hb0_8
    replace hb0_9 := Since.cellTo ⟨y9, rfl⟩ hb0_9
    replace hb0_10 := Since.cellTo ⟨y9, rfl⟩ hb0_10
    replace hb0_11 := Since.cellTo ⟨y9, rfl⟩ hb0_11
    replace hb0_12 := Since.cellTo ⟨y9, rfl⟩ hb0_12
    replace Hhs0 := Since.cellTo ⟨y9, rfl⟩ Hhs0
    replace Hhs1 := Since.cellTo ⟨y9, rfl⟩ Hhs1
    replace Hht0 := Since.cellTo ⟨y9, rfl⟩ Hht0
    replace Hht1 := Since.cellTo ⟨y9, rfl⟩ Hht1
    replace Hhu0 := Since.cellTo ⟨y9, rfl⟩ Hhu0
    replace Hhu1 := Since.cellTo ⟨y9, rfl⟩ Hhu1
    obtain ⟨q9, hq0⟩ := Since.refl y9.w
    rw [hq0]
    clear hq0
    go_upto_region 10 with (go_at_call 16; ((with_reducible refine (pausing_s (W := y9.w) _ (IsSince.of q9) r H.out).mono ?_); rintro _ _ ⟨ap, cp, u, y10, rfl, rfl, hz, hl, _, hQ⟩; have HP := Lib.hid hl; have HPo := Lib.hid hQ; clear hl hQ; clear hz))
    go_upto_region 11 with (go_at_call 17; ((with_reducible refine (rpausing_s (W := y9.w) _ (IsSince.of y10) r H.out).mono ?_); rintro _ _ ⟨aq, cq, v, y11, rfl, rfl, hz, hl, _, hQ⟩; replace HP := Lib.hid (HP.out.to hz); obtain rfl := HPo.out.unique hQ; have HQ := Lib.hid hl; clear hl hQ; clear hz))
    go_upto_region 12 with (go_at_call 18; ((with_reducible refine (riding_s (W := y9.w) _ (IsSince.of y11) r H.out).mono ?_); rintro _ _ ⟨ar, cr, s, y12, rfl, rfl, hz, hl, _, hQ⟩; replace HP := Lib.hid (HP.out.to hz); replace HQ := Lib.hid (HQ.out.to hz); have HR := Lib.hid hl; have HRo := Lib.hid hQ; clear hl hQ; clear hz))
    go_upto_region 13 with (go_at_call 19; ((with_reducible refine (rriding_s (W := y9.w) _ (IsSince.of y12) r H.out).mono ?_); rintro _ _ ⟨at_, ct, t, y13, rfl, rfl, hz, hl, _, hQ⟩; replace HP := Lib.hid (HP.out.to hz); replace HQ := Lib.hid (HQ.out.to hz); replace HR := Lib.hid (HR.out.to hz); obtain rfl := HRo.out.unique hQ; have HT := Lib.hid hl; clear hl hQ; clear hz))
    have hul := HPo.out.n
    have hsl := HRo.out.n
    go_wp2_with (first | (go_at_call 20; ((with_reducible refine (same_s (W := y9.w) _ (IsSince.of y13) ap u _ cp aq u _ cq true HP.out HQ.out rfl rfl (by omega) (by omega) (decide_eq_true rfl)).mono ?_); rintro _ _ ⟨rfl, y14, rfl, hz⟩; replace HP := Lib.hid (HP.out.to hz); replace HQ := Lib.hid (HQ.out.to hz); replace HR := Lib.hid (HR.out.to hz); replace HT := Lib.hid (HT.out.to hz); clear hz)) | (go_at_call 20; ((with_reducible refine (same_s (W := y9.w) _ (IsSince.of y14) ar s _ cr at_ s _ ct true HR.out HT.out rfl rfl (by omega) (by omega) (decide_eq_true rfl)).mono ?_); rintro _ _ ⟨rfl, y15, rfl, hz⟩; replace HP := Lib.hid (HP.out.to hz); replace HQ := Lib.hid (HQ.out.to hz); replace HR := Lib.hid (HR.out.to hz); replace HT := Lib.hid (HT.out.to hz); clear hz)) | (go_at_call 11; ((with_reducible refine (awake_calls _ y15).mono ?_); rintro _ _ ⟨rfl, yz, rfl⟩)))
    go_ret
    exact ⟨rfl, HU.out.trans (IsSince.of yz)⟩
set_option maxRecDepth 100000 in
set_option maxHeartbeats 8000000 in
theorem intervalSeconds_calls (w : World) (x : Since w) (r : Ride) (h : r.At w) :
    Calls Try.prog 4 #[.agg #[.int .i64 r.id, .int .i64 r.rd, .int .i64 r.s0, .int .i64 r.s1, .int .i64 r.e0, .int .i64 r.e1, .bool r.op, .slice r.la r.legs.length r.lc, .slice r.pa r.pauses.length r.pc, .int .i64 r.fw, .int .i64 r.fp, .int .i64 r.wh, .int .i64 r.pl]] x.w fun o w' => o = .returned (.bool true) ∧ ∃ y : Since w, w' = y.w := by
  have H := Lib.hid h
  clear h
  have Hf := Lib.hid (fun (w : World) (x : Since w) (h : r.At w) => few23_calls w x r h)
  have Hfew := Lib.hid (show few23 r = (decide (r.legs.length ≤ 100) && decide (r.pauses.length ≤ 100)) from rfl)
  cases hfw : few23 r with
  | false =>
    rw [hfw] at Hf
    clear hfw
    go_enter Try.func4, Try.ntmps4
    go_upto_region 1 with fail
    have hb0_0 : ∀ y : Since (x.w.alloc (.cells #[.int .i64 r.id, .int .i64 r.rd, .int .i64 r.s0, .int .i64 r.s1, .int .i64 r.e0, .int .i64 r.e1, .bool r.op, .slice r.la r.legs.length r.lc, .slice r.pa r.pauses.length r.pc, .int .i64 r.fw, .int .i64 r.fp, .int .i64 r.wh, .int .i64 r.pl] 27)), y.w.cell? ⟨x.w.heap.size, 0, none⟩ = some (.int .i64 r.id) := fun y => Since.cell (by simp [go_sem]) (by first | (simp; done) | (simp; omega)) y
    have hb0_1 : ∀ y : Since (x.w.alloc (.cells #[.int .i64 r.id, .int .i64 r.rd, .int .i64 r.s0, .int .i64 r.s1, .int .i64 r.e0, .int .i64 r.e1, .bool r.op, .slice r.la r.legs.length r.lc, .slice r.pa r.pauses.length r.pc, .int .i64 r.fw, .int .i64 r.fp, .int .i64 r.wh, .int .i64 r.pl] 27)), y.w.cell? ⟨x.w.heap.size, 1, none⟩ = some (.int .i64 r.rd) := fun y => Since.cell (by simp [go_sem]) (by first | (simp; done) | (simp; omega)) y
    have hb0_2 : ∀ y : Since (x.w.alloc (.cells #[.int .i64 r.id, .int .i64 r.rd, .int .i64 r.s0, .int .i64 r.s1, .int .i64 r.e0, .int .i64 r.e1, .bool r.op, .slice r.la r.legs.length r.lc, .slice r.pa r.pauses.length r.pc, .int .i64 r.fw, .int .i64 r.fp, .int .i64 r.wh, .int .i64 r.pl] 27)), y.w.cell? ⟨x.w.heap.size, 2, none⟩ = some (.int .i64 r.s0) := fun y => Since.cell (by simp [go_sem]) (by first | (simp; done) | (simp; omega)) y
    have hb0_3 : ∀ y : Since (x.w.alloc (.cells #[.int .i64 r.id, .int .i64 r.rd, .int .i64 r.s0, .int .i64 r.s1, .int .i64 r.e0, .int .i64 r.e1, .bool r.op, .slice r.la r.legs.length r.lc, .slice r.pa r.pauses.length r.pc, .int .i64 r.fw, .int .i64 r.fp, .int .i64 r.wh, .int .i64 r.pl] 27)), y.w.cell? ⟨x.w.heap.size, 3, none⟩ = some (.int .i64 r.s1) := fun y => Since.cell (by simp [go_sem]) (by first | (simp; done) | (simp; omega)) y
    have hb0_4 : ∀ y : Since (x.w.alloc (.cells #[.int .i64 r.id, .int .i64 r.rd, .int .i64 r.s0, .int .i64 r.s1, .int .i64 r.e0, .int .i64 r.e1, .bool r.op, .slice r.la r.legs.length r.lc, .slice r.pa r.pauses.length r.pc, .int .i64 r.fw, .int .i64 r.fp, .int .i64 r.wh, .int .i64 r.pl] 27)), y.w.cell? ⟨x.w.heap.size, 4, none⟩ = some (.int .i64 r.e0) := fun y => Since.cell (by simp [go_sem]) (by first | (simp; done) | (simp; omega)) y
    have hb0_5 : ∀ y : Since (x.w.alloc (.cells #[.int .i64 r.id, .int .i64 r.rd, .int .i64 r.s0, .int .i64 r.s1, .int .i64 r.e0, .int .i64 r.e1, .bool r.op, .slice r.la r.legs.length r.lc, .slice r.pa r.pauses.length r.pc, .int .i64 r.fw, .int .i64 r.fp, .int .i64 r.wh, .int .i64 r.pl] 27)), y.w.cell? ⟨x.w.heap.size, 5, none⟩ = some (.int .i64 r.e1) := fun y => Since.cell (by simp [go_sem]) (by first | (simp; done) | (simp; omega)) y
    have hb0_6 : ∀ y : Since (x.w.alloc (.cells #[.int .i64 r.id, .int .i64 r.rd, .int .i64 r.s0, .int .i64 r.s1, .int .i64 r.e0, .int .i64 r.e1, .bool r.op, .slice r.la r.legs.length r.lc, .slice r.pa r.pauses.length r.pc, .int .i64 r.fw, .int .i64 r.fp, .int .i64 r.wh, .int .i64 r.pl] 27)), y.w.cell? ⟨x.w.heap.size, 6, none⟩ = some (.bool r.op) := fun y => Since.cell (by simp [go_sem]) (by first | (simp; done) | (simp; omega)) y
    have hb0_7 : ∀ y : Since (x.w.alloc (.cells #[.int .i64 r.id, .int .i64 r.rd, .int .i64 r.s0, .int .i64 r.s1, .int .i64 r.e0, .int .i64 r.e1, .bool r.op, .slice r.la r.legs.length r.lc, .slice r.pa r.pauses.length r.pc, .int .i64 r.fw, .int .i64 r.fp, .int .i64 r.wh, .int .i64 r.pl] 27)), y.w.cell? ⟨x.w.heap.size, 7, none⟩ = some (.slice r.la r.legs.length r.lc) := fun y => Since.cell (by simp [go_sem]) (by first | (simp; done) | (simp; omega)) y
    have hb0_8 : ∀ y : Since (x.w.alloc (.cells #[.int .i64 r.id, .int .i64 r.rd, .int .i64 r.s0, .int .i64 r.s1, .int .i64 r.e0, .int .i64 r.e1, .bool r.op, .slice r.la r.legs.length r.lc, .slice r.pa r.pauses.length r.pc, .int .i64 r.fw, .int .i64 r.fp, .int .i64 r.wh, .int .i64 r.pl] 27)), y.w.cell? ⟨x.w.heap.size, 8, none⟩ = some (.slice r.pa r.pauses.length r.pc) := fun y => Since.cell (by simp [go_sem]) (by first | (simp; done) | (simp; omega)) y
    have hb0_9 : ∀ y : Since (x.w.alloc (.cells #[.int .i64 r.id, .int .i64 r.rd, .int .i64 r.s0, .int .i64 r.s1, .int .i64 r.e0, .int .i64 r.e1, .bool r.op, .slice r.la r.legs.length r.lc, .slice r.pa r.pauses.length r.pc, .int .i64 r.fw, .int .i64 r.fp, .int .i64 r.wh, .int .i64 r.pl] 27)), y.w.cell? ⟨x.w.heap.size, 9, none⟩ = some (.int .i64 r.fw) := fun y => Since.cell (by simp [go_sem]) (by first | (simp; done) | (simp; omega)) y
    have hb0_10 : ∀ y : Since (x.w.alloc (.cells #[.int .i64 r.id, .int .i64 r.rd, .int .i64 r.s0, .int .i64 r.s1, .int .i64 r.e0, .int .i64 r.e1, .bool r.op, .slice r.la r.legs.length r.lc, .slice r.pa r.pauses.length r.pc, .int .i64 r.fw, .int .i64 r.fp, .int .i64 r.wh, .int .i64 r.pl] 27)), y.w.cell? ⟨x.w.heap.size, 10, none⟩ = some (.int .i64 r.fp) := fun y => Since.cell (by simp [go_sem]) (by first | (simp; done) | (simp; omega)) y
    have hb0_11 : ∀ y : Since (x.w.alloc (.cells #[.int .i64 r.id, .int .i64 r.rd, .int .i64 r.s0, .int .i64 r.s1, .int .i64 r.e0, .int .i64 r.e1, .bool r.op, .slice r.la r.legs.length r.lc, .slice r.pa r.pauses.length r.pc, .int .i64 r.fw, .int .i64 r.fp, .int .i64 r.wh, .int .i64 r.pl] 27)), y.w.cell? ⟨x.w.heap.size, 11, none⟩ = some (.int .i64 r.wh) := fun y => Since.cell (by simp [go_sem]) (by first | (simp; done) | (simp; omega)) y
    have hb0_12 : ∀ y : Since (x.w.alloc (.cells #[.int .i64 r.id, .int .i64 r.rd, .int .i64 r.s0, .int .i64 r.s1, .int .i64 r.e0, .int .i64 r.e1, .bool r.op, .slice r.la r.legs.length r.lc, .slice r.pa r.pauses.length r.pc, .int .i64 r.fw, .int .i64 r.fp, .int .i64 r.wh, .int .i64 r.pl] 27)), y.w.cell? ⟨x.w.heap.size, 12, none⟩ = some (.int .i64 r.pl) := fun y => Since.cell (by simp [go_sem]) (by first | (simp; done) | (simp; omega)) y
    have hf0 : ∀ (y : Since (x.w.alloc (.cells #[.int .i64 r.id, .int .i64 r.rd, .int .i64 r.s0, .int .i64 r.s1, .int .i64 r.e0, .int .i64 r.e1, .bool r.op, .slice r.la r.legs.length r.lc, .slice r.pa r.pauses.length r.pc, .int .i64 r.fw, .int .i64 r.fp, .int .i64 r.wh, .int .i64 r.pl] 27))) (o : Nat), y.w.frozen? ⟨x.w.heap.size, o, none⟩ = false := fun y o => Since.free (by simp [go_sem]) (by first | (simp; done) | (simp; omega)) y
    have hWup : ∃ z : Since w, (x.w.alloc (.cells #[.int .i64 r.id, .int .i64 r.rd, .int .i64 r.s0, .int .i64 r.s1, .int .i64 r.e0, .int .i64 r.e1, .bool r.op, .slice r.la r.legs.length r.lc, .slice r.pa r.pauses.length r.pc, .int .i64 r.fw, .int .i64 r.fp, .int .i64 r.wh, .int .i64 r.pl] 27)) = z.w := x.alloc _
    obtain ⟨y0, hy0⟩ := Since.refl (x.w.alloc (.cells #[.int .i64 r.id, .int .i64 r.rd, .int .i64 r.s0, .int .i64 r.s1, .int .i64 r.e0, .int .i64 r.e1, .bool r.op, .slice r.la r.legs.length r.lc, .slice r.pa r.pauses.length r.pc, .int .i64 r.fw, .int .i64 r.fp, .int .i64 r.wh, .int .i64 r.pl] 27))
    have Hbx := Lib.hid (And.intro x.b.size (show x.w.heap.size + 1 = (x.w.alloc (.cells #[.int .i64 r.id, .int .i64 r.rd, .int .i64 r.s0, .int .i64 r.s1, .int .i64 r.e0, .int .i64 r.e1, .bool r.op, .slice r.la r.legs.length r.lc, .slice r.pa r.pauses.length r.pc, .int .i64 r.fw, .int .i64 r.fp, .int .i64 r.wh, .int .i64 r.pl] 27)).heap.size from by simp))
    generalize hW : (x.w.alloc (.cells #[.int .i64 r.id, .int .i64 r.rd, .int .i64 r.s0, .int .i64 r.s1, .int .i64 r.e0, .int .i64 r.e1, .bool r.op, .slice r.la r.legs.length r.lc, .slice r.pa r.pauses.length r.pc, .int .i64 r.fw, .int .i64 r.fp, .int .i64 r.wh, .int .i64 r.pl] 27)) = W at *
    clear hW
    generalize x.w.heap.size = bx at *
    have Hup := Lib.hid (Since.up hWup)
    rw [hy0]
    clear hy0
    replace H := Lib.hid (H.out.to hWup)
    clear hWup
    go_wp2_with (first | (go_at_call 10; ((with_reducible refine (Hf.out W y0 H.out).mono ?_); rintro _ _ ⟨rfl, y1, rfl⟩)) | (go_at_call 11; ((with_reducible refine (awake_calls W y1).mono ?_); rintro _ _ ⟨rfl, y2, rfl⟩)))
    go_ret
    exact ⟨rfl, Hup.out y2⟩
  | true =>
    rw [hfw] at Hf
    have hpl : r.pauses.length ≤ 100 := by
      rw [Hfew.out, Bool.and_eq_true, decide_eq_true_eq, decide_eq_true_eq] at hfw; exact hfw.2
    clear hfw Hfew
    have hee : (ivE r != ivE r) = false := by simp
    have hee2 : (ivE r == ivE r) = true := by simp
    go_enter Try.func4, Try.ntmps4
    go_upto_region 1 with fail
    have hb0_0 : ∀ y : Since (x.w.alloc (.cells #[.int .i64 r.id, .int .i64 r.rd, .int .i64 r.s0, .int .i64 r.s1, .int .i64 r.e0, .int .i64 r.e1, .bool r.op, .slice r.la r.legs.length r.lc, .slice r.pa r.pauses.length r.pc, .int .i64 r.fw, .int .i64 r.fp, .int .i64 r.wh, .int .i64 r.pl] 27)), y.w.cell? ⟨x.w.heap.size, 0, none⟩ = some (.int .i64 r.id) := fun y => Since.cell (by simp [go_sem]) (by first | (simp; done) | (simp; omega)) y
    have hb0_1 : ∀ y : Since (x.w.alloc (.cells #[.int .i64 r.id, .int .i64 r.rd, .int .i64 r.s0, .int .i64 r.s1, .int .i64 r.e0, .int .i64 r.e1, .bool r.op, .slice r.la r.legs.length r.lc, .slice r.pa r.pauses.length r.pc, .int .i64 r.fw, .int .i64 r.fp, .int .i64 r.wh, .int .i64 r.pl] 27)), y.w.cell? ⟨x.w.heap.size, 1, none⟩ = some (.int .i64 r.rd) := fun y => Since.cell (by simp [go_sem]) (by first | (simp; done) | (simp; omega)) y
    have hb0_2 : ∀ y : Since (x.w.alloc (.cells #[.int .i64 r.id, .int .i64 r.rd, .int .i64 r.s0, .int .i64 r.s1, .int .i64 r.e0, .int .i64 r.e1, .bool r.op, .slice r.la r.legs.length r.lc, .slice r.pa r.pauses.length r.pc, .int .i64 r.fw, .int .i64 r.fp, .int .i64 r.wh, .int .i64 r.pl] 27)), y.w.cell? ⟨x.w.heap.size, 2, none⟩ = some (.int .i64 r.s0) := fun y => Since.cell (by simp [go_sem]) (by first | (simp; done) | (simp; omega)) y
    have hb0_3 : ∀ y : Since (x.w.alloc (.cells #[.int .i64 r.id, .int .i64 r.rd, .int .i64 r.s0, .int .i64 r.s1, .int .i64 r.e0, .int .i64 r.e1, .bool r.op, .slice r.la r.legs.length r.lc, .slice r.pa r.pauses.length r.pc, .int .i64 r.fw, .int .i64 r.fp, .int .i64 r.wh, .int .i64 r.pl] 27)), y.w.cell? ⟨x.w.heap.size, 3, none⟩ = some (.int .i64 r.s1) := fun y => Since.cell (by simp [go_sem]) (by first | (simp; done) | (simp; omega)) y
    have hb0_4 : ∀ y : Since (x.w.alloc (.cells #[.int .i64 r.id, .int .i64 r.rd, .int .i64 r.s0, .int .i64 r.s1, .int .i64 r.e0, .int .i64 r.e1, .bool r.op, .slice r.la r.legs.length r.lc, .slice r.pa r.pauses.length r.pc, .int .i64 r.fw, .int .i64 r.fp, .int .i64 r.wh, .int .i64 r.pl] 27)), y.w.cell? ⟨x.w.heap.size, 4, none⟩ = some (.int .i64 r.e0) := fun y => Since.cell (by simp [go_sem]) (by first | (simp; done) | (simp; omega)) y
    have hb0_5 : ∀ y : Since (x.w.alloc (.cells #[.int .i64 r.id, .int .i64 r.rd, .int .i64 r.s0, .int .i64 r.s1, .int .i64 r.e0, .int .i64 r.e1, .bool r.op, .slice r.la r.legs.length r.lc, .slice r.pa r.pauses.length r.pc, .int .i64 r.fw, .int .i64 r.fp, .int .i64 r.wh, .int .i64 r.pl] 27)), y.w.cell? ⟨x.w.heap.size, 5, none⟩ = some (.int .i64 r.e1) := fun y => Since.cell (by simp [go_sem]) (by first | (simp; done) | (simp; omega)) y
    have hb0_6 : ∀ y : Since (x.w.alloc (.cells #[.int .i64 r.id, .int .i64 r.rd, .int .i64 r.s0, .int .i64 r.s1, .int .i64 r.e0, .int .i64 r.e1, .bool r.op, .slice r.la r.legs.length r.lc, .slice r.pa r.pauses.length r.pc, .int .i64 r.fw, .int .i64 r.fp, .int .i64 r.wh, .int .i64 r.pl] 27)), y.w.cell? ⟨x.w.heap.size, 6, none⟩ = some (.bool r.op) := fun y => Since.cell (by simp [go_sem]) (by first | (simp; done) | (simp; omega)) y
    have hb0_7 : ∀ y : Since (x.w.alloc (.cells #[.int .i64 r.id, .int .i64 r.rd, .int .i64 r.s0, .int .i64 r.s1, .int .i64 r.e0, .int .i64 r.e1, .bool r.op, .slice r.la r.legs.length r.lc, .slice r.pa r.pauses.length r.pc, .int .i64 r.fw, .int .i64 r.fp, .int .i64 r.wh, .int .i64 r.pl] 27)), y.w.cell? ⟨x.w.heap.size, 7, none⟩ = some (.slice r.la r.legs.length r.lc) := fun y => Since.cell (by simp [go_sem]) (by first | (simp; done) | (simp; omega)) y
    have hb0_8 : ∀ y : Since (x.w.alloc (.cells #[.int .i64 r.id, .int .i64 r.rd, .int .i64 r.s0, .int .i64 r.s1, .int .i64 r.e0, .int .i64 r.e1, .bool r.op, .slice r.la r.legs.length r.lc, .slice r.pa r.pauses.length r.pc, .int .i64 r.fw, .int .i64 r.fp, .int .i64 r.wh, .int .i64 r.pl] 27)), y.w.cell? ⟨x.w.heap.size, 8, none⟩ = some (.slice r.pa r.pauses.length r.pc) := fun y => Since.cell (by simp [go_sem]) (by first | (simp; done) | (simp; omega)) y
    have hb0_9 : ∀ y : Since (x.w.alloc (.cells #[.int .i64 r.id, .int .i64 r.rd, .int .i64 r.s0, .int .i64 r.s1, .int .i64 r.e0, .int .i64 r.e1, .bool r.op, .slice r.la r.legs.length r.lc, .slice r.pa r.pauses.length r.pc, .int .i64 r.fw, .int .i64 r.fp, .int .i64 r.wh, .int .i64 r.pl] 27)), y.w.cell? ⟨x.w.heap.size, 9, none⟩ = some (.int .i64 r.fw) := fun y => Since.cell (by simp [go_sem]) (by first | (simp; done) | (simp; omega)) y
    have hb0_10 : ∀ y : Since (x.w.alloc (.cells #[.int .i64 r.id, .int .i64 r.rd, .int .i64 r.s0, .int .i64 r.s1, .int .i64 r.e0, .int .i64 r.e1, .bool r.op, .slice r.la r.legs.length r.lc, .slice r.pa r.pauses.length r.pc, .int .i64 r.fw, .int .i64 r.fp, .int .i64 r.wh, .int .i64 r.pl] 27)), y.w.cell? ⟨x.w.heap.size, 10, none⟩ = some (.int .i64 r.fp) := fun y => Since.cell (by simp [go_sem]) (by first | (simp; done) | (simp; omega)) y
    have hb0_11 : ∀ y : Since (x.w.alloc (.cells #[.int .i64 r.id, .int .i64 r.rd, .int .i64 r.s0, .int .i64 r.s1, .int .i64 r.e0, .int .i64 r.e1, .bool r.op, .slice r.la r.legs.length r.lc, .slice r.pa r.pauses.length r.pc, .int .i64 r.fw, .int .i64 r.fp, .int .i64 r.wh, .int .i64 r.pl] 27)), y.w.cell? ⟨x.w.heap.size, 11, none⟩ = some (.int .i64 r.wh) := fun y => Since.cell (by simp [go_sem]) (by first | (simp; done) | (simp; omega)) y
    have hb0_12 : ∀ y : Since (x.w.alloc (.cells #[.int .i64 r.id, .int .i64 r.rd, .int .i64 r.s0, .int .i64 r.s1, .int .i64 r.e0, .int .i64 r.e1, .bool r.op, .slice r.la r.legs.length r.lc, .slice r.pa r.pauses.length r.pc, .int .i64 r.fw, .int .i64 r.fp, .int .i64 r.wh, .int .i64 r.pl] 27)), y.w.cell? ⟨x.w.heap.size, 12, none⟩ = some (.int .i64 r.pl) := fun y => Since.cell (by simp [go_sem]) (by first | (simp; done) | (simp; omega)) y
    have hf0 : ∀ (y : Since (x.w.alloc (.cells #[.int .i64 r.id, .int .i64 r.rd, .int .i64 r.s0, .int .i64 r.s1, .int .i64 r.e0, .int .i64 r.e1, .bool r.op, .slice r.la r.legs.length r.lc, .slice r.pa r.pauses.length r.pc, .int .i64 r.fw, .int .i64 r.fp, .int .i64 r.wh, .int .i64 r.pl] 27))) (o : Nat), y.w.frozen? ⟨x.w.heap.size, o, none⟩ = false := fun y o => Since.free (by simp [go_sem]) (by first | (simp; done) | (simp; omega)) y
    have hWup : ∃ z : Since w, (x.w.alloc (.cells #[.int .i64 r.id, .int .i64 r.rd, .int .i64 r.s0, .int .i64 r.s1, .int .i64 r.e0, .int .i64 r.e1, .bool r.op, .slice r.la r.legs.length r.lc, .slice r.pa r.pauses.length r.pc, .int .i64 r.fw, .int .i64 r.fp, .int .i64 r.wh, .int .i64 r.pl] 27)) = z.w := x.alloc _
    obtain ⟨y0, hy0⟩ := Since.refl (x.w.alloc (.cells #[.int .i64 r.id, .int .i64 r.rd, .int .i64 r.s0, .int .i64 r.s1, .int .i64 r.e0, .int .i64 r.e1, .bool r.op, .slice r.la r.legs.length r.lc, .slice r.pa r.pauses.length r.pc, .int .i64 r.fw, .int .i64 r.fp, .int .i64 r.wh, .int .i64 r.pl] 27))
    have Hbx := Lib.hid (And.intro x.b.size (show x.w.heap.size + 1 = (x.w.alloc (.cells #[.int .i64 r.id, .int .i64 r.rd, .int .i64 r.s0, .int .i64 r.s1, .int .i64 r.e0, .int .i64 r.e1, .bool r.op, .slice r.la r.legs.length r.lc, .slice r.pa r.pauses.length r.pc, .int .i64 r.fw, .int .i64 r.fp, .int .i64 r.wh, .int .i64 r.pl] 27)).heap.size from by simp))
    generalize hW : (x.w.alloc (.cells #[.int .i64 r.id, .int .i64 r.rd, .int .i64 r.s0, .int .i64 r.s1, .int .i64 r.e0, .int .i64 r.e1, .bool r.op, .slice r.la r.legs.length r.lc, .slice r.pa r.pauses.length r.pc, .int .i64 r.fw, .int .i64 r.fp, .int .i64 r.wh, .int .i64 r.pl] 27)) = W at *
    clear hW
    generalize x.w.heap.size = bx at *
    have Hup := Lib.hid (Since.up hWup)
    rw [hy0]
    clear hy0
    replace H := Lib.hid (H.out.to hWup)
    have HU := Lib.hid (show IsSince w W from hWup)
    clear hWup hf0 Hbx Hup
    go_upto_region 3 with (go_at_call 10; ((with_reducible refine (Hf.out W y0 H.out).mono ?_); rintro _ _ ⟨rfl, y1, rfl⟩))
    clear Hf
    have hs1 : (secR r == secR r) = true := by simp
    have hs2 : (secP r == secP r) = true := by simp
    have hs3 : (doubtV r == doubtV r) = true := by simp
    go_upto_region 4 with (go_at_call 21; ((with_reducible refine (seconds_s (W := W) _ (IsSince.of y1) r H.out).mono ?_); rintro _ _ ⟨rfl, y2, rfl, _⟩))
    go_upto_region 5 with (go_at_call 22; ((with_reducible refine (rseconds_s (W := W) _ (IsSince.of y2) r H.out).mono ?_); rintro _ _ ⟨rfl, y3, rfl, _⟩))
    go_upto_region 6 with (go_at_call 23; ((with_reducible refine (doubt_s (W := W) _ (IsSince.of y3) r H.out).mono ?_); rintro _ _ ⟨rfl, y4, rfl, _⟩))
    go_upto_region 7 with (go_at_call 24; ((with_reducible refine (rdoubt_s (W := W) _ (IsSince.of y4) r H.out).mono ?_); rintro _ _ ⟨rfl, y5, rfl, _⟩))
    go_wp2_with (go_at_call 11; ((with_reducible refine (awake_calls _ y5).mono ?_); rintro _ _ ⟨rfl, yz, rfl⟩))
    go_ret
    exact ⟨rfl, HU.out.trans (IsSince.of yz)⟩
end Go.Proofs.Ytefodfpnedcodaa
/- The laws of the certain and the possible time, third part: within; sets that have nothing in common. -/
namespace Go.Proofs.Ytefodfpnedcodaa
open Go.RowKit

theorem isSet_nil {S : Int → Bool} (h : ∀ t, S t = false) : IsSet [] S := ⟨norm_nil, fun t => by rw [h t]; rfl⟩
theorem minOk_nil {a b u : List Win} (hg : (badW a || badW b) = false) (hs : ∀ t, hasW a t = true → hasW b t = true) (k : MinOk a b u) : u = [] :=
  (k.ok hg).unique (isSet_nil fun t => by
    show (hasW a t && !hasW b t) = false
    cases h : hasW a t
    · rfl
    · rw [hs t h]; rfl)
theorem rcomOk_nil {a b u : List Win} (hg : (badW a || badW b) = false) (hs : ∀ t, hasW a t = true → hasW b t = false) (k : RComOk a b u) : u = [] :=
  (k.ok hg).unique (isSet_nil fun t => by
    show (hasW a t && hasW b t) = false
    cases h : hasW a t
    · rfl
    · rw [hs t h]; rfl)
set_option maxRecDepth 100000 in
set_option maxHeartbeats 4000000 in
theorem within_calls (w : World) (x : Since w) (pa : Option Addr) (a : List Win) (ca : Nat) (pb : Option Addr) (b : List Win) (cb : Nat) (ha : WinRow w pa a) (hb : WinRow w pb b) (hla : a.length ≤ 100000) (hlb : b.length ≤ 100000) (hg : (badW a || badW b) = false) (hs : ∀ t, hasW a t = true → hasW b t = true) :
    Calls Try.prog 28 #[.slice pa a.length ca, .slice pb b.length cb] x.w fun o w' => o = .returned (.bool true) ∧ ∃ y : Since w, w' = y.w := by
  have Hm := Lib.hid (rminus_calls w x pa a ca pb b cb ha hb hla hlb)
  have Hnil := Lib.hid (fun (u : List Win) (k : MinOk a b u) => minOk_nil hg hs k)
  have he : setE a b = 0 := by unfold setE; rw [hg]; rfl
  rw [he] at Hm
  clear ha hb hg hs he
  go_enter Try.func28, Try.ntmps28
  go_wp2_with fail
  refine Hm.out.mono ?_
  rintro _ _ ⟨ax, cx, u, y1, rfl, rfl, _, _, hu⟩
  obtain rfl := Hnil.out u hu
  clear hu
  go_wp2_with fail
  go_ret
  exact ⟨rfl, _, rfl⟩
theorem within_s {W : World} (w' : World) (hw : IsSince W w') (pa : Option Addr) (a : List Win) (n ca : Nat) (pb : Option Addr) (b : List Win) (m cb : Nat) (ha : WinRow w' pa a) (hb : WinRow w' pb b) (hn : a.length = n) (hm : b.length = m) (hla : n ≤ 100000) (hlb : m ≤ 100000) (hg : (badW a || badW b) = false) (hs : ∀ t, hasW a t = true → hasW b t = true) :
    Calls Try.prog 28 #[.slice pa n ca, .slice pb m cb] w' (Ends W w' (fun o => o = .returned (.bool true))) := by
  subst hn; subst hm
  exact later hw fun x => within_calls w' x pa a ca pb b cb ha hb hla hlb hg hs
theorem normal_s {W : World} (w' : World) (hw : IsSince W w') (a : Option Addr) (l : List Win) (c : Nat) (h : WinRow w' a l) (hl : l.length ≤ 100000) (hn : Norm l) :
    Calls Try.prog 30 #[.slice a l.length c] w' (Ends W w' (fun o => o = .returned (.bool true))) :=
  later hw fun x => normal_calls w' x a l c h (by omega) hn
theorem rcheck23_s {W : World} (w' : World) (hw : IsSince W w') (r : Ride) (h : r.At W) : Calls Try.prog 25 #[.agg #[.int .i64 r.id, .int .i64 r.rd, .int .i64 r.s0, .int .i64 r.s1, .int .i64 r.e0, .int .i64 r.e1, .bool r.op, .slice r.la r.legs.length r.lc, .slice r.pa r.pauses.length r.pc, .int .i64 r.fw, .int .i64 r.fp, .int .i64 r.wh, .int .i64 r.pl]] w' (Ends W w' (fun o => o = .returned (.int .i64 (ivE r)))) :=
  later hw fun x => rcheck23_calls w' x r (h.to hw)
theorem has_s {W : World} (w' : World) (hw : IsSince W w') (a : Option Addr) (l : List Win) (c : Nat) (t : Int) (h : WinRow w' a l) (hl : l.length ≤ 100000) :
    Calls Try.prog 31 #[.slice a l.length c, .int .i64 t] w' (Ends W w' (fun o => o = .returned (.bool (hasW l t)))) :=
  later hw fun x => hasW_calls w' x a l c t h (by omega)
theorem rcommon_no {W : World} (w' : World) (hw : IsSince W w') (pa : Option Addr) (a : List Win) (ca : Nat) (pb : Option Addr) (b : List Win) (cb : Nat) (ha : WinRow w' pa a) (hb : WinRow w' pb b) (hla : a.length ≤ 100000) (hlb : b.length ≤ 100000) (hg : (badW a || badW b) = false) (hs : ∀ t, hasW a t = true → hasW b t = false) :
    Calls Try.prog 27 #[.slice pa a.length ca, .slice pb b.length cb] w' (GotW W w' [] 0 0) := by
  refine (rcommon_calls w' (Since.self w') pa a ca pb b cb ha hb hla hlb).mono fun o w'' k => ?_
  have he : setE a b = 0 := by unfold setE; rw [hg]; rfl
  rw [he] at k
  exact gotW (fun u hu => rcomOk_nil hg hs hu) rfl (setResS hw k)
/-- what holds of the sets of a ride that is accepted and has ended -/
theorem pau_sure {r : Ride} {t : Int} (h : pauS r t = true) : inW t (sureW r) = true := by
  unfold pauS at h; rw [Bool.and_eq_true] at h; exact h.1
theorem rid_sure {r : Ride} {t : Int} (h : ridS r t = true) : inW t (sureW r) = true := by
  unfold ridS at h; rw [Bool.and_eq_true] at h; exact h.1
theorem pau_rid {r : Ride} (hr : RideOk r) {t : Int} (h : pauS r t = true) : ridS r t = false := by
  unfold pauS at h
  unfold ridS
  rw [Bool.and_eq_true, hasW_iff] at h
  obtain ⟨_, x, hx, h1, h2⟩ := h
  obtain ⟨p, hp, rfl⟩ := List.mem_map.1 hx
  have hk := hr.p p hp
  have h1' : p.f1 ≤ t := h1
  have h2' : t < max p.f1 p.t0 := h2
  have : hasW (r.pauses.map possP) t = true := hasW_iff.2 ⟨possP p, List.mem_map.2 ⟨p, hp, rfl⟩, by show p.f0 ≤ t; omega, by show t < max p.f0 p.t1; omega⟩
  rw [this, Bool.not_true, Bool.and_false]
theorem sure_poss {r : Ride} (he : ivE r = 0) {t : Int} (h : inW t (sureW r) = true) : inW t (possW r) = true := by
  have hr := rideOk_of he
  have hs : sureW r = ⟨r.s1, max r.s1 r.e0⟩ := if_pos he
  have hp : possW r = ⟨r.s0, r.e1⟩ := if_pos he
  rw [hs, inW_iff] at h
  rw [hp, inW_iff]
  have h1 : r.s1 ≤ t := h.1
  have h2 : t < max r.s1 r.e0 := h.2
  have := hr.s; have := hr.e
  show r.s0 ≤ t ∧ t < r.e1
  omega
theorem possW_vld {r : Ride} (he : ivE r = 0) : vldW (possW r) = true := by
  have hr := rideOk_of he
  have hp : possW r = ⟨r.s0, r.e1⟩ := if_pos he
  rw [hp, vldW_iff]
  have := hr.s; have := hr.e; have := hr.se
  show 0 ≤ r.s0 ∧ r.s0 ≤ r.e1 ∧ r.e1 ≤ _
  omega
theorem sureW_good {r : Ride} (he : ivE r = 0) : vldW (sureW r) = true := by
  rw [show sureW r = ⟨r.s1, max r.s1 r.e0⟩ from if_pos he]; exact sureW_vld (rideOk_of he)
end Go.Proofs.Ytefodfpnedcodaa
/- The laws of the certain and the possible time, sixth part: the least moment of an interval. -/
namespace Go.Proofs.Ytefodfpnedcodaa
open Go.RowKit

theorem least_calls (w : World) (x : Since w) (lo hi : Int) :
    Calls Try.prog 48 #[.agg #[.int .i64 lo, .int .i64 hi]] x.w fun o w' => o = .returned (.agg #[.int .i64 lo, .int .i64 lo]) ∧ ∃ y : Since w, w' = y.w := by
  go_enter Try.func48, Try.ntmps48
  go_wp2_with fail
  exact bodyPost_ret (v := .agg #[.int .i64 lo, .int .i64 lo]) (by simp [results, Try.results48, go_sem]) rfl ⟨rfl, Since.allocs x [.cells #[.int .i64 lo, .int .i64 hi] 23, .cells #[.int .i64 lo, .int .i64 lo] 23]⟩
theorem least_s {W : World} (w' : World) (hw : IsSince W w') (lo hi : Int) :
    Calls Try.prog 48 #[.agg #[.int .i64 lo, .int .i64 hi]] w' (Ends W w' (fun o => o = .returned (.agg #[.int .i64 lo, .int .i64 lo]))) :=
  later hw fun x => least_calls w' x lo hi
end Go.Proofs.Ytefodfpnedcodaa
/- A ride whose intervals are single moments, and a ride with smaller intervals: plain mathematics, no program in sight. -/
namespace Go.Proofs.Ytefodfpnedcodaa
open Go.RowKit

def exL (l : Leg) : Leg := ⟨l.b, l.f0, l.f0, l.t0, l.t0⟩
def exP (p : Pse) : Pse := ⟨p.f0, p.f0, p.t0, p.t0⟩
/-- the ride with the least moments of all intervals -/
def exR (r : Ride) (la : Option Addr) (lc : Nat) (pa : Option Addr) (pc : Nat) : Ride := ⟨r.id, r.rd, r.s0, r.s0, r.e0, r.e0, r.op, la, r.legs.map exL, lc, pa, r.pauses.map exP, pc, r.fw, r.fp, r.wh, r.pl⟩
theorem chain_ex : ∀ (l : List Leg) (a0 a1 e0 e1 : Int), chainL a0 a1 l e0 e1 = true → chainL a0 a0 (l.map exL) e0 e0 = true
  | [], a0, a1, e0, e1, h => by simp [chainL] at h ⊢; omega
  | x :: l, a0, a1, e0, e1, h => by
    simp only [chainL, Bool.and_eq_true, decide_eq_true_eq] at h
    have ih := chain_ex l x.t0 x.t1 e0 e1 h.2
    simp only [List.map_cons, chainL, Bool.and_eq_true, decide_eq_true_eq]
    exact ⟨⟨h.1.1, h.1.1⟩, ih⟩
theorem legsO_ex (op : Bool) : ∀ l : List Leg, legsO op (l.map exL) = legsO op l
  | [] => rfl
  | x :: l => by
    simp only [List.map_cons, legsO, legsO_ex op l, List.isEmpty_map]
    rfl
theorem psesO_ex (op : Bool) (e : Int) : ∀ (l : List Pse) (last : Int), psesO op e last (l.map exP) = psesO op e last l
  | [], _ => rfl
  | x :: l, last => by
    have ih := psesO_ex op e l x.t0
    simp only [List.map_cons, psesO, List.isEmpty_map]
    show (decide (last ≤ x.f0) && ((op && l.isEmpty && decide (x.t0 = 0)) || (decide (x.f0 ≤ x.t0) && psesO op e x.t0 (l.map exP)))) = _
    rw [ih]
theorem ex_ok {r : Ride} (h : ivE r = 0) (la : Option Addr) (lc : Nat) (pa : Option Addr) (pc : Nat) : ivE (exR r la lc pa pc) = 0 := by
  obtain ⟨h, hop⟩ := (ivE_zero r).1 h
  obtain ⟨h1, h2, h3, h4⟩ := (rideE_zero r).1 h
  refine (ivE_zero _).2 ⟨(rideE_zero _).2 ⟨?_, ?_, ?_, ?_⟩, hop⟩
  · simp only [rangedB, headV, Bool.and_eq_true, decide_eq_true_eq, List.all_eq_true] at h1 ⊢
    obtain ⟨⟨⟨⟨a, hs⟩, he⟩, hl⟩, hp⟩ := h1
    rw [vldS_iff] at hs he
    refine ⟨⟨⟨⟨a, (vldS_iff _ _).2 ?_⟩, (vldS_iff _ _).2 ?_⟩, fun x hx => ?_⟩, fun x hx => ?_⟩
    · show 0 ≤ r.s0 ∧ r.s0 ≤ r.s0 ∧ r.s0 ≤ 4294943999; omega
    · show 0 ≤ r.e0 ∧ r.e0 ≤ r.e0 ∧ r.e0 ≤ 4294943999; omega
    · obtain ⟨y, hy, rfl⟩ := List.mem_map.1 hx
      have := hl y hy
      simp only [legV, Bool.and_eq_true, vldS_iff] at this
      show legV (exL y) = true
      simp only [legV, Bool.and_eq_true, vldS_iff, exL]
      omega
    · obtain ⟨y, hy, rfl⟩ := List.mem_map.1 hx
      have := hp y hy
      simp only [pseV, Bool.and_eq_true, vldS_iff] at this
      show pseV (exP y) = true
      simp only [pseV, Bool.and_eq_true, vldS_iff, exP]
      omega
  · simp only [joinedB, Bool.and_eq_true, decide_eq_true_eq] at h2 ⊢
    show ((1 ≤ (r.legs.map exL).length ∧ (r.legs.map exL).length ≤ 512) ∧ (r.pauses.map exP).length ≤ 512) ∧ chainL r.s0 r.s0 (r.legs.map exL) r.e0 r.e0 = true
    rw [List.length_map, List.length_map]
    exact ⟨h2.1, chain_ex _ _ _ _ _ h2.2⟩
  · unfold orderedB at h3 ⊢
    show (legsO r.op (r.legs.map exL) && ((r.pauses.map exP).isEmpty || psesO r.op r.e0 r.s0 (r.pauses.map exP))) = true
    rw [legsO_ex, psesO_ex, List.isEmpty_map]
    exact h3
  · unfold stateB at h4 ⊢
    show ((r.op && !(decide (r.e0 = 0) && decide (r.e0 = 0))) || (r.op != decide (r.wh = 3))) = false
    rw [hop] at h4 ⊢
    simpa using h4
/-- no doubt; the seconds add up -/
theorem ex_sure {r : Ride} (h : ivE r = 0) (la : Option Addr) (lc : Nat) (pa : Option Addr) (pc : Nat) : sureW (exR r la lc pa pc) = ⟨r.s0, r.e0⟩ ∧ doubtV (exR r la lc pa pc) = 0 := by
  have hx := ex_ok h la lc pa pc
  have hr := rideOk_of h
  have hse := hr.se
  constructor
  · rw [show sureW (exR r la lc pa pc) = ⟨r.s0, max r.s0 r.e0⟩ from if_pos hx, show max r.s0 r.e0 = r.e0 by omega]
  · rw [show doubtV (exR r la lc pa pc) = r.e0 - r.s0 - (max r.s0 r.e0 - r.s0) from if_pos hx]; omega
theorem cnt_pos (S : Int → Bool) (n : Nat) : 0 ≤ cnt S n := by
  have := cnt_le (S := fun _ => false) (T := S) n fun t _ _ h => by cases h
  rwa [cnt_none n fun t _ _ => rfl] at this
theorem ex_cnt {r : Ride} (h : ivE r = 0) (la : Option Addr) (lc : Nat) (pa : Option Addr) (pc : Nat) (n : Nat) : cnt (ridS (exR r la lc pa pc)) n + cnt (pauS (exR r la lc pa pc)) n = min r.e0 n - min r.s0 n := by
  obtain ⟨hs, _⟩ := ex_sure h la lc pa pc
  have hr := rideOk_of h
  have hse := hr.se
  have hw := cnt_win ⟨r.s0, r.e0⟩ hr.s.1 (by show r.s0 ≤ r.e0; omega) n
  have hpq : (exR r la lc pa pc).pauses.map possP = (exR r la lc pa pc).pauses.map sureP := by
    refine List.map_congr_left fun p hp => ?_
    have hp' : p ∈ r.pauses.map exP := hp
    obtain ⟨q, hq, rfl⟩ := List.mem_map.1 hp'
    rfl
  have ha := cnt_add (S := fun t => inW t ⟨r.s0, r.e0⟩) (A := ridS (exR r la lc pa pc)) (B := pauS (exR r la lc pa pc)) n fun t _ _ => by
    unfold ridS pauS
    rw [hs, hpq]
    cases inW t ⟨r.s0, r.e0⟩ <;> cases hasW ((exR r la lc pa pc).pauses.map sureP) t <;> simp
  rw [← ha, hw]
theorem ex_secs {r : Ride} (h : ivE r = 0) (la : Option Addr) (lc : Nat) (pa : Option Addr) (pc : Nat) : secR (exR r la lc pa pc) + secP (exR r la lc pa pc) = r.e0 - r.s0 ∧ 0 ≤ secR (exR r la lc pa pc) ∧ 0 ≤ secP (exR r la lc pa pc) := by
  have hx := ex_ok h la lc pa pc
  have hr := rideOk_of h
  have h1 : secR (exR r la lc pa pc) = lenS (ridS (exR r la lc pa pc)) := if_pos hx
  have h2 : secP (exR r la lc pa pc) = lenS (pauS (exR r la lc pa pc)) := if_pos hx
  rw [h1, h2]
  have h3 : ∀ N : Nat, lenS (ridS (exR r la lc pa pc)) = cnt (ridS (exR r la lc pa pc)) N → lenS (pauS (exR r la lc pa pc)) = cnt (pauS (exR r la lc pa pc)) N → (4294943999 : Int) ≤ N → lenS (ridS (exR r la lc pa pc)) + lenS (pauS (exR r la lc pa pc)) = r.e0 - r.s0 ∧ 0 ≤ lenS (ridS (exR r la lc pa pc)) ∧ 0 ≤ lenS (pauS (exR r la lc pa pc)) := fun N a b hN => by
    rw [a, b]
    have := ex_cnt h la lc pa pc N
    have := cnt_pos (ridS (exR r la lc pa pc)) N
    have := cnt_pos (pauS (exR r la lc pa pc)) N
    have := hr.e
    have := hr.s
    omega
  exact h3 4294944000 (lenS_eq _) (lenS_eq _) (by decide)
end Go.Proofs.Ytefodfpnedcodaa
