/- The walks of passes, sixth part: the first pass that belongs to a ride. -/
import Derived.Test.YtbkfcdheckkjaaaPsW5
set_option linter.all false
namespace Go.Proofs.Ytbkfcdheckkjaaa
open Go.RowKit Go.ChangeMaps Go.Sort Go.Shelf Go.Lib

/-- a ride lies in block g -/
structure RideBox (w : World) (g : Nat) (r : Ride) : Prop where
  lt : g < w.heap.size
  c : ∀ j v, r.cs[j]? = some v → w.cell? ⟨g, j, none⟩ = some v
theorem RideBox.since {w : World} {g : Nat} {r : Ride} (h : RideBox w g r) (y : Since w) : RideBox y.w g r :=
  ⟨Nat.lt_of_lt_of_le h.lt y.b.size, fun j v hv => Since.cell (h.c j v hv) h.lt y⟩
theorem RideBox.cells {w : World} {g : Nat} {r : Ride} (h : RideBox w g r) : RideCells w g 0 r := by
  have hh : ∀ j v, r.cs[j]? = some v → ∀ y : Since w, y.w.cell? ⟨g, 0 + j, none⟩ = some v := fun j v hv y => by rw [Nat.zero_add]; exact Since.cell (h.c j v hv) h.lt y
  exact ⟨hh 0 _ rfl, hh 1 _ rfl, hh 2 _ rfl, hh 3 _ rfl, hh 4 _ rfl, hh 5 _ rfl, hh 6 _ rfl, hh 7 _ rfl, hh 8 _ rfl, hh 9 _ rfl, hh 10 _ rfl, hh 11 _ rfl, hh 12 _ rfl⟩
set_option maxRecDepth 100000 in
set_option maxHeartbeats 4000000 in
theorem pred_calls (w : World) (x : Since w) (p : Pass) (r : Ride) (g : Nat) (h : RideBox w g r) (h0 : 0 ≤ r.s0) (h1 : r.s0 ≤ 4294943999) :
    Calls Try.prog 41 #[.agg #[.int .i64 p.id, .int .i64 p.rd, .int .i64 p.f, .int .i64 p.t, .int .i64 p.n, .int .i64 p.s], .pointer (some ⟨g, 0, none⟩)] x.w fun o w' => o = .returned (.bool (vP p r)) ∧ ∃ y : Since w, w' = y.w := by
  have hc := h.cells
  have Hv := Lib.hid (show vP p r = (decide (p.rd = r.rd) && vpd p (day r)) from rfl)
  go_enter Try.func41, Try.ntmps41
  go_upto_region 1 with fail
  have hb0_0 : ∀ y : Since (x.w.alloc (.cells #[.int .i64 p.id, .int .i64 p.rd, .int .i64 p.f, .int .i64 p.t, .int .i64 p.n, .int .i64 p.s] 49)), y.w.cell? ⟨x.w.heap.size, 0, none⟩ = some (.int .i64 p.id) := fun y => Since.cell (by simp [go_sem]) (by first | (simp; done) | (simp; omega)) y
  have hb0_1 : ∀ y : Since (x.w.alloc (.cells #[.int .i64 p.id, .int .i64 p.rd, .int .i64 p.f, .int .i64 p.t, .int .i64 p.n, .int .i64 p.s] 49)), y.w.cell? ⟨x.w.heap.size, 1, none⟩ = some (.int .i64 p.rd) := fun y => Since.cell (by simp [go_sem]) (by first | (simp; done) | (simp; omega)) y
  have hb0_2 : ∀ y : Since (x.w.alloc (.cells #[.int .i64 p.id, .int .i64 p.rd, .int .i64 p.f, .int .i64 p.t, .int .i64 p.n, .int .i64 p.s] 49)), y.w.cell? ⟨x.w.heap.size, 2, none⟩ = some (.int .i64 p.f) := fun y => Since.cell (by simp [go_sem]) (by first | (simp; done) | (simp; omega)) y
  have hb0_3 : ∀ y : Since (x.w.alloc (.cells #[.int .i64 p.id, .int .i64 p.rd, .int .i64 p.f, .int .i64 p.t, .int .i64 p.n, .int .i64 p.s] 49)), y.w.cell? ⟨x.w.heap.size, 3, none⟩ = some (.int .i64 p.t) := fun y => Since.cell (by simp [go_sem]) (by first | (simp; done) | (simp; omega)) y
  have hb0_4 : ∀ y : Since (x.w.alloc (.cells #[.int .i64 p.id, .int .i64 p.rd, .int .i64 p.f, .int .i64 p.t, .int .i64 p.n, .int .i64 p.s] 49)), y.w.cell? ⟨x.w.heap.size, 4, none⟩ = some (.int .i64 p.n) := fun y => Since.cell (by simp [go_sem]) (by first | (simp; done) | (simp; omega)) y
  have hb0_5 : ∀ y : Since (x.w.alloc (.cells #[.int .i64 p.id, .int .i64 p.rd, .int .i64 p.f, .int .i64 p.t, .int .i64 p.n, .int .i64 p.s] 49)), y.w.cell? ⟨x.w.heap.size, 5, none⟩ = some (.int .i64 p.s) := fun y => Since.cell (by simp [go_sem]) (by first | (simp; done) | (simp; omega)) y
  have hf0 : ∀ (y : Since (x.w.alloc (.cells #[.int .i64 p.id, .int .i64 p.rd, .int .i64 p.f, .int .i64 p.t, .int .i64 p.n, .int .i64 p.s] 49))) (o : Nat), y.w.frozen? ⟨x.w.heap.size, o, none⟩ = false := fun y o => Since.free (by simp [go_sem]) (by first | (simp; done) | (simp; omega)) y
  have hWup : ∃ z : Since w, (x.w.alloc (.cells #[.int .i64 p.id, .int .i64 p.rd, .int .i64 p.f, .int .i64 p.t, .int .i64 p.n, .int .i64 p.s] 49)) = z.w := x.alloc _
  obtain ⟨y0, hy0⟩ := Since.refl (x.w.alloc (.cells #[.int .i64 p.id, .int .i64 p.rd, .int .i64 p.f, .int .i64 p.t, .int .i64 p.n, .int .i64 p.s] 49))
  have Hbx := Lib.hid (And.intro x.b.size (show x.w.heap.size + 1 = (x.w.alloc (.cells #[.int .i64 p.id, .int .i64 p.rd, .int .i64 p.f, .int .i64 p.t, .int .i64 p.n, .int .i64 p.s] 49)).heap.size from by simp))
  generalize hW : (x.w.alloc (.cells #[.int .i64 p.id, .int .i64 p.rd, .int .i64 p.f, .int .i64 p.t, .int .i64 p.n, .int .i64 p.s] 49)) = W at *
  clear hW
  generalize x.w.heap.size = bx at *
  have Hup := Lib.hid (Since.up hWup)
  rw [hy0]
  clear hy0
  have hcW : RideCells W g 0 r := by
    have := hWup
    obtain ⟨z, hz⟩ := this
    have hc2 : ∀ j v, r.cs[j]? = some v → ∀ y : Since W, y.w.cell? ⟨g, 0 + j, none⟩ = some v := fun j v hv y => by
      subst hz
      obtain ⟨q, e⟩ := z.trans y
      rw [Nat.zero_add, e]; exact Since.cell (h.c j v hv) h.lt q
    exact ⟨hc2 0 _ rfl, hc2 1 _ rfl, hc2 2 _ rfl, hc2 3 _ rfl, hc2 4 _ rfl, hc2 5 _ rfl, hc2 6 _ rfl, hc2 7 _ rfl, hc2 8 _ rfl, hc2 9 _ rfl, hc2 10 _ rfl, hc2 11 _ rfl, hc2 12 _ rfl⟩
  clear hWup hc h
  have ra0 := hcW.c0
  have ra1 := hcW.c1
  have ra2 := hcW.c2
  have ra3 := hcW.c3
  have ra4 := hcW.c4
  have ra5 := hcW.c5
  have ra6 := hcW.c6
  have ra7 := hcW.c7
  have ra8 := hcW.c8
  have ra9 := hcW.c9
  have ra10 := hcW.c10
  have ra11 := hcW.c11
  have ra12 := hcW.c12
  clear hcW
  simp only [Nat.zero_add] at ra1 ra2 ra3 ra4 ra5 ra6 ra7 ra8 ra9 ra10 ra11 ra12
  have Hd := Lib.hid (fun y : Since W => day_calls W y r h0 h1)
  have Hvc := Lib.hid (fun y : Since W => valid_calls W y p (day r))
  generalize day r = d at *
  by_cases he : p.rd = r.rd
  · have heb : (p.rd == r.rd) = true := by simpa using he
    rw [decide_eq_true he, Bool.true_and] at Hv
    clear he h0 h1
    generalize vpd p d = vb at *
    go_wp2_with fail
    refine wp_region_since (by kernel_rfl) (by kernel_rfl) ?_
    repeat (go_big_quiet_step ((first | (go_at_call 34; exact Hd.out _) | (go_at_call 33; exact Hvc.out _))))
    refine wpQuiet_nil ?_
    rintro _ ⟨y1, rfl⟩
    go_wp2_with fail
    go_ret
    exact ⟨ret_bool Hv.out.symm, Hup.out _⟩
  · have heb : (p.rd == r.rd) = false := by simpa using he
    rw [decide_eq_false he, Bool.false_and] at Hv
    clear he h0 h1
    go_wp2_with fail
    refine wp_region_since (by kernel_rfl) (by kernel_rfl) ?_
    repeat (go_big_quiet_step ((first | (go_at_call 34; exact Hd.out _) | (go_at_call 33; exact Hvc.out _))))
    refine wpQuiet_nil ?_
    rintro _ ⟨y1, rfl⟩
    go_wp2_with fail
    go_ret
    exact ⟨ret_bool Hv.out.symm, Hup.out _⟩
def idxV (lp : List Pass) (r : Ride) : Int := Lib.idxBy (fun _ y => vP y r) lp default
theorem idxV_cases (lp : List Pass) (r : Ride) : (idxV lp r = -1 ∧ ∀ j, j < lp.length → vP (pAt lp j) r = false) ∨ ∃ k : Nat, k < lp.length ∧ idxV lp r = k ∧ vP (pAt lp k) r = true ∧ ∀ j, j < k → vP (pAt lp j) r = false := by
  have hb : ∀ j, j < lp.length → lp[j]! = pAt lp j := fun j hj => by
    rw [getElem!_pos lp j hj]; unfold pAt; rw [List.getD_eq_getElem?_getD, List.getElem?_eq_getElem hj]; rfl
  have hk : ∀ n, n ≤ lp.length → (∃ k : Nat, k < n ∧ vP (pAt lp k) r = true ∧ ∀ j, j < k → vP (pAt lp j) r = false) ∨ ∀ j, j < n → vP (pAt lp j) r = false := by
    intro n
    induction n with
    | zero => intro _; exact .inr fun j hj => by omega
    | succ n ih =>
      intro hn
      rcases ih (by omega) with ⟨k, h1, h2, h3⟩ | h
      · exact .inl ⟨k, by omega, h2, h3⟩
      · cases hv : vP (pAt lp n) r
        · exact .inr fun j hj => by
            by_cases hjn : j < n
            · exact h j hjn
            · obtain rfl : j = n := by omega
              exact hv
        · exact .inl ⟨n, by omega, hv, h⟩
  rcases hk lp.length (Nat.le_refl _) with ⟨k, h1, h2, h3⟩ | h
  · refine .inr ⟨k, h1, ?_, h2, h3⟩
    have := Lib.idxBy_hit (fun _ y => vP y r) lp lp.length k default h1 (Nat.le_refl _) (by rw [hb k h1]; exact h2) (fun j hj => by rw [hb j (by omega)]; exact h3 j hj)
    rwa [List.take_length] at this
  · refine .inl ⟨?_, h⟩
    have := Lib.idxBy_miss (fun _ y => vP y r) lp lp.length default (fun j hj => by rw [hb j hj]; exact h j hj)
    rwa [List.take_length] at this
set_option maxHeartbeats 4000000 in
theorem idx_calls (w : World) (x : Since w) (pa : Option Addr) (lp : List Pass) (pc : Nat) (g : Nat) (r : Ride) (hp : PassRow w pa lp) (hpl : lp.length ≤ 9223372036854775807) (h : RideBox w g r) (h0 : 0 ≤ r.s0) (h1 : r.s0 ≤ 4294943999) :
    Calls Try.prog 40 #[.slice pa lp.length pc, .func (.func 41) #[] #[.pointer (some ⟨g, 0, none⟩)]] x.w fun o w' => o = .returned (.int .i64 (idxV lp r)) ∧ ∃ y : Since w, w' = y.w := by
  by_cases hn : lp.length = 0
  · have hl : lp = [] := List.eq_nil_of_length_eq_zero hn
    subst hl
    have Hi := Lib.hid (show idxV [] r = -1 from rfl)
    clear hn hp h
    go_enter Try.func40, Try.ntmps40
    go_wp2_with fail
    go_loopw [8] (fun i wr => i = .int .i64 0 ∧ wr = x.w) (fun _ _ => 0)
    case atStart => exact ⟨rfl, rfl⟩
    case round =>
      obtain ⟨rfl, rfl⟩ := hrel
      go_wp2_with fail
      go_ret
      exact ⟨ret_int Hi.out.symm, _, rfl⟩
  · have eg : ∀ args w, (callFunc 41 args).run Try.prog w = .ok (.enter 41 args) w := enters_of Try.func41 (by kernel_rfl) rfl
    obtain ⟨e0, he0⟩ : ∃ e, lp[0]? = some e := ⟨_, List.getElem?_eq_getElem (by omega)⟩
    obtain ⟨b, off, rfl, hb, _⟩ := Since.els hp x 0 e0 he0
    have hc := AnyQ.slices_IndexFunc Try.idxPass 6 Try.isAgg49 Try.sizeOf49 Pass.cs Pass.len (fun p => vP p r) 41 #[.pointer (some ⟨g, 0, none⟩)] eg b off lp.length pc lp x.w (fun W p hW => by
      obtain ⟨y, hy⟩ := x.step hW
      subst hy
      refine (pred_calls x.w ⟨_, hW⟩ p r g (h.since x) h0 h1).mono ?_
      rintro _ w' ⟨rfl, z, rfl⟩
      exact ⟨rfl, z.b⟩) (Nat.le_refl _) hpl hb (fun j hj i v hv => by
      rw [getElem!_pos lp j hj] at hv
      obtain ⟨b', off', he, _, hcell⟩ := Since.els hp x j _ (List.getElem?_eq_getElem hj)
      simp at he
      obtain ⟨rfl, rfl⟩ := he
      exact hcell i v hv)
    change Calls Try.prog 40 _ _ _ at hc
    refine hc.mono ?_
    rintro _ w' ⟨rfl, hb⟩
    obtain ⟨y, rfl⟩ := x.step hb
    refine ⟨?_, y, rfl⟩
    rw [List.take_length]; rfl
end Go.Proofs.Ytbkfcdheckkjaaa
