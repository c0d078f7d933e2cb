/- The laws of passes, second part: turned lists, the rides of a rider, what covers, what is counted. -/
import Derived.Test.YtbkfcdheckkjaaaPsL1
set_option linter.all false
namespace Go.Proofs.Ytbkfcdheckkjaaa
open Go.RowKit

def ListRes (w : World) (L : List Ride) (o : Ending) (w' : World) : Prop := ∃ (a : Option Addr) (c : Nat) (y : Since w), o = .returned (.slice a L.length c) ∧ w' = y.w ∧ RideRow y.w a L ∧ L.length ≤ c
set_option maxRecDepth 100000 in
set_option maxHeartbeats 8000000 in
theorem turned_calls (w : World) (x : Since w) (a : Option Addr) (R : List Ride) (c : Nat) (h : RideRow w a R) (hl : R.length ≤ 100000) :
    Calls Try.prog 24 #[.slice a R.length c] x.w (ListRes w R.reverse) := by
  have HR := Lib.hid h
  clear h
  go_enter Try.func24, Try.ntmps24
  go_wp2_with fail
  go_loopw [3, 4] (fun v i wr => ∃ (m : Nat) (z : Int) (y : Since w), m ≤ R.length ∧ z = (R.length : Int) - 1 - m ∧ i = .int .i64 z ∧ wr = y.w ∧ y.w.ownsRow w.heap.size 44 13 v m (flat Ride.cs (R.reverse.take m))) (fun _ i _ => (intOf i + 1).toNat)
  case atStart => exact ⟨0, _, _, by omega, by omega, rfl, rfl, by rw [List.take_zero]; exact ⟨rfl, .inl ⟨rfl, rfl⟩⟩⟩
  case round =>
    obtain ⟨m, z, y, hm, hz, rfl, rfl, hown⟩ := hrel
    have Hown := Lib.hid hown
    clear hown
    by_cases hlt : m < R.length
    · obtain ⟨j, rfl⟩ : ∃ j : Nat, z = j := ⟨z.toNat, by omega⟩
      have hj0 : (0 : Int) ≤ (j : Int) := by omega
      have hjl : (j : Int) < (R.length : Int) := by omega
      obtain ⟨e, he⟩ : ∃ e, R[j]? = some e := ⟨_, List.getElem?_eq_getElem (by omega)⟩
      have Htk := Lib.hid (show flat Ride.cs (R.reverse.take (m + 1)) = flat Ride.cs (R.reverse.take m) ++ e.cs by
        have : R.reverse[m]? = some e := by rw [List.getElem?_reverse hlt, show R.length - 1 - m = j by omega, he]
        rw [List.take_add_one, this, flat_append]
        show _ ++ flat Ride.cs [e] = _
        rw [flat_one])
      have Hz := Lib.hid (show (j : Int) - 1 = (R.length : Int) - 1 - (m + 1 : Nat) by omega)
      obtain ⟨b1, off1, rfl, h1'⟩ := Els.ride HR.out.c he
      have ra0 := h1'.c0
      have ra1 := h1'.c1
      have ra2 := h1'.c2
      have ra3 := h1'.c3
      have ra4 := h1'.c4
      have ra5 := h1'.c5
      have ra6 := h1'.c6
      have ra7 := h1'.c7
      have ra8 := h1'.c8
      have ra9 := h1'.c9
      have ra10 := h1'.c10
      have ra11 := h1'.c11
      have ra12 := h1'.c12
      clear h1' he hz
      go_wp2_with (at_builtin; (refine wpList_appendK (w0 := w) ?hw rfl _ _ 27 rfl w.heap.size (Nat.le_refl _) ?hb 44 zeroRide 136 sRide u3 m (flat Ride.cs (R.reverse.take m)) rfl ?hown ⟨y.w.heap.size, 0, none⟩ 1 1 e.cs rfl rfl ?hc (ride_one _) ?h63 ?hbytes ?_; rotate_right 1; intro v2 q2 hown4 _ hg4))
      case hw => exact IsSince.alloc (IsSince.of y) _
      case hb => have := y.b.size; simp; omega
      case hown => exact own_to Hown.out (IsSince.alloc (IsSince.self _) _)
      case hc => exact cell_new_at y.w e.cs _
      case h63 => unfold maxLen; omega
      case hbytes => omega
      rw [← Htk.out] at hown4
      have Hown4 := Lib.hid hown4
      clear hown4 hg4
      go_wp2_with fail
      go_roundw
      case rel => exact ⟨m + 1, _, q2, by omega, Hz.out, rfl, rfl, Hown4.out⟩
      case measure => simp [intOf] <;> omega
    · obtain rfl : m = R.length := by omega
      have hzn : z < 0 := by omega
      obtain ⟨hlen, a3, c3, rfl, hc3, he3, _, _⟩ := own_els Ride.len (by decide) Hown.out
      rw [List.take_of_length_le (by simp)] at he3 hc3
      have H3 := Lib.hid (And.intro hc3 he3)
      have Hl := Lib.hid (show (R.reverse.take R.length).length = R.reverse.length by rw [List.take_of_length_le (by simp)])
      clear hc3 he3 hlen hz
      go_wp2_with fail
      go_ret
      exact ⟨a3, c3, y, by rw [Hl.out]; rfl, rfl, ⟨H3.out.2, fun r hr => (HR.out.r r (by simpa using hr)).since y⟩, H3.out.1⟩
set_option maxRecDepth 100000 in
set_option maxHeartbeats 8000000 in
theorem of_calls (w : World) (x : Since w) (a : Option Addr) (R : List Ride) (c : Nat) (rd : Int) (h : RideRow w a R) (hl : R.length ≤ 100000) :
    Calls Try.prog 21 #[.slice a R.length c, .int .i64 rd] x.w (ListRes w (R.filter fun r => decide (r.rd = rd))) := by
  have HR := Lib.hid h
  clear h
  go_enter Try.func21, Try.ntmps21
  go_wp2_with fail
  go_loopw [5, 6] (fun v i wr => ∃ (k m : Nat) (y : Since w), k ≤ R.length ∧ i = .int .i64 k ∧ wr = y.w ∧ y.w.ownsRow w.heap.size 44 13 v m (flat Ride.cs ((R.take k).filter fun r => decide (r.rd = rd))) ∧ m ≤ k) (fun _ i _ => R.length - (intOf i).toNat)
  case atStart => exact ⟨0, 0, _, by omega, rfl, rfl, by rw [List.take_zero]; exact ⟨rfl, .inl ⟨rfl, rfl⟩⟩, by omega⟩
  case round =>
    obtain ⟨k, m, y, hk, rfl, rfl, hown, hmk⟩ := hrel
    have Hown := Lib.hid hown
    clear hown
    by_cases hlt : k < R.length
    · have hk0 : (0 : Int) ≤ (k : Int) := by omega
      have hkl : (k : Int) < (R.length : Int) := by omega
      obtain ⟨e, he⟩ : ∃ e, R[k]? = some e := ⟨_, List.getElem?_eq_getElem (by omega)⟩
      have Htk := Lib.hid (show (R.take (k + 1)).filter (fun r => decide (r.rd = rd)) = (R.take k).filter (fun r => decide (r.rd = rd)) ++ [e].filter (fun r => decide (r.rd = rd)) by
        rw [List.take_add_one, he, List.filter_append]; rfl)
      obtain ⟨b1, off1, rfl, h1'⟩ := Els.ride HR.out.c he
      have ra0 := h1'.c0
      have ra1 := h1'.c1
      have ra2 := h1'.c2
      have ra3 := h1'.c3
      have ra4 := h1'.c4
      have ra5 := h1'.c5
      have ra6 := h1'.c6
      have ra7 := h1'.c7
      have ra8 := h1'.c8
      have ra9 := h1'.c9
      have ra10 := h1'.c10
      have ra11 := h1'.c11
      have ra12 := h1'.c12
      clear h1' he
      by_cases hr : e.rd = rd
      · have hrb : (e.rd == rd) = true := by simpa using hr
        have Hf := Lib.hid (show flat Ride.cs ((R.take (k + 1)).filter fun r => decide (r.rd = rd)) = flat Ride.cs ((R.take k).filter fun r => decide (r.rd = rd)) ++ e.cs by
          rw [Htk.out, flat_append, List.filter_cons, if_pos (by simpa using hr), List.filter_nil, flat_one])
        clear hr Htk
        go_wp2_with (at_builtin; (refine wpList_appendK (w0 := w) ?hw rfl _ _ 27 rfl w.heap.size (Nat.le_refl _) ?hb 44 zeroRide 136 sRide u5 m (flat Ride.cs ((R.take k).filter fun r => decide (r.rd = rd))) rfl ?hown ⟨y.w.heap.size, 0, none⟩ 1 1 e.cs rfl rfl ?hc (ride_one _) ?h63 ?hbytes ?_; rotate_right 1; intro v2 q2 hown4 _ hg4))
        case hw => exact IsSince.alloc (IsSince.of y) _
        case hb => have := y.b.size; simp; omega
        case hown => exact own_to Hown.out (IsSince.alloc (IsSince.self _) _)
        case hc => exact cell_new_at y.w e.cs _
        case h63 => unfold maxLen; omega
        case hbytes => omega
        rw [← Hf.out] at hown4
        have Hown4 := Lib.hid hown4
        clear hown4 hg4
        go_wp2_with fail
        go_roundw
        case rel => exact ⟨k + 1, m + 1, q2, by omega, by go_num, rfl, Hown4.out, by omega⟩
        case measure => simp [intOf] <;> omega
      · have hrb : (e.rd == rd) = false := by simpa using hr
        have Hf := Lib.hid (show (R.take (k + 1)).filter (fun r => decide (r.rd = rd)) = (R.take k).filter fun r => decide (r.rd = rd) by
          rw [Htk.out, List.filter_cons, if_neg (by simpa using hr), List.filter_nil, List.append_nil])
        clear hr Htk
        go_wp2_with fail
        go_roundw
        case rel => exact ⟨k + 1, m, y, by omega, by go_num, rfl, by rw [Hf.out]; exact Hown.out, by omega⟩
        case measure => simp [intOf] <;> omega
    · obtain rfl : k = R.length := by omega
      obtain ⟨hlen, a3, c3, rfl, hc3, he3, _, _⟩ := own_els Ride.len (by decide) Hown.out
      rw [List.take_length] at he3 hc3
      have H3 := Lib.hid (And.intro hc3 he3)
      have Hl := Lib.hid (show ((R.take R.length).filter fun r => decide (r.rd = rd)).length = (R.filter fun r => decide (r.rd = rd)).length by rw [List.take_length])
      clear hc3 he3 hlen
      go_wp2_with fail
      go_ret
      exact ⟨a3, c3, y, by rw [Hl.out]; rfl, rfl, ⟨H3.out.2, fun r hr => (HR.out.r r ((List.mem_filter.1 hr).1)).since y⟩, H3.out.1⟩
set_option maxRecDepth 100000 in
set_option maxHeartbeats 4000000 in
theorem covers_calls (w : World) (x : Since w) (p : Pass) (r : Ride) (h0 : 0 ≤ r.s0) (h1 : r.s0 ≤ 4294943999) :
    Calls Try.prog 19 #[.agg #[.int .i64 p.id, .int .i64 p.rd, .int .i64 p.f, .int .i64 p.t, .int .i64 p.n, .int .i64 p.s], .agg #[.int .i64 r.id, .int .i64 r.rd, .int .i64 r.s0, .int .i64 r.s1, .int .i64 r.e0, .int .i64 r.e1, .bool r.op, .slice r.la r.legs.length r.lc, .slice r.pa r.pauses.length r.pc, .int .i64 r.fw, .int .i64 r.fp, .int .i64 r.wh, .int .i64 r.pl]] x.w fun o w' => o = .returned (.bool (vP p r)) ∧ ∃ y : Since w, w' = y.w := by
  have HG := Lib.hid (show vP p r = (decide (p.rd = r.rd) && (decide (p.f ≤ r.s0 / 86400) && decide (r.s0 / 86400 < p.t))) from rfl)
  go_enter Try.func19, Try.ntmps19
  go_upto_region 1 with fail
  have hb0_0 : ∀ y : Since ((x.w.alloc (.cells #[.int .i64 p.id, .int .i64 p.rd, .int .i64 p.f, .int .i64 p.t, .int .i64 p.n, .int .i64 p.s] 49)).alloc (.cells #[.int .i64 r.id, .int .i64 r.rd, .int .i64 r.s0, .int .i64 r.s1, .int .i64 r.e0, .int .i64 r.e1, .bool r.op, .slice r.la r.legs.length r.lc, .slice r.pa r.pauses.length r.pc, .int .i64 r.fw, .int .i64 r.fp, .int .i64 r.wh, .int .i64 r.pl] 44)), y.w.cell? ⟨x.w.heap.size, 0, none⟩ = some (.int .i64 p.id) := fun y => Since.cell (by simp [go_sem]) (by first | (simp; done) | (simp; omega)) y
  have hb0_1 : ∀ y : Since ((x.w.alloc (.cells #[.int .i64 p.id, .int .i64 p.rd, .int .i64 p.f, .int .i64 p.t, .int .i64 p.n, .int .i64 p.s] 49)).alloc (.cells #[.int .i64 r.id, .int .i64 r.rd, .int .i64 r.s0, .int .i64 r.s1, .int .i64 r.e0, .int .i64 r.e1, .bool r.op, .slice r.la r.legs.length r.lc, .slice r.pa r.pauses.length r.pc, .int .i64 r.fw, .int .i64 r.fp, .int .i64 r.wh, .int .i64 r.pl] 44)), y.w.cell? ⟨x.w.heap.size, 1, none⟩ = some (.int .i64 p.rd) := fun y => Since.cell (by simp [go_sem]) (by first | (simp; done) | (simp; omega)) y
  have hb0_2 : ∀ y : Since ((x.w.alloc (.cells #[.int .i64 p.id, .int .i64 p.rd, .int .i64 p.f, .int .i64 p.t, .int .i64 p.n, .int .i64 p.s] 49)).alloc (.cells #[.int .i64 r.id, .int .i64 r.rd, .int .i64 r.s0, .int .i64 r.s1, .int .i64 r.e0, .int .i64 r.e1, .bool r.op, .slice r.la r.legs.length r.lc, .slice r.pa r.pauses.length r.pc, .int .i64 r.fw, .int .i64 r.fp, .int .i64 r.wh, .int .i64 r.pl] 44)), y.w.cell? ⟨x.w.heap.size, 2, none⟩ = some (.int .i64 p.f) := fun y => Since.cell (by simp [go_sem]) (by first | (simp; done) | (simp; omega)) y
  have hb0_3 : ∀ y : Since ((x.w.alloc (.cells #[.int .i64 p.id, .int .i64 p.rd, .int .i64 p.f, .int .i64 p.t, .int .i64 p.n, .int .i64 p.s] 49)).alloc (.cells #[.int .i64 r.id, .int .i64 r.rd, .int .i64 r.s0, .int .i64 r.s1, .int .i64 r.e0, .int .i64 r.e1, .bool r.op, .slice r.la r.legs.length r.lc, .slice r.pa r.pauses.length r.pc, .int .i64 r.fw, .int .i64 r.fp, .int .i64 r.wh, .int .i64 r.pl] 44)), y.w.cell? ⟨x.w.heap.size, 3, none⟩ = some (.int .i64 p.t) := fun y => Since.cell (by simp [go_sem]) (by first | (simp; done) | (simp; omega)) y
  have hb0_4 : ∀ y : Since ((x.w.alloc (.cells #[.int .i64 p.id, .int .i64 p.rd, .int .i64 p.f, .int .i64 p.t, .int .i64 p.n, .int .i64 p.s] 49)).alloc (.cells #[.int .i64 r.id, .int .i64 r.rd, .int .i64 r.s0, .int .i64 r.s1, .int .i64 r.e0, .int .i64 r.e1, .bool r.op, .slice r.la r.legs.length r.lc, .slice r.pa r.pauses.length r.pc, .int .i64 r.fw, .int .i64 r.fp, .int .i64 r.wh, .int .i64 r.pl] 44)), y.w.cell? ⟨x.w.heap.size, 4, none⟩ = some (.int .i64 p.n) := fun y => Since.cell (by simp [go_sem]) (by first | (simp; done) | (simp; omega)) y
  have hb0_5 : ∀ y : Since ((x.w.alloc (.cells #[.int .i64 p.id, .int .i64 p.rd, .int .i64 p.f, .int .i64 p.t, .int .i64 p.n, .int .i64 p.s] 49)).alloc (.cells #[.int .i64 r.id, .int .i64 r.rd, .int .i64 r.s0, .int .i64 r.s1, .int .i64 r.e0, .int .i64 r.e1, .bool r.op, .slice r.la r.legs.length r.lc, .slice r.pa r.pauses.length r.pc, .int .i64 r.fw, .int .i64 r.fp, .int .i64 r.wh, .int .i64 r.pl] 44)), y.w.cell? ⟨x.w.heap.size, 5, none⟩ = some (.int .i64 p.s) := fun y => Since.cell (by simp [go_sem]) (by first | (simp; done) | (simp; omega)) y
  have hf0 : ∀ (y : Since ((x.w.alloc (.cells #[.int .i64 p.id, .int .i64 p.rd, .int .i64 p.f, .int .i64 p.t, .int .i64 p.n, .int .i64 p.s] 49)).alloc (.cells #[.int .i64 r.id, .int .i64 r.rd, .int .i64 r.s0, .int .i64 r.s1, .int .i64 r.e0, .int .i64 r.e1, .bool r.op, .slice r.la r.legs.length r.lc, .slice r.pa r.pauses.length r.pc, .int .i64 r.fw, .int .i64 r.fp, .int .i64 r.wh, .int .i64 r.pl] 44))) (o : Nat), y.w.frozen? ⟨x.w.heap.size, o, none⟩ = false := fun y o => Since.free (by simp [go_sem]) (by first | (simp; done) | (simp; omega)) y
  have hb1_0 : ∀ y : Since ((x.w.alloc (.cells #[.int .i64 p.id, .int .i64 p.rd, .int .i64 p.f, .int .i64 p.t, .int .i64 p.n, .int .i64 p.s] 49)).alloc (.cells #[.int .i64 r.id, .int .i64 r.rd, .int .i64 r.s0, .int .i64 r.s1, .int .i64 r.e0, .int .i64 r.e1, .bool r.op, .slice r.la r.legs.length r.lc, .slice r.pa r.pauses.length r.pc, .int .i64 r.fw, .int .i64 r.fp, .int .i64 r.wh, .int .i64 r.pl] 44)), y.w.cell? ⟨x.w.heap.size + 1, 0, none⟩ = some (.int .i64 r.id) := fun y => Since.cell (by simp [go_sem]) (by first | (simp; done) | (simp; omega)) y
  have hb1_1 : ∀ y : Since ((x.w.alloc (.cells #[.int .i64 p.id, .int .i64 p.rd, .int .i64 p.f, .int .i64 p.t, .int .i64 p.n, .int .i64 p.s] 49)).alloc (.cells #[.int .i64 r.id, .int .i64 r.rd, .int .i64 r.s0, .int .i64 r.s1, .int .i64 r.e0, .int .i64 r.e1, .bool r.op, .slice r.la r.legs.length r.lc, .slice r.pa r.pauses.length r.pc, .int .i64 r.fw, .int .i64 r.fp, .int .i64 r.wh, .int .i64 r.pl] 44)), y.w.cell? ⟨x.w.heap.size + 1, 1, none⟩ = some (.int .i64 r.rd) := fun y => Since.cell (by simp [go_sem]) (by first | (simp; done) | (simp; omega)) y
  have hb1_2 : ∀ y : Since ((x.w.alloc (.cells #[.int .i64 p.id, .int .i64 p.rd, .int .i64 p.f, .int .i64 p.t, .int .i64 p.n, .int .i64 p.s] 49)).alloc (.cells #[.int .i64 r.id, .int .i64 r.rd, .int .i64 r.s0, .int .i64 r.s1, .int .i64 r.e0, .int .i64 r.e1, .bool r.op, .slice r.la r.legs.length r.lc, .slice r.pa r.pauses.length r.pc, .int .i64 r.fw, .int .i64 r.fp, .int .i64 r.wh, .int .i64 r.pl] 44)), y.w.cell? ⟨x.w.heap.size + 1, 2, none⟩ = some (.int .i64 r.s0) := fun y => Since.cell (by simp [go_sem]) (by first | (simp; done) | (simp; omega)) y
  have hb1_3 : ∀ y : Since ((x.w.alloc (.cells #[.int .i64 p.id, .int .i64 p.rd, .int .i64 p.f, .int .i64 p.t, .int .i64 p.n, .int .i64 p.s] 49)).alloc (.cells #[.int .i64 r.id, .int .i64 r.rd, .int .i64 r.s0, .int .i64 r.s1, .int .i64 r.e0, .int .i64 r.e1, .bool r.op, .slice r.la r.legs.length r.lc, .slice r.pa r.pauses.length r.pc, .int .i64 r.fw, .int .i64 r.fp, .int .i64 r.wh, .int .i64 r.pl] 44)), y.w.cell? ⟨x.w.heap.size + 1, 3, none⟩ = some (.int .i64 r.s1) := fun y => Since.cell (by simp [go_sem]) (by first | (simp; done) | (simp; omega)) y
  have hb1_4 : ∀ y : Since ((x.w.alloc (.cells #[.int .i64 p.id, .int .i64 p.rd, .int .i64 p.f, .int .i64 p.t, .int .i64 p.n, .int .i64 p.s] 49)).alloc (.cells #[.int .i64 r.id, .int .i64 r.rd, .int .i64 r.s0, .int .i64 r.s1, .int .i64 r.e0, .int .i64 r.e1, .bool r.op, .slice r.la r.legs.length r.lc, .slice r.pa r.pauses.length r.pc, .int .i64 r.fw, .int .i64 r.fp, .int .i64 r.wh, .int .i64 r.pl] 44)), y.w.cell? ⟨x.w.heap.size + 1, 4, none⟩ = some (.int .i64 r.e0) := fun y => Since.cell (by simp [go_sem]) (by first | (simp; done) | (simp; omega)) y
  have hb1_5 : ∀ y : Since ((x.w.alloc (.cells #[.int .i64 p.id, .int .i64 p.rd, .int .i64 p.f, .int .i64 p.t, .int .i64 p.n, .int .i64 p.s] 49)).alloc (.cells #[.int .i64 r.id, .int .i64 r.rd, .int .i64 r.s0, .int .i64 r.s1, .int .i64 r.e0, .int .i64 r.e1, .bool r.op, .slice r.la r.legs.length r.lc, .slice r.pa r.pauses.length r.pc, .int .i64 r.fw, .int .i64 r.fp, .int .i64 r.wh, .int .i64 r.pl] 44)), y.w.cell? ⟨x.w.heap.size + 1, 5, none⟩ = some (.int .i64 r.e1) := fun y => Since.cell (by simp [go_sem]) (by first | (simp; done) | (simp; omega)) y
  have hb1_6 : ∀ y : Since ((x.w.alloc (.cells #[.int .i64 p.id, .int .i64 p.rd, .int .i64 p.f, .int .i64 p.t, .int .i64 p.n, .int .i64 p.s] 49)).alloc (.cells #[.int .i64 r.id, .int .i64 r.rd, .int .i64 r.s0, .int .i64 r.s1, .int .i64 r.e0, .int .i64 r.e1, .bool r.op, .slice r.la r.legs.length r.lc, .slice r.pa r.pauses.length r.pc, .int .i64 r.fw, .int .i64 r.fp, .int .i64 r.wh, .int .i64 r.pl] 44)), y.w.cell? ⟨x.w.heap.size + 1, 6, none⟩ = some (.bool r.op) := fun y => Since.cell (by simp [go_sem]) (by first | (simp; done) | (simp; omega)) y
  have hb1_7 : ∀ y : Since ((x.w.alloc (.cells #[.int .i64 p.id, .int .i64 p.rd, .int .i64 p.f, .int .i64 p.t, .int .i64 p.n, .int .i64 p.s] 49)).alloc (.cells #[.int .i64 r.id, .int .i64 r.rd, .int .i64 r.s0, .int .i64 r.s1, .int .i64 r.e0, .int .i64 r.e1, .bool r.op, .slice r.la r.legs.length r.lc, .slice r.pa r.pauses.length r.pc, .int .i64 r.fw, .int .i64 r.fp, .int .i64 r.wh, .int .i64 r.pl] 44)), y.w.cell? ⟨x.w.heap.size + 1, 7, none⟩ = some (.slice r.la r.legs.length r.lc) := fun y => Since.cell (by simp [go_sem]) (by first | (simp; done) | (simp; omega)) y
  have hb1_8 : ∀ y : Since ((x.w.alloc (.cells #[.int .i64 p.id, .int .i64 p.rd, .int .i64 p.f, .int .i64 p.t, .int .i64 p.n, .int .i64 p.s] 49)).alloc (.cells #[.int .i64 r.id, .int .i64 r.rd, .int .i64 r.s0, .int .i64 r.s1, .int .i64 r.e0, .int .i64 r.e1, .bool r.op, .slice r.la r.legs.length r.lc, .slice r.pa r.pauses.length r.pc, .int .i64 r.fw, .int .i64 r.fp, .int .i64 r.wh, .int .i64 r.pl] 44)), y.w.cell? ⟨x.w.heap.size + 1, 8, none⟩ = some (.slice r.pa r.pauses.length r.pc) := fun y => Since.cell (by simp [go_sem]) (by first | (simp; done) | (simp; omega)) y
  have hb1_9 : ∀ y : Since ((x.w.alloc (.cells #[.int .i64 p.id, .int .i64 p.rd, .int .i64 p.f, .int .i64 p.t, .int .i64 p.n, .int .i64 p.s] 49)).alloc (.cells #[.int .i64 r.id, .int .i64 r.rd, .int .i64 r.s0, .int .i64 r.s1, .int .i64 r.e0, .int .i64 r.e1, .bool r.op, .slice r.la r.legs.length r.lc, .slice r.pa r.pauses.length r.pc, .int .i64 r.fw, .int .i64 r.fp, .int .i64 r.wh, .int .i64 r.pl] 44)), y.w.cell? ⟨x.w.heap.size + 1, 9, none⟩ = some (.int .i64 r.fw) := fun y => Since.cell (by simp [go_sem]) (by first | (simp; done) | (simp; omega)) y
  have hb1_10 : ∀ y : Since ((x.w.alloc (.cells #[.int .i64 p.id, .int .i64 p.rd, .int .i64 p.f, .int .i64 p.t, .int .i64 p.n, .int .i64 p.s] 49)).alloc (.cells #[.int .i64 r.id, .int .i64 r.rd, .int .i64 r.s0, .int .i64 r.s1, .int .i64 r.e0, .int .i64 r.e1, .bool r.op, .slice r.la r.legs.length r.lc, .slice r.pa r.pauses.length r.pc, .int .i64 r.fw, .int .i64 r.fp, .int .i64 r.wh, .int .i64 r.pl] 44)), y.w.cell? ⟨x.w.heap.size + 1, 10, none⟩ = some (.int .i64 r.fp) := fun y => Since.cell (by simp [go_sem]) (by first | (simp; done) | (simp; omega)) y
  have hb1_11 : ∀ y : Since ((x.w.alloc (.cells #[.int .i64 p.id, .int .i64 p.rd, .int .i64 p.f, .int .i64 p.t, .int .i64 p.n, .int .i64 p.s] 49)).alloc (.cells #[.int .i64 r.id, .int .i64 r.rd, .int .i64 r.s0, .int .i64 r.s1, .int .i64 r.e0, .int .i64 r.e1, .bool r.op, .slice r.la r.legs.length r.lc, .slice r.pa r.pauses.length r.pc, .int .i64 r.fw, .int .i64 r.fp, .int .i64 r.wh, .int .i64 r.pl] 44)), y.w.cell? ⟨x.w.heap.size + 1, 11, none⟩ = some (.int .i64 r.wh) := fun y => Since.cell (by simp [go_sem]) (by first | (simp; done) | (simp; omega)) y
  have hb1_12 : ∀ y : Since ((x.w.alloc (.cells #[.int .i64 p.id, .int .i64 p.rd, .int .i64 p.f, .int .i64 p.t, .int .i64 p.n, .int .i64 p.s] 49)).alloc (.cells #[.int .i64 r.id, .int .i64 r.rd, .int .i64 r.s0, .int .i64 r.s1, .int .i64 r.e0, .int .i64 r.e1, .bool r.op, .slice r.la r.legs.length r.lc, .slice r.pa r.pauses.length r.pc, .int .i64 r.fw, .int .i64 r.fp, .int .i64 r.wh, .int .i64 r.pl] 44)), y.w.cell? ⟨x.w.heap.size + 1, 12, none⟩ = some (.int .i64 r.pl) := fun y => Since.cell (by simp [go_sem]) (by first | (simp; done) | (simp; omega)) y
  have hf1 : ∀ (y : Since ((x.w.alloc (.cells #[.int .i64 p.id, .int .i64 p.rd, .int .i64 p.f, .int .i64 p.t, .int .i64 p.n, .int .i64 p.s] 49)).alloc (.cells #[.int .i64 r.id, .int .i64 r.rd, .int .i64 r.s0, .int .i64 r.s1, .int .i64 r.e0, .int .i64 r.e1, .bool r.op, .slice r.la r.legs.length r.lc, .slice r.pa r.pauses.length r.pc, .int .i64 r.fw, .int .i64 r.fp, .int .i64 r.wh, .int .i64 r.pl] 44))) (o : Nat), y.w.frozen? ⟨x.w.heap.size + 1, o, none⟩ = false := fun y o => Since.free (by simp [go_sem]) (by first | (simp; done) | (simp; omega)) y
  have hWup : ∃ z : Since w, ((x.w.alloc (.cells #[.int .i64 p.id, .int .i64 p.rd, .int .i64 p.f, .int .i64 p.t, .int .i64 p.n, .int .i64 p.s] 49)).alloc (.cells #[.int .i64 r.id, .int .i64 r.rd, .int .i64 r.s0, .int .i64 r.s1, .int .i64 r.e0, .int .i64 r.e1, .bool r.op, .slice r.la r.legs.length r.lc, .slice r.pa r.pauses.length r.pc, .int .i64 r.fw, .int .i64 r.fp, .int .i64 r.wh, .int .i64 r.pl] 44)) = z.w := Since.allocs x [.cells #[.int .i64 p.id, .int .i64 p.rd, .int .i64 p.f, .int .i64 p.t, .int .i64 p.n, .int .i64 p.s] 49, .cells #[.int .i64 r.id, .int .i64 r.rd, .int .i64 r.s0, .int .i64 r.s1, .int .i64 r.e0, .int .i64 r.e1, .bool r.op, .slice r.la r.legs.length r.lc, .slice r.pa r.pauses.length r.pc, .int .i64 r.fw, .int .i64 r.fp, .int .i64 r.wh, .int .i64 r.pl] 44]
  obtain ⟨y0, hy0⟩ := Since.refl ((x.w.alloc (.cells #[.int .i64 p.id, .int .i64 p.rd, .int .i64 p.f, .int .i64 p.t, .int .i64 p.n, .int .i64 p.s] 49)).alloc (.cells #[.int .i64 r.id, .int .i64 r.rd, .int .i64 r.s0, .int .i64 r.s1, .int .i64 r.e0, .int .i64 r.e1, .bool r.op, .slice r.la r.legs.length r.lc, .slice r.pa r.pauses.length r.pc, .int .i64 r.fw, .int .i64 r.fp, .int .i64 r.wh, .int .i64 r.pl] 44))
  have Hbx := Lib.hid (And.intro x.b.size (show x.w.heap.size + 2 = ((x.w.alloc (.cells #[.int .i64 p.id, .int .i64 p.rd, .int .i64 p.f, .int .i64 p.t, .int .i64 p.n, .int .i64 p.s] 49)).alloc (.cells #[.int .i64 r.id, .int .i64 r.rd, .int .i64 r.s0, .int .i64 r.s1, .int .i64 r.e0, .int .i64 r.e1, .bool r.op, .slice r.la r.legs.length r.lc, .slice r.pa r.pauses.length r.pc, .int .i64 r.fw, .int .i64 r.fp, .int .i64 r.wh, .int .i64 r.pl] 44)).heap.size from by simp))
  generalize hW : ((x.w.alloc (.cells #[.int .i64 p.id, .int .i64 p.rd, .int .i64 p.f, .int .i64 p.t, .int .i64 p.n, .int .i64 p.s] 49)).alloc (.cells #[.int .i64 r.id, .int .i64 r.rd, .int .i64 r.s0, .int .i64 r.s1, .int .i64 r.e0, .int .i64 r.e1, .bool r.op, .slice r.la r.legs.length r.lc, .slice r.pa r.pauses.length r.pc, .int .i64 r.fw, .int .i64 r.fp, .int .i64 r.wh, .int .i64 r.pl] 44)) = W at *
  clear hW
  generalize x.w.heap.size = bx at *
  have Hup := Lib.hid (Since.up hWup)
  rw [hy0]
  clear hy0
  clear hWup
  clear hb0_0 hb0_4 hb0_5 hb1_0 hb1_3 hb1_4 hb1_5 hb1_6 hb1_7 hb1_8 hb1_9 hb1_10 hb1_11 hb1_12 hf0 hf1
  by_cases hrd : p.rd = r.rd
  · have hb : (p.rd == r.rd) = true := by simpa using hrd
    rw [decide_eq_true hrd, Bool.true_and] at HG
    clear hrd
    rcases (by omega : r.s0 / 86400 < p.f ∨ (p.f ≤ r.s0 / 86400 ∧ p.t ≤ r.s0 / 86400) ∨ (p.f ≤ r.s0 / 86400 ∧ r.s0 / 86400 < p.t)) with h | ⟨h, h'⟩ | ⟨h, h'⟩
    all_goals
      have Hr := Lib.hid (show vP p r = (decide (p.f ≤ r.s0 / 86400) && decide (r.s0 / 86400 < p.t)) from HG.out)
      clear HG
      go_wp2_with fail
      go_ret
      exact ⟨ret_bool (by rw [Hr.out]; simp; omega), Hup.out _⟩
  · have hb : (p.rd == r.rd) = false := by simpa using hrd
    have Hr := Lib.hid (show vP p r = false by rw [HG.out, decide_eq_false hrd]; rfl)
    clear hrd HG
    go_wp2_with fail
    go_ret
    exact ⟨ret_bool Hr.out.symm, Hup.out _⟩
/-- how many of the first m rides that are of the day of x and paid by pass k come after x -/
def aftTo (R : List Ride) (u : Nat → Int) (k : Int) (x : Ride) (m : Nat) : Nat := ((List.range m).filter fun j => decide (u j = k) && decide (day (rAt R j) = day x) && bef x (rAt R j)).length
theorem aftTo_next (R : List Ride) (u : Nat → Int) (k : Int) (x : Ride) (m : Nat) : aftTo R u k x (m + 1) = aftTo R u k x m + if (u m = k ∧ day (rAt R m) = day x) ∧ bef x (rAt R m) = true then 1 else 0 := by
  unfold aftTo
  rw [List.range_succ, List.filter_append, List.length_append]
  congr 1
  by_cases h : (u m = k ∧ day (rAt R m) = day x) ∧ bef x (rAt R m) = true
  · rw [if_pos h]; simp [List.filter_cons, h.1, h.2]
  · rw [if_neg h, List.filter_eq_nil_iff.2 (by
      intro j hj
      simp at hj; subst hj
      simpa using h)]
    rfl
theorem aftTo_le (R : List Ride) (u : Nat → Int) (k : Int) (x : Ride) (m : Nat) : aftTo R u k x m ≤ m := by
  have := List.length_filter_le (fun j => decide (u j = k) && decide (day (rAt R j) = day x) && bef x (rAt R j)) (List.range m)
  unfold aftTo; simpa using this
set_option maxRecDepth 100000 in
set_option maxHeartbeats 8000000 in
theorem count_calls (w : World) (x : Since w) (a : Option Addr) (R : List Ride) (c : Nat) (a2 : Option Addr) (us : List Int) (c2 : Nat) (kk : Int) (r : Ride) (h : RideRow w a R) (hu : IntRow w a2 us) (hn : R.length ≤ us.length) (hl : R.length ≤ 256) (hs0 : ∀ r ∈ R, 0 ≤ r.s0 ∧ r.s0 ≤ 4294943999) (h0 : 0 ≤ r.s0) (h1 : r.s0 ≤ 4294943999) :
    Calls Try.prog 18 #[.slice a R.length c, .slice a2 us.length c2, .int .i64 kk, .agg #[.int .i64 r.id, .int .i64 r.rd, .int .i64 r.s0, .int .i64 r.s1, .int .i64 r.e0, .int .i64 r.e1, .bool r.op, .slice r.la r.legs.length r.lc, .slice r.pa r.pauses.length r.pc, .int .i64 r.fw, .int .i64 r.fp, .int .i64 r.wh, .int .i64 r.pl]] x.w fun o w' => o = .returned (.tuple #[.int .i64 (cntU R (at0 us) kk (day r) : Nat), .int .i64 (aftTo R (at0 us) kk r R.length : Nat)]) ∧ ∃ y : Since w, w' = y.w := by
  have HL := Lib.hid h
  have HU := Lib.hid hu
  have Hs0 := Lib.hid hs0
  clear h hu hs0
  go_enter Try.func18, Try.ntmps18
  go_upto_region 1 with fail
  have hb0_0 : ∀ y : Since (x.w.alloc (.cells #[.int .i64 r.id, .int .i64 r.rd, .int .i64 r.s0, .int .i64 r.s1, .int .i64 r.e0, .int .i64 r.e1, .bool r.op, .slice r.la r.legs.length r.lc, .slice r.pa r.pauses.length r.pc, .int .i64 r.fw, .int .i64 r.fp, .int .i64 r.wh, .int .i64 r.pl] 44)), y.w.cell? ⟨x.w.heap.size, 0, none⟩ = some (.int .i64 r.id) := fun y => Since.cell (by simp [go_sem]) (by first | (simp; done) | (simp; omega)) y
  have hb0_1 : ∀ y : Since (x.w.alloc (.cells #[.int .i64 r.id, .int .i64 r.rd, .int .i64 r.s0, .int .i64 r.s1, .int .i64 r.e0, .int .i64 r.e1, .bool r.op, .slice r.la r.legs.length r.lc, .slice r.pa r.pauses.length r.pc, .int .i64 r.fw, .int .i64 r.fp, .int .i64 r.wh, .int .i64 r.pl] 44)), y.w.cell? ⟨x.w.heap.size, 1, none⟩ = some (.int .i64 r.rd) := fun y => Since.cell (by simp [go_sem]) (by first | (simp; done) | (simp; omega)) y
  have hb0_2 : ∀ y : Since (x.w.alloc (.cells #[.int .i64 r.id, .int .i64 r.rd, .int .i64 r.s0, .int .i64 r.s1, .int .i64 r.e0, .int .i64 r.e1, .bool r.op, .slice r.la r.legs.length r.lc, .slice r.pa r.pauses.length r.pc, .int .i64 r.fw, .int .i64 r.fp, .int .i64 r.wh, .int .i64 r.pl] 44)), y.w.cell? ⟨x.w.heap.size, 2, none⟩ = some (.int .i64 r.s0) := fun y => Since.cell (by simp [go_sem]) (by first | (simp; done) | (simp; omega)) y
  have hb0_3 : ∀ y : Since (x.w.alloc (.cells #[.int .i64 r.id, .int .i64 r.rd, .int .i64 r.s0, .int .i64 r.s1, .int .i64 r.e0, .int .i64 r.e1, .bool r.op, .slice r.la r.legs.length r.lc, .slice r.pa r.pauses.length r.pc, .int .i64 r.fw, .int .i64 r.fp, .int .i64 r.wh, .int .i64 r.pl] 44)), y.w.cell? ⟨x.w.heap.size, 3, none⟩ = some (.int .i64 r.s1) := fun y => Since.cell (by simp [go_sem]) (by first | (simp; done) | (simp; omega)) y
  have hb0_4 : ∀ y : Since (x.w.alloc (.cells #[.int .i64 r.id, .int .i64 r.rd, .int .i64 r.s0, .int .i64 r.s1, .int .i64 r.e0, .int .i64 r.e1, .bool r.op, .slice r.la r.legs.length r.lc, .slice r.pa r.pauses.length r.pc, .int .i64 r.fw, .int .i64 r.fp, .int .i64 r.wh, .int .i64 r.pl] 44)), y.w.cell? ⟨x.w.heap.size, 4, none⟩ = some (.int .i64 r.e0) := fun y => Since.cell (by simp [go_sem]) (by first | (simp; done) | (simp; omega)) y
  have hb0_5 : ∀ y : Since (x.w.alloc (.cells #[.int .i64 r.id, .int .i64 r.rd, .int .i64 r.s0, .int .i64 r.s1, .int .i64 r.e0, .int .i64 r.e1, .bool r.op, .slice r.la r.legs.length r.lc, .slice r.pa r.pauses.length r.pc, .int .i64 r.fw, .int .i64 r.fp, .int .i64 r.wh, .int .i64 r.pl] 44)), y.w.cell? ⟨x.w.heap.size, 5, none⟩ = some (.int .i64 r.e1) := fun y => Since.cell (by simp [go_sem]) (by first | (simp; done) | (simp; omega)) y
  have hb0_6 : ∀ y : Since (x.w.alloc (.cells #[.int .i64 r.id, .int .i64 r.rd, .int .i64 r.s0, .int .i64 r.s1, .int .i64 r.e0, .int .i64 r.e1, .bool r.op, .slice r.la r.legs.length r.lc, .slice r.pa r.pauses.length r.pc, .int .i64 r.fw, .int .i64 r.fp, .int .i64 r.wh, .int .i64 r.pl] 44)), y.w.cell? ⟨x.w.heap.size, 6, none⟩ = some (.bool r.op) := fun y => Since.cell (by simp [go_sem]) (by first | (simp; done) | (simp; omega)) y
  have hb0_7 : ∀ y : Since (x.w.alloc (.cells #[.int .i64 r.id, .int .i64 r.rd, .int .i64 r.s0, .int .i64 r.s1, .int .i64 r.e0, .int .i64 r.e1, .bool r.op, .slice r.la r.legs.length r.lc, .slice r.pa r.pauses.length r.pc, .int .i64 r.fw, .int .i64 r.fp, .int .i64 r.wh, .int .i64 r.pl] 44)), y.w.cell? ⟨x.w.heap.size, 7, none⟩ = some (.slice r.la r.legs.length r.lc) := fun y => Since.cell (by simp [go_sem]) (by first | (simp; done) | (simp; omega)) y
  have hb0_8 : ∀ y : Since (x.w.alloc (.cells #[.int .i64 r.id, .int .i64 r.rd, .int .i64 r.s0, .int .i64 r.s1, .int .i64 r.e0, .int .i64 r.e1, .bool r.op, .slice r.la r.legs.length r.lc, .slice r.pa r.pauses.length r.pc, .int .i64 r.fw, .int .i64 r.fp, .int .i64 r.wh, .int .i64 r.pl] 44)), y.w.cell? ⟨x.w.heap.size, 8, none⟩ = some (.slice r.pa r.pauses.length r.pc) := fun y => Since.cell (by simp [go_sem]) (by first | (simp; done) | (simp; omega)) y
  have hb0_9 : ∀ y : Since (x.w.alloc (.cells #[.int .i64 r.id, .int .i64 r.rd, .int .i64 r.s0, .int .i64 r.s1, .int .i64 r.e0, .int .i64 r.e1, .bool r.op, .slice r.la r.legs.length r.lc, .slice r.pa r.pauses.length r.pc, .int .i64 r.fw, .int .i64 r.fp, .int .i64 r.wh, .int .i64 r.pl] 44)), y.w.cell? ⟨x.w.heap.size, 9, none⟩ = some (.int .i64 r.fw) := fun y => Since.cell (by simp [go_sem]) (by first | (simp; done) | (simp; omega)) y
  have hb0_10 : ∀ y : Since (x.w.alloc (.cells #[.int .i64 r.id, .int .i64 r.rd, .int .i64 r.s0, .int .i64 r.s1, .int .i64 r.e0, .int .i64 r.e1, .bool r.op, .slice r.la r.legs.length r.lc, .slice r.pa r.pauses.length r.pc, .int .i64 r.fw, .int .i64 r.fp, .int .i64 r.wh, .int .i64 r.pl] 44)), y.w.cell? ⟨x.w.heap.size, 10, none⟩ = some (.int .i64 r.fp) := fun y => Since.cell (by simp [go_sem]) (by first | (simp; done) | (simp; omega)) y
  have hb0_11 : ∀ y : Since (x.w.alloc (.cells #[.int .i64 r.id, .int .i64 r.rd, .int .i64 r.s0, .int .i64 r.s1, .int .i64 r.e0, .int .i64 r.e1, .bool r.op, .slice r.la r.legs.length r.lc, .slice r.pa r.pauses.length r.pc, .int .i64 r.fw, .int .i64 r.fp, .int .i64 r.wh, .int .i64 r.pl] 44)), y.w.cell? ⟨x.w.heap.size, 11, none⟩ = some (.int .i64 r.wh) := fun y => Since.cell (by simp [go_sem]) (by first | (simp; done) | (simp; omega)) y
  have hb0_12 : ∀ y : Since (x.w.alloc (.cells #[.int .i64 r.id, .int .i64 r.rd, .int .i64 r.s0, .int .i64 r.s1, .int .i64 r.e0, .int .i64 r.e1, .bool r.op, .slice r.la r.legs.length r.lc, .slice r.pa r.pauses.length r.pc, .int .i64 r.fw, .int .i64 r.fp, .int .i64 r.wh, .int .i64 r.pl] 44)), y.w.cell? ⟨x.w.heap.size, 12, none⟩ = some (.int .i64 r.pl) := fun y => Since.cell (by simp [go_sem]) (by first | (simp; done) | (simp; omega)) y
  have hf0 : ∀ (y : Since (x.w.alloc (.cells #[.int .i64 r.id, .int .i64 r.rd, .int .i64 r.s0, .int .i64 r.s1, .int .i64 r.e0, .int .i64 r.e1, .bool r.op, .slice r.la r.legs.length r.lc, .slice r.pa r.pauses.length r.pc, .int .i64 r.fw, .int .i64 r.fp, .int .i64 r.wh, .int .i64 r.pl] 44))) (o : Nat), y.w.frozen? ⟨x.w.heap.size, o, none⟩ = false := fun y o => Since.free (by simp [go_sem]) (by first | (simp; done) | (simp; omega)) y
  have hWup : ∃ z : Since w, (x.w.alloc (.cells #[.int .i64 r.id, .int .i64 r.rd, .int .i64 r.s0, .int .i64 r.s1, .int .i64 r.e0, .int .i64 r.e1, .bool r.op, .slice r.la r.legs.length r.lc, .slice r.pa r.pauses.length r.pc, .int .i64 r.fw, .int .i64 r.fp, .int .i64 r.wh, .int .i64 r.pl] 44)) = z.w := x.alloc _
  obtain ⟨y0, hy0⟩ := Since.refl (x.w.alloc (.cells #[.int .i64 r.id, .int .i64 r.rd, .int .i64 r.s0, .int .i64 r.s1, .int .i64 r.e0, .int .i64 r.e1, .bool r.op, .slice r.la r.legs.length r.lc, .slice r.pa r.pauses.length r.pc, .int .i64 r.fw, .int .i64 r.fp, .int .i64 r.wh, .int .i64 r.pl] 44))
  have Hbx := Lib.hid (And.intro x.b.size (show x.w.heap.size + 1 = (x.w.alloc (.cells #[.int .i64 r.id, .int .i64 r.rd, .int .i64 r.s0, .int .i64 r.s1, .int .i64 r.e0, .int .i64 r.e1, .bool r.op, .slice r.la r.legs.length r.lc, .slice r.pa r.pauses.length r.pc, .int .i64 r.fw, .int .i64 r.fp, .int .i64 r.wh, .int .i64 r.pl] 44)).heap.size from by simp))
  generalize hW : (x.w.alloc (.cells #[.int .i64 r.id, .int .i64 r.rd, .int .i64 r.s0, .int .i64 r.s1, .int .i64 r.e0, .int .i64 r.e1, .bool r.op, .slice r.la r.legs.length r.lc, .slice r.pa r.pauses.length r.pc, .int .i64 r.fw, .int .i64 r.fp, .int .i64 r.wh, .int .i64 r.pl] 44)) = W at *
  clear hW
  generalize x.w.heap.size = bx at *
  have Hup := Lib.hid (Since.up hWup)
  rw [hy0]
  clear hy0
  replace HL := Lib.hid (HL.out.to hWup)
  replace HU := Lib.hid (HU.out.to hWup)
  clear hWup hf0
  have Hday := Lib.hid (show day r = r.s0 / 86400 from rfl)
  go_wp2_with fail
  go_loopw [10, 11, 12] (fun n f i wr => ∃ (k : Nat) (y : Since W), k ≤ R.length ∧ i = .int .i64 k ∧ n = .int .i64 (cntTo R (at0 us) kk (day r) k : Nat) ∧ f = .int .i64 (aftTo R (at0 us) kk r k : Nat) ∧ wr = y.w) (fun _ _ i _ => R.length - (intOf i).toNat)
  case atStart => exact ⟨0, _, by omega, rfl, rfl, rfl, rfl⟩
  case round =>
    obtain ⟨k, y, hk, rfl, rfl, rfl, rfl⟩ := hrel
    by_cases hlt : k < R.length
    · obtain ⟨e, he⟩ : ∃ e, R[k]? = some e := ⟨_, List.getElem?_eq_getElem hlt⟩
      obtain ⟨b1, off1, rfl, h1'⟩ := Els.ride HL.out.c he
      have ra0 := h1'.c0
      have ra1 := h1'.c1
      have ra2 := h1'.c2
      have ra3 := h1'.c3
      have ra4 := h1'.c4
      have ra5 := h1'.c5
      have ra6 := h1'.c6
      have ra7 := h1'.c7
      have ra8 := h1'.c8
      have ra9 := h1'.c9
      have ra10 := h1'.c10
      have ra11 := h1'.c11
      have ra12 := h1'.c12
      obtain ⟨b2, off2, rfl, hb2, hc2⟩ := HU.out k (by omega)
      have rb : ∀ y : Since W, y.w.cell? ⟨b2, off2 + k, none⟩ = some (.int .i64 (at0 us k)) := Since.cell hc2 hb2
      have hk0 : (0 : Int) ≤ (k : Int) := by omega
      have hkl : (k : Int) < (R.length : Int) := by omega
      have hkn : (k : Int) < (us.length : Int) := by omega
      have Hx := Lib.hid (cntTo_next R (at0 us) kk (day r) k)
      have Hy := Lib.hid (aftTo_next R (at0 us) kk r k)
      rw [rAt_eq he] at Hx Hy
      have Hle := Lib.hid (And.intro (cntTo_le R (at0 us) kk (day r) k) (aftTo_le R (at0 us) kk r k))
      obtain ⟨hs0, hs1⟩ := Hs0.out e (List.mem_of_getElem? he)
      have hc0 : 0 ≤ (cntTo R (at0 us) kk (day r) k : Int) := by omega
      have hc1 : (cntTo R (at0 us) kk (day r) k : Int) ≤ 256 := by have := Hle.out; omega
      have hd0 : 0 ≤ (aftTo R (at0 us) kk r k : Int) := by omega
      have hd1 : (aftTo R (at0 us) kk r k : Int) ≤ 256 := by have := Hle.out; omega
      have Hbc := Lib.hid (fun q : Since W => rbefore_calls W q r e)
      clear h1' he hb2 hc2
      by_cases hu : at0 us k = kk
      · have hub : (at0 us k == kk) = true := by simpa using hu
        by_cases hd : e.s0 / 86400 = r.s0 / 86400
        · have hdb : (e.s0 / 86400 == r.s0 / 86400) = true := by simpa using hd
          have Hn := Lib.hid (show (cntTo R (at0 us) kk (day r) (k + 1) : Int) = cntTo R (at0 us) kk (day r) k + 1 by rw [Hx.out, if_pos ⟨hu, hd⟩]; rfl)
          cases hbf : bef r e with
          | true =>
            have Hm := Lib.hid (show (aftTo R (at0 us) kk r (k + 1) : Int) = aftTo R (at0 us) kk r k + 1 by rw [Hy.out, if_pos ⟨⟨hu, hd⟩, hbf⟩]; rfl)
            rw [hbf] at Hbc
            clear hu hd Hx Hy hbf
            go_wp2_with fail
            refine wp_region_since (by kernel_rfl) (by kernel_rfl) ?_
            repeat (go_big_quiet_step (fail))
            refine wpQuiet_nil ?_
            rintro _ ⟨z, rfl⟩
            go_wp2_with fail
            refine wp_region_since (by kernel_rfl) (by kernel_rfl) ?_
            repeat (go_big_quiet_step ((go_at_call 20; exact Hbc.out _)))
            refine wpQuiet_nil ?_
            rintro _ ⟨z2, rfl⟩
            go_wp2_with fail
            go_roundw
            case rel => exact ⟨k + 1, z2, by omega, by go_num, by rw [Hn.out], by rw [Hm.out], rfl⟩
            case measure => simp [intOf] <;> omega
          | false =>
            have Hm := Lib.hid (show aftTo R (at0 us) kk r (k + 1) = aftTo R (at0 us) kk r k by rw [Hy.out, if_neg (fun h => by rw [hbf] at h; cases h.2)]; rfl)
            rw [hbf] at Hbc
            clear hu hd Hx Hy hbf
            go_wp2_with fail
            refine wp_region_since (by kernel_rfl) (by kernel_rfl) ?_
            repeat (go_big_quiet_step (fail))
            refine wpQuiet_nil ?_
            rintro _ ⟨z, rfl⟩
            go_wp2_with fail
            refine wp_region_since (by kernel_rfl) (by kernel_rfl) ?_
            repeat (go_big_quiet_step ((go_at_call 20; exact Hbc.out _)))
            refine wpQuiet_nil ?_
            rintro _ ⟨z2, rfl⟩
            go_wp2_with fail
            go_roundw
            case rel => exact ⟨k + 1, z2, by omega, by go_num, by rw [Hn.out], by rw [Hm.out], rfl⟩
            case measure => simp [intOf] <;> omega
        · have hdb : (e.s0 / 86400 == r.s0 / 86400) = false := by simpa using hd
          have Hn := Lib.hid (show cntTo R (at0 us) kk (day r) (k + 1) = cntTo R (at0 us) kk (day r) k by rw [Hx.out, if_neg (fun h => hd h.2)]; rfl)
          have Hm := Lib.hid (show aftTo R (at0 us) kk r (k + 1) = aftTo R (at0 us) kk r k by rw [Hy.out, if_neg (fun h => hd h.1.2)]; rfl)
          clear hu hd Hx Hy
          go_wp2_with fail
          refine wp_region_since (by kernel_rfl) (by kernel_rfl) ?_
          repeat (go_big_quiet_step (fail))
          refine wpQuiet_nil ?_
          rintro _ ⟨z, rfl⟩
          go_wp2_with fail
          go_roundw
          case rel => exact ⟨k + 1, z, by omega, by go_num, by rw [Hn.out], by rw [Hm.out], rfl⟩
          case measure => simp [intOf] <;> omega
      · have hub : (at0 us k == kk) = false := by simpa using hu
        have Hn := Lib.hid (show cntTo R (at0 us) kk (day r) (k + 1) = cntTo R (at0 us) kk (day r) k by rw [Hx.out, if_neg (fun h => hu h.1)]; rfl)
        have Hm := Lib.hid (show aftTo R (at0 us) kk r (k + 1) = aftTo R (at0 us) kk r k by rw [Hy.out, if_neg (fun h => hu h.1.1)]; rfl)
        clear hu Hx Hy
        go_wp2_with fail
        refine wp_region_since (by kernel_rfl) (by kernel_rfl) ?_
        repeat (go_big_quiet_step (fail))
        refine wpQuiet_nil ?_
        rintro _ ⟨z, rfl⟩
        go_wp2_with fail
        go_roundw
        case rel => exact ⟨k + 1, z, by omega, by go_num, by rw [Hn.out], by rw [Hm.out], rfl⟩
        case measure => simp [intOf] <;> omega
    · obtain rfl : k = R.length := by omega
      go_wp2_with fail
      go_ret2
      exact ⟨rfl, Hup.out _⟩
end Go.Proofs.Ytbkfcdheckkjaaa
