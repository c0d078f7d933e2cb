/- Checks of tables, intervals of cells, walked. -/
import Derived.Test.YtdkcclngionihaaDoorRlMi
set_option linter.all false
namespace Go.Proofs.YtdkcclngionihaaDoor
open Go.RowKit

theorem sumF_mono {f : Nat → Int} (n : Nat) (h : ∀ i, i < n → 0 ≤ f i) : ∀ m, m ≤ n → 0 ≤ sumF f m ∧ sumF f m ≤ sumF f n := by
  induction n with
  | zero => intro m hm; obtain rfl : m = 0 := by omega
            exact ⟨Int.le_refl _, Int.le_refl _⟩
  | succ n ih =>
    intro m hm
    have h1 := h n (by omega)
    by_cases e : m = n + 1
    · subst e
      have := ih (fun i hi => h i (by omega)) n (Nat.le_refl _)
      simp only [sumF]
      exact ⟨by omega, Int.le_refl _⟩
    · have := ih (fun i hi => h i (by omega)) m (by omega)
      simp only [sumF]
      exact ⟨this.1, by omega⟩
theorem nat_in {k n : Nat} (h : k < n) : 0 ≤ (k : Int) ∧ (k : Int) < (n : Int) := ⟨Int.natCast_nonneg _, Int.ofNat_lt.2 h⟩
theorem SG.chk {R C : Nat} {l : List Int} (hG : SG R C l) : chkE ⟨R, C, l⟩ = 0 := by
  obtain ⟨r0, r1⟩ := hG.r
  obtain ⟨c0, c1⟩ := hG.c
  refine chk_ok (t := ⟨R, C, l⟩) (by show ¬ ((R : Int) < 1 ∨ 8 < (R : Int) ∨ (C : Int) < 1 ∨ 8 < (C : Int)); omega) ?_ (fun j hj z hz => ?_)
  · show ¬ (l.length : Int) ≠ (R : Int) * (C : Int)
    rw [hG.n]; simp
  · have hz' : l[j]? = some z := hz
    have he : at0 l j = z := by unfold at0; rw [List.getD_eq_getElem?_getD, hz']; rfl
    have := (hG.cell (i := j) hj).2.2
    rw [he] at this
    unfold badc1
    rw [decide_eq_false (by omega), decide_eq_false (by omega)]; rfl
theorem SG.net {R C : Nat} {l : List Int} (hG : SG R C l) (h : List Bool) (but : Nat) : NetGood (R + C) (netN R C l h but l.length) := by
  obtain ⟨r0, r1⟩ := hG.r
  obtain ⟨c0, c1⟩ := hG.c
  have h1 := hG.len
  have h2 := net_len (R := R) (C := C) (l := l) h but l.length
  refine ⟨by omega, by omega, by omega, hG.netOk h but, fun i hi => ?_⟩
  obtain ⟨_, _, _, d, e⟩ := net_mem hG h but l.length (Nat.le_refl _) _ (arcAt_mem hi)
  exact ⟨d, by rw [e]; decide, by rw [e]; decide⟩
theorem IsMost.pos {n : Nat} {l : List Arc} {s t v : Int} (h : NetOk n l) (hv : IsMost n l s t v) : 0 ≤ v := by
  obtain ⟨_, S, _, _, rfl⟩ := hv
  have := sumF_le (f := fun _ => 0) (g := fun i => if S (arcAt l i).u = true ∧ S (arcAt l i).v = false then (arcAt l i).cap else 0) l.length (fun i hi => by
    have := (h i hi).2.2
    show (0 : Int) ≤ _
    split <;> omega)
  rwa [sumF_zero] at this
set_option maxRecDepth 100000 in
set_option maxHeartbeats 4000000 in
theorem scheck_calls (w : World) (x : Since w) (R C : Nat) (l : List Int) (a : Option Addr) (c : Nat) (hL : IntRow w a l) (hG : SG R C l) :
    Calls Tryd.prog 46 #[.agg #[.int .i64 (R : Int), .int .i64 (C : Int), .slice a l.length c]] x.w fun o w' => o = .returned (.tuple #[.int .i64 0, .int .i64 0]) ∧ ∃ y : Since w, w' = y.w := by
  have HL := Lib.hid hL
  have HG := Lib.hid hG
  have hm1 := hG.len
  have HS := Lib.hid (sumF_mono l.length hG.z)
  have HS2 := Lib.hid hG.s
  have HC := Lib.hid hG.chk
  obtain ⟨m, hm⟩ : ∃ m, m = l.length := ⟨_, rfl⟩
  rw [← hm]
  rw [← hm] at hm1
  have Hm := Lib.hid hm
  clear hL hG hm
  go_enter Tryd.func46, Tryd.ntmps46
  go_upto_region 1 with fail
  have hb0_0 : ∀ y : Since (x.w.alloc (.cells #[.int .i64 (R : Int), .int .i64 (C : Int), .slice a m c] 31)), y.w.cell? ⟨x.w.heap.size, 0, none⟩ = some (.int .i64 (R : Int)) := fun y => Since.cell (by simp [go_sem]) (by first | (simp; done) | (simp; omega)) y
  have hb0_1 : ∀ y : Since (x.w.alloc (.cells #[.int .i64 (R : Int), .int .i64 (C : Int), .slice a m c] 31)), y.w.cell? ⟨x.w.heap.size, 1, none⟩ = some (.int .i64 (C : Int)) := fun y => Since.cell (by simp [go_sem]) (by first | (simp; done) | (simp; omega)) y
  have hb0_2 : ∀ y : Since (x.w.alloc (.cells #[.int .i64 (R : Int), .int .i64 (C : Int), .slice a m c] 31)), y.w.cell? ⟨x.w.heap.size, 2, none⟩ = some (.slice a m c) := fun y => Since.cell (by simp [go_sem]) (by first | (simp; done) | (simp; omega)) y
  have hf0 : ∀ (y : Since (x.w.alloc (.cells #[.int .i64 (R : Int), .int .i64 (C : Int), .slice a m c] 31))) (o : Nat), y.w.frozen? ⟨x.w.heap.size, o, none⟩ = false := fun y o => Since.free (by simp [go_sem]) (by first | (simp; done) | (simp; omega)) y
  have hWup : ∃ z : Since w, (x.w.alloc (.cells #[.int .i64 (R : Int), .int .i64 (C : Int), .slice a m c] 31)) = z.w := x.alloc _
  obtain ⟨y0, hy0⟩ := Since.refl (x.w.alloc (.cells #[.int .i64 (R : Int), .int .i64 (C : Int), .slice a m c] 31))
  have Hbx := Lib.hid (And.intro x.b.size (show x.w.heap.size + 1 = (x.w.alloc (.cells #[.int .i64 (R : Int), .int .i64 (C : Int), .slice a m c] 31)).heap.size from by simp))
  generalize hW : (x.w.alloc (.cells #[.int .i64 (R : Int), .int .i64 (C : Int), .slice a m c] 31)) = W at *
  clear hW
  generalize x.w.heap.size = bx at *
  have Hup := Lib.hid (Since.up hWup)
  rw [hy0]
  clear hy0
  replace HL := Lib.hid (HL.out.to hWup)
  clear hWup hf0
  have hE := tcheck_calls W y0 ⟨R, C, l⟩ a c HL.out (by show l.length ≤ _; rw [← Hm.out]; omega)
  rw [HC.out] at hE
  simp only [← Hm.out] at hE
  have HE := Lib.hid hE
  clear hE
  go_upto_region 4 with (go_at_call 36; (with_reducible refine HE.out.mono ?_); rintro _ _ ⟨rfl, y1, rfl⟩)
  clear HE
  go_upto_region 6 with fail
  go_loopw [5, 16] (fun v5 si wr => ∃ (k : Nat) (y : Since W), k ≤ m ∧ si = .int .i64 (k : Int) ∧ v5 = .int .i64 (sumF (at0 l) k) ∧ wr = y.w) (fun _ si _ => m - (intOf si).toNat)
  case atStart => exact ⟨0, y1, by omega, rfl, rfl, rfl⟩
  case round =>
    obtain ⟨k, y, hk, rfl, rfl, rfl⟩ := hrel
    obtain ⟨s0, s1⟩ := HS.out k (by rw [← Hm.out]; exact hk)
    have s2 := HS2.out
    by_cases hlt : k < m
    · have hk0 : (0 : Int) ≤ (k : Int) := by omega
      have hkl : (k : Int) < (m : Int) := by omega
      obtain ⟨b1, o1, rfl, hb1, hc1'⟩ := HL.out k (by have := Hm.out; omega)
      have f0 : y.w.cell? ⟨b1, o1 + k, none⟩ = some (.int .i64 (at0 l k)) := Since.cell hc1' hb1 y
      clear hb1 hc1'
      obtain ⟨_, _, z2, z3⟩ := HG.out.cell (i := k) (by have := Hm.out; omega)
      have Hn := Lib.hid (show sumF (at0 l) (k + 1) = sumF (at0 l) k + at0 l k from rfl)
      generalize sumF (at0 l) k = S at *
      generalize sumF (at0 l) l.length = S2 at *
      generalize at0 l k = e at *
      have ws : IntKind.i64.wrap (S + e) = S + e := IntWalk.i64_in _ (by omega)
      go_wp2_with fail
      go_roundw
      case rel => exact ⟨k + 1, y, by omega, by go_num, by rw [Hn.out], rfl⟩
      case measure => simp [intOf] <;> omega
    · obtain rfl : k = m := by omega
      generalize sumF (at0 l) k = S at *
      generalize sumF (at0 l) l.length = S2 at *
      have hs : ¬ (65536 : Int) < S := by omega
      go_wp2_with fail
      exact bodyPost_ret (v := .tuple #[.int .i64 0, .int .i64 0]) (by simp [results, Tryd.results46, go_sem]) rfl ⟨rfl, Hup.out _⟩
set_option linter.unusedSimpArgs false in
set_option maxRecDepth 100000 in
set_option maxHeartbeats 8000000 in
theorem interval_calls (w : World) (x : Since w) (R C : Nat) (l : List Int) (h : List Bool) (i : Nat) (a ah : Option Addr) (c ch : Nat) (hL : IntRow w a l) (hH : BlRow w ah h) (hG : SG R C l) (hh : h.length = l.length) (hi : i < l.length) :
    Calls Tryd.prog 47 #[.agg #[.int .i64 (R : Int), .int .i64 (C : Int), .slice a l.length c], .slice ah h.length ch, .int .i64 (i : Int)] x.w fun o w' => o = .returned (.agg #[.int .i64 (loV R C l h i), .int .i64 (hiV R C l h i)]) ∧ ∃ y : Since w, w' = y.w := by
  have HL := Lib.hid hL
  have HH := Lib.hid hH
  have HG := Lib.hid hG
  have hm1 := hG.len
  have HN := Lib.hid (network_calls · · R C l h i a ah c ch · · hG hh hi)
  have HNG := Lib.hid (hG.net h i)
  obtain ⟨hr0, hr1⟩ := hG.r
  obtain ⟨hc0, hc1⟩ := hG.c
  obtain ⟨z0, z1, z2, z3⟩ := hG.cell (i := i) hi
  have HB := Lib.hid (show bo h i = false → loV R C l h i = at0 l i ∧ hiV R C l h i = at0 l i from fun hb => by unfold loV hiV; rw [hb]; simp)
  have HY := Lib.hid (fun (g s : Int) (hg : IsMost (R + C) (netN R C l h i l.length) ((R + i % C : Nat) : Int) ((i / C : Nat) : Int) g) (hs : IsMost (R + C) (netN R C l h i l.length) ((i / C : Nat) : Int) ((R + i % C : Nat) : Int) s) (hb : bo h i = true) => show loV R C l h i = at0 l i - min (at0 l i) s ∧ hiV R C l h i = at0 l i + g from by
    unfold loV hiV gainV lossV
    rw [if_pos hb, if_pos hb, mostV_eq (hG.netOk h i) (nat_in (by omega)) hg, mostV_eq (hG.netOk h i) (nat_in (by omega)) hs]
    exact ⟨rfl, rfl⟩)
  generalize loV R C l h i = LO at *
  generalize hiV R C l h i = HI at *
  obtain ⟨m, hm⟩ : ∃ m, m = l.length := ⟨_, rfl⟩
  rw [hh, ← hm]
  have Hm := Lib.hid hm
  have Hh := Lib.hid hh
  have him : i < m := by omega
  have hm2 : m ≤ 64 := by omega
  obtain ⟨N, hN⟩ : ∃ N, N = netN R C l h i l.length := ⟨_, rfl⟩
  rw [← hN] at HN HNG HY
  rw [hh, ← hm] at HN
  clear hL hH hG hh hi hm hm1 hN
  go_enter Tryd.func47, Tryd.ntmps47
  go_upto_region 1 with fail
  have hb0_0 : ∀ y : Since ((x.w.alloc (.cells #[.int .i64 (R : Int), .int .i64 (C : Int), .slice a m c] 31)).alloc (.cells #[.int .i64 0, .int .i64 0] 56)), y.w.cell? ⟨x.w.heap.size, 0, none⟩ = some (.int .i64 (R : Int)) := fun y => Since.cell (by simp [go_sem]) (by first | (simp; done) | (simp; omega)) y
  have hb0_1 : ∀ y : Since ((x.w.alloc (.cells #[.int .i64 (R : Int), .int .i64 (C : Int), .slice a m c] 31)).alloc (.cells #[.int .i64 0, .int .i64 0] 56)), y.w.cell? ⟨x.w.heap.size, 1, none⟩ = some (.int .i64 (C : Int)) := fun y => Since.cell (by simp [go_sem]) (by first | (simp; done) | (simp; omega)) y
  have hb0_2 : ∀ y : Since ((x.w.alloc (.cells #[.int .i64 (R : Int), .int .i64 (C : Int), .slice a m c] 31)).alloc (.cells #[.int .i64 0, .int .i64 0] 56)), y.w.cell? ⟨x.w.heap.size, 2, none⟩ = some (.slice a m c) := fun y => Since.cell (by simp [go_sem]) (by first | (simp; done) | (simp; omega)) y
  have hf0 : ∀ (y : Since ((x.w.alloc (.cells #[.int .i64 (R : Int), .int .i64 (C : Int), .slice a m c] 31)).alloc (.cells #[.int .i64 0, .int .i64 0] 56))) (o : Nat), y.w.frozen? ⟨x.w.heap.size, o, none⟩ = false := fun y o => Since.free (by simp [go_sem]) (by first | (simp; done) | (simp; omega)) y
  have hb1_0 : ∀ y : Since ((x.w.alloc (.cells #[.int .i64 (R : Int), .int .i64 (C : Int), .slice a m c] 31)).alloc (.cells #[.int .i64 0, .int .i64 0] 56)), y.w.cell? ⟨x.w.heap.size + 1, 0, none⟩ = some (.int .i64 0) := fun y => Since.cell (by simp [go_sem]) (by first | (simp; done) | (simp; omega)) y
  have hb1_1 : ∀ y : Since ((x.w.alloc (.cells #[.int .i64 (R : Int), .int .i64 (C : Int), .slice a m c] 31)).alloc (.cells #[.int .i64 0, .int .i64 0] 56)), y.w.cell? ⟨x.w.heap.size + 1, 1, none⟩ = some (.int .i64 0) := fun y => Since.cell (by simp [go_sem]) (by first | (simp; done) | (simp; omega)) y
  have hf1 : ∀ (y : Since ((x.w.alloc (.cells #[.int .i64 (R : Int), .int .i64 (C : Int), .slice a m c] 31)).alloc (.cells #[.int .i64 0, .int .i64 0] 56))) (o : Nat), y.w.frozen? ⟨x.w.heap.size + 1, o, none⟩ = false := fun y o => Since.free (by simp [go_sem]) (by first | (simp; done) | (simp; omega)) y
  have hWup : ∃ z : Since w, ((x.w.alloc (.cells #[.int .i64 (R : Int), .int .i64 (C : Int), .slice a m c] 31)).alloc (.cells #[.int .i64 0, .int .i64 0] 56)) = z.w := Since.allocs x [.cells #[.int .i64 (R : Int), .int .i64 (C : Int), .slice a m c] 31, .cells #[.int .i64 0, .int .i64 0] 56]
  obtain ⟨y0, hy0⟩ := Since.refl ((x.w.alloc (.cells #[.int .i64 (R : Int), .int .i64 (C : Int), .slice a m c] 31)).alloc (.cells #[.int .i64 0, .int .i64 0] 56))
  have Hbx := Lib.hid (And.intro x.b.size (show x.w.heap.size + 2 = ((x.w.alloc (.cells #[.int .i64 (R : Int), .int .i64 (C : Int), .slice a m c] 31)).alloc (.cells #[.int .i64 0, .int .i64 0] 56)).heap.size from by simp))
  generalize hW : ((x.w.alloc (.cells #[.int .i64 (R : Int), .int .i64 (C : Int), .slice a m c] 31)).alloc (.cells #[.int .i64 0, .int .i64 0] 56)) = W at *
  clear hW
  generalize x.w.heap.size = bx at *
  have Hup := Lib.hid (Since.up hWup)
  rw [hy0]
  clear hy0
  replace HL := Lib.hid (HL.out.to hWup)
  replace HH := Lib.hid (HH.out.to hWup)
  clear hWup hf0
  have hi0 : (0 : Int) ≤ (i : Int) := by omega
  have hil : (i : Int) < (m : Int) := by omega
  obtain ⟨b1, o1, rfl, hb1, hc1'⟩ := HL.out i (by have := Hm.out; omega)
  have f0 : y0.w.cell? ⟨b1, o1 + i, none⟩ = some (.int .i64 (at0 l i)) := Since.cell hc1' hb1 y0
  obtain ⟨b2, o2, rfl, hb2, hc2'⟩ := HH.out i (by have := Hm.out; have := Hh.out; omega)
  have f1 : y0.w.cell? ⟨b2, o2 + i, none⟩ = some (.bool (bo h i)) := Since.cell hc2' hb2 y0
  clear hb1 hc1' hb2 hc2'
  cases hb : bo h i
  · rw [hb] at f1
    have HE := Lib.hid (HB.out hb)
    clear HB HY HN hb
    generalize at0 l i = e at *
    go_wp2_with fail
    have hsm : ∀ j, j < 2 → (y0.w.cell? ⟨bx + 1, j, none⟩).isSome = true := fun j hj => by
      match j, hj with
      | 0, _ => rw [hb1_0 y0]; rfl
      | 1, _ => rw [hb1_1 y0]; rfl
    obtain ⟨Z, hz, hc⟩ := set_many y0 (g := bx + 1) [.int .i64 e, .int .i64 e] hsm (Hup.out y0) (by have := Hbx.out; omega)
    simp only [World.setCells, Nat.reduceAdd] at hz
    rw [hz]
    have hc0 := hc 0 _ rfl
    have hc1 := hc 1 _ rfl
    exact bodyPost_ret (v := .agg #[.int .i64 e, .int .i64 e]) (by simp [results, Tryd.results47, go_sem, hc0, hc1]) rfl ⟨by rw [HE.out.1, HE.out.2], Z, rfl⟩
  · rw [hb] at f1
    have HY2 := Lib.hid (fun g s hg hs => HY.out g s hg hs hb)
    clear HB HY hb
    go_upto_region 4 with fail
    generalize he : at0 l i = e at *
    clear f0 f1 he
    have HN2 := Lib.hid (HN.out W y0 HL.out HH.out)
    clear HN
    go_upto_region 5 with (go_at_call 67; (with_reducible refine HN2.out.mono ?_); rintro _ _ ⟨an, cn, y1, rfl, rfl, hA⟩; have HA := Lib.hid hA; clear hA)
    have hx0 : (y1.w.alloc (.cells #[.int .i64 ((R : Int) + (C : Int)), .slice an N.length cn] 112)).cell? ⟨y1.w.heap.size, 0, none⟩ = some (.int .i64 ((R : Int) + (C : Int))) := by simp [go_sem]
    have hx1 : (y1.w.alloc (.cells #[.int .i64 ((R : Int) + (C : Int)), .slice an N.length cn] 112)).cell? ⟨y1.w.heap.size, 1, none⟩ = some (.slice an N.length cn) := by simp [go_sem]
    have hxf : ∀ o, (y1.w.alloc (.cells #[.int .i64 ((R : Int) + (C : Int)), .slice an N.length cn] 112)).frozen? ⟨y1.w.heap.size, o, none⟩ = false := fun o => by simp [go_sem]
    have hlt0 : y1.w.heap.size < (y1.w.alloc (.cells #[.int .i64 ((R : Int) + (C : Int)), .slice an N.length cn] 112)).heap.size := by simp
    have hst0 : ∃ zz : Since y1.w, (y1.w.alloc (.cells #[.int .i64 ((R : Int) + (C : Int)), .slice an N.length cn] 112)) = zz.w := IsSince.alloc (IsSince.self _) _
    have hsz0 := y1.b.size
    obtain ⟨y2, e2⟩ := IsSince.alloc (IsSince.of y1) (.cells #[.int .i64 ((R : Int) + (C : Int)), .slice an N.length cn] 112)
    rw [e2] at hx0 hx1 hxf hlt0 hst0 ⊢
    have hA2 := HA.out.to hst0
    clear e2 hst0
    generalize y1.w.heap.size = gn at *
    have Hhx0 : ∀ q : Since y2.w, q.w.cell? ⟨gn, 0, none⟩ = some (.int .i64 ((R : Int) + (C : Int))) := fun q => Since.cell hx0 (by omega) q
    have Hhx1 : ∀ q : Since y2.w, q.w.cell? ⟨gn, 1, none⟩ = some (.slice an N.length cn) := fun q => Since.cell hx1 (by omega) q
    have Hhxf : ∀ (q : Since y2.w) (o : Nat), q.w.frozen? ⟨gn, o, none⟩ = false := fun q o => Since.free (hxf o) (by omega) q
    have Hhxg := Lib.hid (And.intro hsz0 hlt0)
    clear hlt0 hsz0
    have HA2 := Lib.hid hA2
    clear hA2 HA HN2 hx0 hx1 hxf Hhxf Hhxg HL HH
    change Code.wp _ _ _ _ (Since.self y2.w).w
    replace hb0_0 := Since.cellTo ⟨y2, rfl⟩ hb0_0
    replace hb0_1 := Since.cellTo ⟨y2, rfl⟩ hb0_1
    have hCp : (0 : Int) < (C : Int) := by omega
    have wq := Lib.hid (wrap_quo z0 hr1)
    have wr := Lib.hid (wrap_rem z1 hr1 hc1)
    refine wp_region_since (by kernel_rfl) (by kernel_rfl) ?_
    repeat (go_big_quiet_step (fail))
    refine wpQuiet_nil ?_
    rintro _ ⟨z, rfl⟩
    (try simp only [wq.out, wr.out])
    have hqc : i / C < R + C := by omega
    have hrc : R + i % C < R + C := by omega
    have hqr : i / C ≠ R + i % C := by omega
    have HM1 := Lib.hid (fun z => most_calls y2.w z N (R + C) (R + i % C) (i / C) an cn HA2.out HNG.out hrc hqc hqr)
    have HM2 := Lib.hid (fun z => most_calls y2.w z N (R + C) (i / C) (R + i % C) an cn HA2.out HNG.out hqc hrc (Ne.symm hqr))
    rw [← Int.natCast_emod, ← Int.natCast_ediv, ← Int.natCast_add R (i % C)]
    generalize R + i % C = cl at *
    generalize i / C = q at *
    rw [Int.natCast_add] at HM1 HM2
    have HB1 := Lib.hid (fun (v : Int) (hv : IsMost (R + C) N (cl : Int) (q : Int) v) => show 0 ≤ v ∧ v ≤ 33554432 from ⟨hv.pos HNG.out.ok, by obtain ⟨f, hf⟩ := hv.1; exact hf.small HNG.out hrc hqr⟩)
    have HB2 := Lib.hid (fun (v : Int) (hv : IsMost (R + C) N (q : Int) (cl : Int) v) => show 0 ≤ v ∧ v ≤ 33554432 from ⟨hv.pos HNG.out.ok, by obtain ⟨f, hf⟩ := hv.1; exact hf.small HNG.out hqc (Ne.symm hqr)⟩)
    clear wq wr hCp
    go_upto_region 7 with (go_at_call 68; (with_reducible refine (HM1.out _).mono ?_); rintro _ _ ⟨g, ⟨rfl, hg⟩, z3', rfl⟩; have Hg := Lib.hid hg; have hg2 := HB1.out _ hg; clear hg)
    clear HM1 HB1
    go_upto_region 8 with (go_at_call 68; (with_reducible refine (HM2.out _).mono ?_); rintro _ _ ⟨s, ⟨rfl, hs⟩, z4, rfl⟩; have Hs := Lib.hid hs; have hs2 := HB2.out _ hs; clear hs)
    have HF := Lib.hid (HY2.out g s Hg.out Hs.out)
    clear HM2 HB2 HY2
    obtain ⟨z5, h5⟩ := y2.trans z4
    rw [h5]
    obtain ⟨mn, hmn⟩ : ∃ mn, mn = min e s := ⟨_, rfl⟩
    have hm0 : 0 ≤ mn ∧ mn ≤ 65536 := by rw [hmn]; omega
    have w1 : IntKind.i64.wrap (e - mn) = e - mn := IntWalk.i64_in _ (by omega)
    have w2 : IntKind.i64.wrap (e + g) = e + g := IntWalk.i64_in _ (by omega)
    rw [hmn] at w1
    go_wp2_with fail
    have hsm : ∀ j, j < 2 → (z5.w.cell? ⟨bx + 1, j, none⟩).isSome = true := fun j hj => by
      match j, hj with
      | 0, _ => rw [hb1_0 z5]; rfl
      | 1, _ => rw [hb1_1 z5]; rfl
    obtain ⟨Z, hz, hc⟩ := set_many z5 (g := bx + 1) [.int .i64 (e - min e s), .int .i64 (e + g)] hsm (Hup.out z5) (by have := Hbx.out; omega)
    simp only [World.setCells, Nat.reduceAdd] at hz
    rw [hz]
    have hc0 := hc 0 _ rfl
    have hc1 := hc 1 _ rfl
    exact bodyPost_ret (v := .agg #[.int .i64 (e - min e s), .int .i64 (e + g)]) (by simp [results, Tryd.results47, go_sem, hc0, hc1]) rfl ⟨by rw [HF.out.1, HF.out.2], Z, rfl⟩
end Go.Proofs.YtdkcclngionihaaDoor
/- The interval of a cell, the first unsf cell, walked. -/
namespace Go.Proofs.YtdkcclngionihaaDoor
open Go.RowKit

theorem mostV_in {n : Nat} {l : List Arc} {s t : Nat} (hG : NetGood n l) (hs : s < n) (hst : t ≠ s) : 0 ≤ mostV n l (s : Int) (t : Int) ∧ mostV n l (s : Int) (t : Int) ≤ 33554432 := by
  by_cases h : ∃ v, IsMost n l (s : Int) (t : Int) v
  · obtain ⟨v, hv⟩ := h
    rw [mostV_eq hG.ok (nat_in hs) hv]
    obtain ⟨f, hf⟩ := hv.1
    exact ⟨hv.pos hG.ok, hf.small hG hs hst⟩
  · have : mostV n l (s : Int) (t : Int) = 0 := by unfold mostV; rw [dif_neg h]
    rw [this]; exact ⟨Int.le_refl _, by decide⟩
theorem SG.iv {R C : Nat} {l : List Int} (hG : SG R C l) (h : List Bool) {i : Nat} (hi : i < l.length) : 0 ≤ loV R C l h i ∧ loV R C l h i ≤ at0 l i ∧ at0 l i ≤ hiV R C l h i ∧ hiV R C l h i ≤ 33619968 := by
  obtain ⟨z0, z1, z2, z3⟩ := hG.cell (i := i) hi
  have hN := hG.net h i
  have h1 := mostV_in (s := R + i % C) (t := i / C) hN (by omega) (by omega)
  have h2 := mostV_in (s := i / C) (t := R + i % C) hN (by omega) (by omega)
  unfold loV hiV gainV lossV
  generalize mostV (R + C) (netN R C l h i l.length) ((R + i % C : Nat) : Int) ((i / C : Nat) : Int) = g at *
  generalize mostV (R + C) (netN R C l h i l.length) ((i / C : Nat) : Int) ((R + i % C : Nat) : Int) = s at *
  by_cases hb : bo h i = true
  · rw [if_pos hb, if_pos hb]; omega
  · rw [if_neg hb, if_neg hb]; omega
set_option linter.unusedSimpArgs false in
set_option maxRecDepth 100000 in
set_option maxHeartbeats 8000000 in
theorem unsf_calls (w : World) (x : Since w) (R C : Nat) (l : List Int) (h : List Bool) (width : Int) (a ah : Option Addr) (c ch : Nat) (hL : IntRow w a l) (hH : BlRow w ah h) (hG : SG R C l) (hh : h.length = l.length) :
    Calls Tryd.prog 52 #[.agg #[.int .i64 (R : Int), .int .i64 (C : Int), .slice a l.length c], .slice ah h.length ch, .int .i64 width] x.w fun o w' => o = .returned (.int .i64 (orNeg (unsV R C l h width))) ∧ ∃ y : Since w, w' = y.w := by
  have HL := Lib.hid hL
  have HH := Lib.hid hH
  have hm1 := hG.len
  obtain ⟨m, hm⟩ : ∃ m, m = l.length := ⟨_, rfl⟩
  have HI := Lib.hid (fun (w : World) (x : Since w) hL hH (i : Nat) (hi : i < m) => interval_calls w x R C l h i a ah c ch hL hH hG hh (by omega))
  have HV := Lib.hid (fun (i : Nat) (hi : i < m) => hG.iv h (i := i) (by omega))
  have Hno := Lib.hid (fun (hn : ∀ j, j < m → narrow R C l h width j = false) => show orNeg (unsV R C l h width) = -1 from by unfold unsV; rw [fstP_none (by rw [hh, ← hm]; exact hn)]; rfl)
  have Hyes := Lib.hid (fun (k : Nat) (hk : k < m) (hp : narrow R C l h width k = true) (hn : ∀ j, j < k → narrow R C l h width j = false) => show orNeg (unsV R C l h width) = (k : Int) from by unfold unsV; rw [fstP_some (by rw [hh, ← hm]; exact hk) hp hn]; rfl)
  rw [hh, ← hm] at HI
  rw [hh, ← hm]
  have Hm := Lib.hid hm
  have Hh := Lib.hid hh
  generalize orNeg (unsV R C l h width) = U at *
  have hm64 : m ≤ 64 := by omega
  clear hL hH hG hh hm hm1
  go_enter Tryd.func52, Tryd.ntmps52
  go_upto_region 1 with fail
  have hb0_0 : ∀ y : Since (x.w.alloc (.cells #[.int .i64 (R : Int), .int .i64 (C : Int), .slice a m c] 31)), y.w.cell? ⟨x.w.heap.size, 0, none⟩ = some (.int .i64 (R : Int)) := fun y => Since.cell (by simp [go_sem]) (by first | (simp; done) | (simp; omega)) y
  have hb0_1 : ∀ y : Since (x.w.alloc (.cells #[.int .i64 (R : Int), .int .i64 (C : Int), .slice a m c] 31)), y.w.cell? ⟨x.w.heap.size, 1, none⟩ = some (.int .i64 (C : Int)) := fun y => Since.cell (by simp [go_sem]) (by first | (simp; done) | (simp; omega)) y
  have hb0_2 : ∀ y : Since (x.w.alloc (.cells #[.int .i64 (R : Int), .int .i64 (C : Int), .slice a m c] 31)), y.w.cell? ⟨x.w.heap.size, 2, none⟩ = some (.slice a m c) := fun y => Since.cell (by simp [go_sem]) (by first | (simp; done) | (simp; omega)) y
  have hf0 : ∀ (y : Since (x.w.alloc (.cells #[.int .i64 (R : Int), .int .i64 (C : Int), .slice a m c] 31))) (o : Nat), y.w.frozen? ⟨x.w.heap.size, o, none⟩ = false := fun y o => Since.free (by simp [go_sem]) (by first | (simp; done) | (simp; omega)) y
  have hWup : ∃ z : Since w, (x.w.alloc (.cells #[.int .i64 (R : Int), .int .i64 (C : Int), .slice a m c] 31)) = z.w := x.alloc _
  obtain ⟨y0, hy0⟩ := Since.refl (x.w.alloc (.cells #[.int .i64 (R : Int), .int .i64 (C : Int), .slice a m c] 31))
  have Hbx := Lib.hid (And.intro x.b.size (show x.w.heap.size + 1 = (x.w.alloc (.cells #[.int .i64 (R : Int), .int .i64 (C : Int), .slice a m c] 31)).heap.size from by simp))
  generalize hW : (x.w.alloc (.cells #[.int .i64 (R : Int), .int .i64 (C : Int), .slice a m c] 31)) = W at *
  clear hW
  generalize x.w.heap.size = bx at *
  have Hup := Lib.hid (Since.up hWup)
  rw [hy0]
  clear hy0
  replace HL := Lib.hid (HL.out.to hWup)
  replace HH := Lib.hid (HH.out.to hWup)
  clear hWup hf0
  go_upto_region 2 with fail
  go_loopw [11] (fun si wr => ∃ (k : Nat) (y : Since W), k ≤ m ∧ si = .int .i64 (k : Int) ∧ wr = y.w ∧ ∀ j, j < k → narrow R C l h width j = false) (fun si _ => m - (intOf si).toNat)
  case atStart => exact ⟨0, y0, by omega, rfl, rfl, fun j hj => by omega⟩
  case round =>
    obtain ⟨k, y, hk, rfl, rfl, hn⟩ := hrel
    have Hn := Lib.hid hn
    clear hn
    by_cases hlt : k < m
    · have hk0 : (0 : Int) ≤ (k : Int) := by omega
      have hkl : (k : Int) < (m : Int) := by omega
      obtain ⟨b2, o2, rfl, hb2, hc2'⟩ := HH.out k (by have := Hm.out; have := Hh.out; omega)
      have f1 : ∀ q : Since W, q.w.cell? ⟨b2, o2 + k, none⟩ = some (.bool (bo h k)) := fun q => Since.cell hc2' hb2 q
      clear hb2 hc2'
      have H2 := Lib.hid (HI.out W y HL.out HH.out k hlt)
      obtain ⟨v0, v1, v2, v3⟩ := HV.out k hlt
      have HNar := Lib.hid (show narrow R C l h width k = (bo h k && decide (hiV R C l h k - loV R C l h k < width)) from rfl)
      generalize loV R C l h k = LO at *
      generalize hiV R C l h k = HI2 at *
      generalize at0 l k = e at *
      go_upto_region 5 with (go_at_call 47; ((with_reducible refine H2.out.mono ?_); rintro _ _ ⟨rfl, y1, rfl⟩))
      clear H2
      have hx0 : (y1.w.alloc (.cells #[.int .i64 LO, .int .i64 HI2] 56)).cell? ⟨y1.w.heap.size, 0, none⟩ = some (.int .i64 LO) := by simp [go_sem]
      have hx1 : (y1.w.alloc (.cells #[.int .i64 LO, .int .i64 HI2] 56)).cell? ⟨y1.w.heap.size, 1, none⟩ = some (.int .i64 HI2) := by simp [go_sem]
      have hxf : ∀ o, (y1.w.alloc (.cells #[.int .i64 LO, .int .i64 HI2] 56)).frozen? ⟨y1.w.heap.size, o, none⟩ = false := fun o => by simp [go_sem]
      have hlt0 : y1.w.heap.size < (y1.w.alloc (.cells #[.int .i64 LO, .int .i64 HI2] 56)).heap.size := by simp
      have hst0 : ∃ zz : Since y1.w, (y1.w.alloc (.cells #[.int .i64 LO, .int .i64 HI2] 56)) = zz.w := IsSince.alloc (IsSince.self _) _
      have hsz0 := y1.b.size
      obtain ⟨y2, e2⟩ := IsSince.alloc (IsSince.of y1) (.cells #[.int .i64 LO, .int .i64 HI2] 56)
      rw [e2] at hx0 hx1 hxf hlt0 hst0 ⊢
      skip
      clear e2 hst0
      generalize y1.w.heap.size = gz at *
      have Hhx0 : ∀ q : Since y2.w, q.w.cell? ⟨gz, 0, none⟩ = some (.int .i64 LO) := fun q => Since.cell hx0 (by omega) q
      have Hhx1 : ∀ q : Since y2.w, q.w.cell? ⟨gz, 1, none⟩ = some (.int .i64 HI2) := fun q => Since.cell hx1 (by omega) q
      have Hhxf : ∀ (q : Since y2.w) (o : Nat), q.w.frozen? ⟨gz, o, none⟩ = false := fun q o => Since.free (hxf o) (by omega) q
      have Hhxg := Lib.hid (And.intro hsz0 hlt0)
      clear hlt0 hsz0
      clear hx0 hx1 hxf Hhxf Hhxg
      obtain ⟨q0, hq0⟩ := Since.refl y2.w
      rw [hq0]
      clear hq0
      replace f1 := Since.cellTo ⟨y2, rfl⟩ f1
      cases hb : bo h k
      · rw [hb] at f1 HNar
        have Hstep := Lib.hid (fun j (hj : j < k + 1) => show narrow R C l h width j = false from by
          by_cases e : j = k
          · subst e; exact HNar.out
          · exact Hn.out j (by omega))
        have HQ := Lib.hid (show ∃ y3 : Since W, q0.w = y3.w from y2.trans q0)
        go_wp2_with fail
        obtain ⟨y3, h3⟩ := HQ.out
        rw [h3]
        go_roundw
        case rel => exact ⟨k + 1, y3, by omega, by go_num, rfl, Hstep.out⟩
        case measure => simp [intOf] <;> omega
      · rw [hb, Bool.true_and] at HNar
        rw [hb] at f1
        have ws : IntKind.i64.wrap (HI2 - LO) = HI2 - LO := IntWalk.i64_in _ (by omega)
        by_cases hw : HI2 - LO < width
        · have HU := Lib.hid (Hyes.out k hlt (HNar.out.trans (decide_eq_true hw)) Hn.out)
          have HQ := Lib.hid (show ∃ y3 : Since w, q0.w = y3.w from by obtain ⟨y3, h3⟩ := y2.trans q0; rw [h3]; exact Hup.out y3)
          clear Hyes Hno
          go_wp2_with fail
          go_ret
          exact ⟨ret_int HU.out.symm, HQ.out⟩
        · have Hstep := Lib.hid (fun j (hj : j < k + 1) => show narrow R C l h width j = false from by
            by_cases e : j = k
            · subst e; exact HNar.out.trans (decide_eq_false hw)
            · exact Hn.out j (by omega))
          have HQ := Lib.hid (show ∃ y3 : Since W, q0.w = y3.w from y2.trans q0)
          clear Hyes Hno
          go_wp2_with fail
          obtain ⟨y3, h3⟩ := HQ.out
          rw [h3]
          go_roundw
          case rel => exact ⟨k + 1, y3, by omega, by go_num, rfl, Hstep.out⟩
          case measure => simp [intOf] <;> omega
    · obtain rfl : k = m := by omega
      have HU := Lib.hid (Hno.out Hn.out)
      clear Hyes Hno
      go_wp2_with fail
      go_ret
      exact ⟨ret_int HU.out.symm, Hup.out y⟩
end Go.Proofs.YtdkcclngionihaaDoor
/- The cell that is hidden next, walked. Written by mknext.py. -/
namespace Go.Proofs.YtdkcclngionihaaDoor
open Go.RowKit

/-- the three kinds of cells -/
def fitV (C i : Nat) : Nat → Nat → Bool
  | 0, k => decide (k / C = i / C)
  | 1, k => decide (k % C = i % C)
  | _, _ => true
theorem fitV0 (C i k : Nat) : ((k : Int) / (C : Int) == (i : Int) / (C : Int)) = fitV C i 0 k := by
  rw [← Int.natCast_ediv, ← Int.natCast_ediv]
  show _ = decide (k / C = i / C)
  by_cases h : k / C = i / C
  · rw [h, decide_eq_true rfl]; exact beq_self_eq_true _
  · rw [decide_eq_false h, beq_eq_false_iff_ne]; omega
theorem fitV1 (C i k : Nat) : ((k : Int) % (C : Int) == (i : Int) % (C : Int)) = fitV C i 1 k := by
  rw [← Int.natCast_emod, ← Int.natCast_emod]
  show _ = decide (k % C = i % C)
  by_cases h : k % C = i % C
  · rw [h, decide_eq_true rfl]; exact beq_self_eq_true _
  · rw [decide_eq_false h, beq_eq_false_iff_ne]; omega
theorem nextV_eq {C i m : Nat} {h : List Bool} (hm : h.length = m) : nextV C h i = ((fstP (fun k => !bo h k && fitV C i 0 k) m).or (fstP (fun k => !bo h k && fitV C i 1 k) m)).or (fstP (fun k => !bo h k && fitV C i 2 k) m) := by
  subst hm
  have : (fun k => !bo h k && fitV C i 2 k) = (fun k => !bo h k) := funext fun k => Bool.and_true _
  rw [this]; rfl
theorem next_yes {C i m : Nat} {h : List Bool} (hm : h.length = m) {j k : Nat} (hj : j < 3) (hl : ∀ j', j' < j → ∀ q, q < m → (!bo h q && fitV C i j' q) = false) (hk : k < m) (hp : (!bo h k && fitV C i j k) = true) (hn : ∀ q, q < k → (!bo h q && fitV C i j q) = false) : orNeg (nextV C h i) = (k : Int) := by
  rw [nextV_eq hm]
  obtain rfl | rfl | rfl : j = 0 ∨ j = 1 ∨ j = 2 := by omega
  · rw [fstP_some hk hp hn]; rfl
  · rw [fstP_none (hl 0 (by omega)), fstP_some hk hp hn]; rfl
  · rw [fstP_none (hl 0 (by omega)), fstP_none (hl 1 (by omega)), fstP_some hk hp hn]; rfl
theorem next_no {C i m : Nat} {h : List Bool} (hm : h.length = m) (hl : ∀ j', j' < 3 → ∀ q, q < m → (!bo h q && fitV C i j' q) = false) : orNeg (nextV C h i) = -1 := by
  rw [nextV_eq hm, fstP_none (hl 0 (by omega)), fstP_none (hl 1 (by omega)), fstP_none (hl 2 (by omega))]; rfl
set_option maxRecDepth 100000 in
set_option maxHeartbeats 4000000 in
theorem next0_calls (w : World) (x : Since w) (R C i k bt bi : Nat) (hR : R ≤ 8) (hC : 0 < C ∧ C ≤ 8) (hi : i / C < R) (hk : k / C < R) (h1 : ∀ q : Since w, q.w.cell? ⟨bt, 1, none⟩ = some (.int .i64 (C : Int))) (h2 : ∀ q : Since w, q.w.cell? ⟨bi, 0, none⟩ = some (.int .i64 (i : Int))) :
    Calls Tryd.prog 75 #[.int .i64 (k : Int), .pointer (some ⟨bt, 0, none⟩), .pointer (some ⟨bi, 0, none⟩)] x.w fun o w' => o = .returned (.bool (fitV C i 0 k)) ∧ ∃ y : Since w, w' = y.w := by
  have wq := Lib.hid (wrap_quo hk hR)
  have wi := Lib.hid (wrap_quo hi hR)
  have HV := Lib.hid (fitV0 C i k)
  have hC0 : (0 : Int) < (C : Int) := by omega
  generalize fitV C i 0 k = V at *
  clear hi hk
  go_enter Tryd.func75, Tryd.ntmps75
  go_upto_region 1 with fail
  refine wp_region_since (by kernel_rfl) (by kernel_rfl) ?_
  repeat (go_big_quiet_step (fail))
  refine wpQuiet_nil ?_
  rintro _ ⟨y, rfl⟩
  (try simp only [wq.out, wi.out, HV.out])
  go_wp2_with fail
  go_ret
  exact ⟨rfl, y, rfl⟩
set_option maxRecDepth 100000 in
set_option maxHeartbeats 4000000 in
theorem next1_calls (w : World) (x : Since w) (R C i k bt bi : Nat) (_hR : R ≤ 8) (hC : 0 < C ∧ C ≤ 8) (_hi : i / C < R) (_hk : k / C < R) (h1 : ∀ q : Since w, q.w.cell? ⟨bt, 1, none⟩ = some (.int .i64 (C : Int))) (h2 : ∀ q : Since w, q.w.cell? ⟨bi, 0, none⟩ = some (.int .i64 (i : Int))) :
    Calls Tryd.prog 76 #[.int .i64 (k : Int), .pointer (some ⟨bt, 0, none⟩), .pointer (some ⟨bi, 0, none⟩)] x.w fun o w' => o = .returned (.bool (fitV C i 1 k)) ∧ ∃ y : Since w, w' = y.w := by
  have HV := Lib.hid (fitV1 C i k)
  have hC0 : (0 : Int) < (C : Int) := by omega
  generalize fitV C i 1 k = V at *
  clear _hi _hk
  go_enter Tryd.func76, Tryd.ntmps76
  go_upto_region 1 with fail
  refine wp_region_since (by kernel_rfl) (by kernel_rfl) ?_
  repeat (go_big_quiet_step (fail))
  refine wpQuiet_nil ?_
  rintro _ ⟨y, rfl⟩
  (try simp only [HV.out])
  go_wp2_with fail
  go_ret
  exact ⟨rfl, y, rfl⟩
set_option maxRecDepth 100000 in
set_option maxHeartbeats 4000000 in
theorem next2_calls (w : World) (x : Since w) (C i k : Nat) :
    Calls Tryd.prog 77 #[.int .i64 (k : Int)] x.w fun o w' => o = .returned (.bool (fitV C i 2 k)) ∧ ∃ y : Since w, w' = y.w := by
  go_enter Tryd.func77, Tryd.ntmps77
  go_wp2_with fail
  go_ret
  exact ⟨rfl, x, rfl⟩
set_option linter.unusedSimpArgs false in
set_option maxRecDepth 100000 in
set_option maxHeartbeats 8000000 in
theorem next_calls (w : World) (x : Since w) (R C i m : Nat) (h : List Bool) (a ah : Option Addr) (c ch : Nat) (hH : BlRow w ah h) (hh : h.length = m) (hR : R ≤ 8) (hC : 0 < C ∧ C ≤ 8) (hm : ∀ k, k < m → k / C < R) (hm64 : m ≤ 64) (hi : i < m) :
    Calls Tryd.prog 53 #[.agg #[.int .i64 (R : Int), .int .i64 (C : Int), .slice a m c], .slice ah h.length ch, .int .i64 (i : Int)] x.w fun o w' => o = .returned (.int .i64 (orNeg (nextV C h i))) ∧ ∃ y : Since w, w' = y.w := by
  have HH := Lib.hid hH
  have Hyes := Lib.hid (fun j k => next_yes (C := C) (i := i) hh (j := j) (k := k))
  have Hno := Lib.hid (next_no (C := C) (i := i) hh)
  have Hm := Lib.hid hm
  have Hi := Lib.hid (hm i hi)
  have Hh := Lib.hid hh
  have HfV := Lib.hid (show ∀ q, fitV C i 2 q = true from fun q => rfl)
  generalize orNeg (nextV C h i) = U at *
  rw [hh]
  clear hH hh hm hi
  go_enter Tryd.func53, Tryd.ntmps53
  go_upto_region 1 with fail
  have hb0_0 : ∀ y : Since ((x.w.alloc (.cells #[.int .i64 (R : Int), .int .i64 (C : Int), .slice a m c] 31)).alloc (.cells #[.int .i64 (i : Int)] 3)), y.w.cell? ⟨x.w.heap.size, 0, none⟩ = some (.int .i64 (R : Int)) := fun y => Since.cell (by simp [go_sem]) (by first | (simp; done) | (simp; omega)) y
  have hb0_1 : ∀ y : Since ((x.w.alloc (.cells #[.int .i64 (R : Int), .int .i64 (C : Int), .slice a m c] 31)).alloc (.cells #[.int .i64 (i : Int)] 3)), y.w.cell? ⟨x.w.heap.size, 1, none⟩ = some (.int .i64 (C : Int)) := fun y => Since.cell (by simp [go_sem]) (by first | (simp; done) | (simp; omega)) y
  have hb0_2 : ∀ y : Since ((x.w.alloc (.cells #[.int .i64 (R : Int), .int .i64 (C : Int), .slice a m c] 31)).alloc (.cells #[.int .i64 (i : Int)] 3)), y.w.cell? ⟨x.w.heap.size, 2, none⟩ = some (.slice a m c) := fun y => Since.cell (by simp [go_sem]) (by first | (simp; done) | (simp; omega)) y
  have hf0 : ∀ (y : Since ((x.w.alloc (.cells #[.int .i64 (R : Int), .int .i64 (C : Int), .slice a m c] 31)).alloc (.cells #[.int .i64 (i : Int)] 3))) (o : Nat), y.w.frozen? ⟨x.w.heap.size, o, none⟩ = false := fun y o => Since.free (by simp [go_sem]) (by first | (simp; done) | (simp; omega)) y
  have hb1_0 : ∀ y : Since ((x.w.alloc (.cells #[.int .i64 (R : Int), .int .i64 (C : Int), .slice a m c] 31)).alloc (.cells #[.int .i64 (i : Int)] 3)), y.w.cell? ⟨x.w.heap.size + 1, 0, none⟩ = some (.int .i64 (i : Int)) := fun y => Since.cell (by simp [go_sem]) (by first | (simp; done) | (simp; omega)) y
  have hf1 : ∀ (y : Since ((x.w.alloc (.cells #[.int .i64 (R : Int), .int .i64 (C : Int), .slice a m c] 31)).alloc (.cells #[.int .i64 (i : Int)] 3))) (o : Nat), y.w.frozen? ⟨x.w.heap.size + 1, o, none⟩ = false := fun y o => Since.free (by simp [go_sem]) (by first | (simp; done) | (simp; omega)) y
  have hWup : ∃ z : Since w, ((x.w.alloc (.cells #[.int .i64 (R : Int), .int .i64 (C : Int), .slice a m c] 31)).alloc (.cells #[.int .i64 (i : Int)] 3)) = z.w := Since.allocs x [.cells #[.int .i64 (R : Int), .int .i64 (C : Int), .slice a m c] 31, .cells #[.int .i64 (i : Int)] 3]
  obtain ⟨y0, hy0⟩ := Since.refl ((x.w.alloc (.cells #[.int .i64 (R : Int), .int .i64 (C : Int), .slice a m c] 31)).alloc (.cells #[.int .i64 (i : Int)] 3))
  have Hbx := Lib.hid (And.intro x.b.size (show x.w.heap.size + 2 = ((x.w.alloc (.cells #[.int .i64 (R : Int), .int .i64 (C : Int), .slice a m c] 31)).alloc (.cells #[.int .i64 (i : Int)] 3)).heap.size from by simp))
  generalize hW : ((x.w.alloc (.cells #[.int .i64 (R : Int), .int .i64 (C : Int), .slice a m c] 31)).alloc (.cells #[.int .i64 (i : Int)] 3)) = W at *
  clear hW
  generalize x.w.heap.size = bx at *
  have Hup := Lib.hid (Since.up hWup)
  rw [hy0]
  clear hy0
  replace HH := Lib.hid (HH.out.to hWup)
  clear hWup
  go_upto_region 2 with fail
  have hx0 : (y0.w.alloc (.cells #[.func (.func 75) #[] #[.pointer (some ⟨bx, 0, none⟩), .pointer (some ⟨bx + 1, 0, none⟩)], .func (.func 76) #[] #[.pointer (some ⟨bx, 0, none⟩), .pointer (some ⟨bx + 1, 0, none⟩)], .func (.func 77) #[] #[]] 118)).cell? ⟨y0.w.heap.size, 0, none⟩ = some (.func (.func 75) #[] #[.pointer (some ⟨bx, 0, none⟩), .pointer (some ⟨bx + 1, 0, none⟩)]) := by simp [go_sem]
  have hx1 : (y0.w.alloc (.cells #[.func (.func 75) #[] #[.pointer (some ⟨bx, 0, none⟩), .pointer (some ⟨bx + 1, 0, none⟩)], .func (.func 76) #[] #[.pointer (some ⟨bx, 0, none⟩), .pointer (some ⟨bx + 1, 0, none⟩)], .func (.func 77) #[] #[]] 118)).cell? ⟨y0.w.heap.size, 1, none⟩ = some (.func (.func 76) #[] #[.pointer (some ⟨bx, 0, none⟩), .pointer (some ⟨bx + 1, 0, none⟩)]) := by simp [go_sem]
  have hx2 : (y0.w.alloc (.cells #[.func (.func 75) #[] #[.pointer (some ⟨bx, 0, none⟩), .pointer (some ⟨bx + 1, 0, none⟩)], .func (.func 76) #[] #[.pointer (some ⟨bx, 0, none⟩), .pointer (some ⟨bx + 1, 0, none⟩)], .func (.func 77) #[] #[]] 118)).cell? ⟨y0.w.heap.size, 2, none⟩ = some (.func (.func 77) #[] #[]) := by simp [go_sem]
  have hxf : ∀ o, (y0.w.alloc (.cells #[.func (.func 75) #[] #[.pointer (some ⟨bx, 0, none⟩), .pointer (some ⟨bx + 1, 0, none⟩)], .func (.func 76) #[] #[.pointer (some ⟨bx, 0, none⟩), .pointer (some ⟨bx + 1, 0, none⟩)], .func (.func 77) #[] #[]] 118)).frozen? ⟨y0.w.heap.size, o, none⟩ = false := fun o => by simp [go_sem]
  have hlt0 : y0.w.heap.size < (y0.w.alloc (.cells #[.func (.func 75) #[] #[.pointer (some ⟨bx, 0, none⟩), .pointer (some ⟨bx + 1, 0, none⟩)], .func (.func 76) #[] #[.pointer (some ⟨bx, 0, none⟩), .pointer (some ⟨bx + 1, 0, none⟩)], .func (.func 77) #[] #[]] 118)).heap.size := by simp
  have hst0 : ∃ zz : Since y0.w, (y0.w.alloc (.cells #[.func (.func 75) #[] #[.pointer (some ⟨bx, 0, none⟩), .pointer (some ⟨bx + 1, 0, none⟩)], .func (.func 76) #[] #[.pointer (some ⟨bx, 0, none⟩), .pointer (some ⟨bx + 1, 0, none⟩)], .func (.func 77) #[] #[]] 118)) = zz.w := IsSince.alloc (IsSince.self _) _
  have hsz0 := y0.b.size
  obtain ⟨y1, e2⟩ := IsSince.alloc (IsSince.of y0) (.cells #[.func (.func 75) #[] #[.pointer (some ⟨bx, 0, none⟩), .pointer (some ⟨bx + 1, 0, none⟩)], .func (.func 76) #[] #[.pointer (some ⟨bx, 0, none⟩), .pointer (some ⟨bx + 1, 0, none⟩)], .func (.func 77) #[] #[]] 118)
  rw [e2] at hx0 hx1 hx2 hxf hlt0 hst0 ⊢
  skip
  clear e2 hst0
  generalize y0.w.heap.size = gs at *
  have Hhx0 : ∀ q : Since y1.w, q.w.cell? ⟨gs, 0, none⟩ = some (.func (.func 75) #[] #[.pointer (some ⟨bx, 0, none⟩), .pointer (some ⟨bx + 1, 0, none⟩)]) := fun q => Since.cell hx0 (by omega) q
  have Hhx1 : ∀ q : Since y1.w, q.w.cell? ⟨gs, 1, none⟩ = some (.func (.func 76) #[] #[.pointer (some ⟨bx, 0, none⟩), .pointer (some ⟨bx + 1, 0, none⟩)]) := fun q => Since.cell hx1 (by omega) q
  have Hhx2 : ∀ q : Since y1.w, q.w.cell? ⟨gs, 2, none⟩ = some (.func (.func 77) #[] #[]) := fun q => Since.cell hx2 (by omega) q
  have Hhxf : ∀ (q : Since y1.w) (o : Nat), q.w.frozen? ⟨gs, o, none⟩ = false := fun q o => Since.free (hxf o) (by omega) q
  have Hhxg := Lib.hid (And.intro hsz0 hlt0)
  clear hlt0 hsz0
  have Hz1 := Lib.hid (fun q : Since y1.w => show ∃ z : Since w, q.w = z.w from by obtain ⟨z2, h2⟩ := y1.trans q; rw [h2]; exact Hup.out z2)
  go_loopw [14] (fun si wr => ∃ (j : Nat) (y : Since y1.w), j ≤ 3 ∧ si = .int .i64 (j : Int) ∧ wr = y.w ∧ ∀ j', j' < j → ∀ q, q < m → (!bo h q && fitV C i j' q) = false) (fun si _ => 3 - (intOf si).toNat)
  case atStart => exact ⟨0, Since.self _, by omega, rfl, rfl, fun j hj => by omega⟩
  case round =>
    obtain ⟨j, y, hj, rfl, rfl, hl⟩ := hrel
    have Hl := Lib.hid hl
    clear hl
    by_cases hlt : j < 3
    · have Hy2 := Lib.hid (Hyes.out j)
      clear Hyes Hno
      obtain rfl | rfl | rfl : j = 0 ∨ j = 1 ∨ j = 2 := by omega
      · rw [show (((0 : Nat)) : Int) = 0 from rfl]
        have HF := Lib.hid (fun (k : Nat) (hlt2 : k < m) (z : Since y1.w) => next0_calls y1.w z R C i k bx (bx + 1) hR hC Hi.out (Hm.out k hlt2) (Since.cellTo ⟨y1, rfl⟩ hb0_1) (Since.cellTo ⟨y1, rfl⟩ hb1_0))
        go_upto_region 5 with fail
        go_loopw [20] (fun si wr => ∃ (k : Nat) (y : Since y1.w), k ≤ m ∧ si = .int .i64 (k : Int) ∧ wr = y.w ∧ ∀ q, q < k → (!bo h q && fitV C i 0 q) = false) (fun si _ => m - (intOf si).toNat)
        case atStart => exact ⟨0, y, by omega, rfl, rfl, fun j hj => by omega⟩
        case round =>
          obtain ⟨k, y3, hk, rfl, rfl, hn⟩ := hrel
          have Hn := Lib.hid hn
          clear hn
          by_cases hlt2 : k < m
          · have hk0 : (0 : Int) ≤ (k : Int) := by omega
            have hkl : (k : Int) < (m : Int) := by omega
            obtain ⟨b2, o2, rfl, hb2, hc2'⟩ := HH.out k (by have := Hh.out; omega)
            have f1 : ∀ q : Since W, q.w.cell? ⟨b2, o2 + k, none⟩ = some (.bool (bo h k)) := fun q => Since.cell hc2' hb2 q
            have f1 := (Since.cellTo ⟨y1, rfl⟩ f1) y3
            clear hb2 hc2'
            have HC := Lib.hid (HF.out k hlt2 y3)
            have Hst := Lib.hid (fun (hp : (!bo h k && fitV C i 0 k) = false) q (hq : q < k + 1) => show (!bo h q && fitV C i 0 q) = false from by
              by_cases e : q = k
              · rw [e]; exact hp
              · exact Hn.out q (by omega))
            have Hye := Lib.hid (fun (hp : (!bo h k && fitV C i 0 k) = true) => Hy2.out k (by omega) Hl.out hlt2 hp Hn.out)
            clear HF Hy2
            generalize fitV C i 0 k = V at *
            cases hb : bo h k
            · rw [hb] at f1 Hst Hye
              cases V
              · clear Hye
                go_wp2_with (go_at_call 75; ((with_reducible refine HC.out.mono ?_); rintro _ _ ⟨rfl, y4, rfl⟩))
                go_roundw
                case rel => exact ⟨k + 1, y4, by omega, by go_num, rfl, Hst.out rfl⟩
                case measure => simp [intOf] <;> omega
              · have HU := Lib.hid (Hye.out rfl)
                clear Hst Hye
                go_wp2_with (go_at_call 75; ((with_reducible refine HC.out.mono ?_); rintro _ _ ⟨rfl, y4, rfl⟩))
                go_ret
                exact ⟨ret_int HU.out.symm, Hz1.out _⟩
            · rw [hb] at f1 Hst
              clear Hye HC
              go_wp2_with fail
              go_roundw
              case rel => exact ⟨k + 1, y3, by omega, by go_num, rfl, Hst.out rfl⟩
              case measure => simp [intOf] <;> omega
          · obtain rfl : k = m := by omega
            have Hl2 := Lib.hid (fun j' (hj' : j' < 1) => show ∀ q, q < k → (!bo h q && fitV C i j' q) = false from by
              by_cases e : j' = 0
              · rw [e]; exact Hn.out
              · exact Hl.out j' (by omega))
            clear HF Hy2
            go_wp2_with fail
            go_roundw
            case rel => exact ⟨1, y3, by omega, by go_num, rfl, Hl2.out⟩
            case measure => simp [intOf] <;> omega
      · rw [show (((1 : Nat)) : Int) = 1 from rfl]
        have HF := Lib.hid (fun (k : Nat) (hlt2 : k < m) (z : Since y1.w) => next1_calls y1.w z R C i k bx (bx + 1) hR hC Hi.out (Hm.out k hlt2) (Since.cellTo ⟨y1, rfl⟩ hb0_1) (Since.cellTo ⟨y1, rfl⟩ hb1_0))
        go_upto_region 5 with fail
        go_loopw [20] (fun si wr => ∃ (k : Nat) (y : Since y1.w), k ≤ m ∧ si = .int .i64 (k : Int) ∧ wr = y.w ∧ ∀ q, q < k → (!bo h q && fitV C i 1 q) = false) (fun si _ => m - (intOf si).toNat)
        case atStart => exact ⟨0, y, by omega, rfl, rfl, fun j hj => by omega⟩
        case round =>
          obtain ⟨k, y3, hk, rfl, rfl, hn⟩ := hrel
          have Hn := Lib.hid hn
          clear hn
          by_cases hlt2 : k < m
          · have hk0 : (0 : Int) ≤ (k : Int) := by omega
            have hkl : (k : Int) < (m : Int) := by omega
            obtain ⟨b2, o2, rfl, hb2, hc2'⟩ := HH.out k (by have := Hh.out; omega)
            have f1 : ∀ q : Since W, q.w.cell? ⟨b2, o2 + k, none⟩ = some (.bool (bo h k)) := fun q => Since.cell hc2' hb2 q
            have f1 := (Since.cellTo ⟨y1, rfl⟩ f1) y3
            clear hb2 hc2'
            have HC := Lib.hid (HF.out k hlt2 y3)
            have Hst := Lib.hid (fun (hp : (!bo h k && fitV C i 1 k) = false) q (hq : q < k + 1) => show (!bo h q && fitV C i 1 q) = false from by
              by_cases e : q = k
              · rw [e]; exact hp
              · exact Hn.out q (by omega))
            have Hye := Lib.hid (fun (hp : (!bo h k && fitV C i 1 k) = true) => Hy2.out k (by omega) Hl.out hlt2 hp Hn.out)
            clear HF Hy2
            generalize fitV C i 1 k = V at *
            cases hb : bo h k
            · rw [hb] at f1 Hst Hye
              cases V
              · clear Hye
                go_wp2_with (go_at_call 76; ((with_reducible refine HC.out.mono ?_); rintro _ _ ⟨rfl, y4, rfl⟩))
                go_roundw
                case rel => exact ⟨k + 1, y4, by omega, by go_num, rfl, Hst.out rfl⟩
                case measure => simp [intOf] <;> omega
              · have HU := Lib.hid (Hye.out rfl)
                clear Hst Hye
                go_wp2_with (go_at_call 76; ((with_reducible refine HC.out.mono ?_); rintro _ _ ⟨rfl, y4, rfl⟩))
                go_ret
                exact ⟨ret_int HU.out.symm, Hz1.out _⟩
            · rw [hb] at f1 Hst
              clear Hye HC
              go_wp2_with fail
              go_roundw
              case rel => exact ⟨k + 1, y3, by omega, by go_num, rfl, Hst.out rfl⟩
              case measure => simp [intOf] <;> omega
          · obtain rfl : k = m := by omega
            have Hl2 := Lib.hid (fun j' (hj' : j' < 2) => show ∀ q, q < k → (!bo h q && fitV C i j' q) = false from by
              by_cases e : j' = 1
              · rw [e]; exact Hn.out
              · exact Hl.out j' (by omega))
            clear HF Hy2
            go_wp2_with fail
            go_roundw
            case rel => exact ⟨2, y3, by omega, by go_num, rfl, Hl2.out⟩
            case measure => simp [intOf] <;> omega
      · rw [show (((2 : Nat)) : Int) = 2 from rfl]
        have HF := Lib.hid (fun (k : Nat) (hlt2 : k < m) (z : Since y1.w) => next2_calls y1.w z C i k)
        go_upto_region 5 with fail
        go_loopw [20] (fun si wr => ∃ (k : Nat) (y : Since y1.w), k ≤ m ∧ si = .int .i64 (k : Int) ∧ wr = y.w ∧ ∀ q, q < k → (!bo h q && fitV C i 2 q) = false) (fun si _ => m - (intOf si).toNat)
        case atStart => exact ⟨0, y, by omega, rfl, rfl, fun j hj => by omega⟩
        case round =>
          obtain ⟨k, y3, hk, rfl, rfl, hn⟩ := hrel
          have Hn := Lib.hid hn
          clear hn
          by_cases hlt2 : k < m
          · have hk0 : (0 : Int) ≤ (k : Int) := by omega
            have hkl : (k : Int) < (m : Int) := by omega
            obtain ⟨b2, o2, rfl, hb2, hc2'⟩ := HH.out k (by have := Hh.out; omega)
            have f1 : ∀ q : Since W, q.w.cell? ⟨b2, o2 + k, none⟩ = some (.bool (bo h k)) := fun q => Since.cell hc2' hb2 q
            have f1 := (Since.cellTo ⟨y1, rfl⟩ f1) y3
            clear hb2 hc2'
            have HC := Lib.hid (HF.out k hlt2 y3)
            have Hst := Lib.hid (fun (hp : (!bo h k && fitV C i 2 k) = false) q (hq : q < k + 1) => show (!bo h q && fitV C i 2 q) = false from by
              by_cases e : q = k
              · rw [e]; exact hp
              · exact Hn.out q (by omega))
            have Hye := Lib.hid (fun (hp : (!bo h k && fitV C i 2 k) = true) => Hy2.out k (by omega) Hl.out hlt2 hp Hn.out)
            clear HF Hy2
            generalize fitV C i 2 k = V at *
            cases hb : bo h k
            · rw [hb] at f1 Hst Hye
              cases V
              · clear Hye
                go_wp2_with (go_at_call 77; ((with_reducible refine HC.out.mono ?_); rintro _ _ ⟨rfl, y4, rfl⟩))
                go_roundw
                case rel => exact ⟨k + 1, y4, by omega, by go_num, rfl, Hst.out rfl⟩
                case measure => simp [intOf] <;> omega
              · have HU := Lib.hid (Hye.out rfl)
                clear Hst Hye
                go_wp2_with (go_at_call 77; ((with_reducible refine HC.out.mono ?_); rintro _ _ ⟨rfl, y4, rfl⟩))
                go_ret
                exact ⟨ret_int HU.out.symm, Hz1.out _⟩
            · rw [hb] at f1 Hst
              clear Hye HC
              go_wp2_with fail
              go_roundw
              case rel => exact ⟨k + 1, y3, by omega, by go_num, rfl, Hst.out rfl⟩
              case measure => simp [intOf] <;> omega
          · obtain rfl : k = m := by omega
            have Hl2 := Lib.hid (fun j' (hj' : j' < 3) => show ∀ q, q < k → (!bo h q && fitV C i j' q) = false from by
              by_cases e : j' = 2
              · rw [e]; exact Hn.out
              · exact Hl.out j' (by omega))
            clear HF Hy2
            go_wp2_with fail
            go_roundw
            case rel => exact ⟨3, y3, by omega, by go_num, rfl, Hl2.out⟩
            case measure => simp [intOf] <;> omega
    · obtain rfl : j = 3 := by omega
      have HU := Lib.hid (Hno.out Hl.out)
      clear Hyes Hno
      go_wp2_with fail
      go_ret
      exact ⟨ret_int HU.out.symm, Hz1.out _⟩
end Go.Proofs.YtdkcclngionihaaDoor
/- Hiding cells, walked. -/
namespace Go.Proofs.YtdkcclngionihaaDoor
open Go.RowKit

theorem sBoolF : SliceOf Tryd.prog 32 4 (.bool false) 1 1 := SliceOf.mk' Tryd.underlying32 (by kernel_rfl) rfl (by decide)
theorem BoxIs.bools {w : World} {g : Nat} {F : List Bool} (h : BoxIs w g (F.map .bool)) : BlRow w (some ⟨g, 0, none⟩) F := by
  intro i hi
  refine ⟨g, 0, rfl, h.lt, ?_⟩
  rw [Nat.zero_add]
  refine h.c i _ ?_
  rw [List.getElem?_map, List.getElem?_eq_getElem hi]
  simp [bo, List.getD_eq_getElem?_getD, List.getElem?_eq_getElem hi]
theorem bo_set (h : List Bool) (k j : Nat) (b : Bool) (hk : k < h.length) : bo (h.set k b) j = if j = k then b else bo h j := by
  unfold bo
  rw [List.getD_eq_getElem?_getD, List.getD_eq_getElem?_getD, List.getElem?_set]
  by_cases e : k = j
  · subst e; rw [if_pos rfl, if_pos rfl, if_pos hk]; rfl
  · rw [if_neg e, if_neg (Ne.symm e)]
theorem bo_ext {h k : List Bool} (hl : h.length = k.length) (he : ∀ j, j < h.length → bo h j = bo k j) : h = k := by
  refine List.ext_getElem hl fun i h1 h2 => ?_
  have := he i h1
  unfold bo at this
  simpa [List.getD_eq_getElem?_getD, List.getElem?_eq_getElem h1, List.getElem?_eq_getElem h2] using this
theorem bo_map (f : Int → Bool) (l : List Int) (j : Nat) (hj : j < l.length) : bo (l.map f) j = f (at0 l j) := by
  unfold bo at0
  simp [List.getD_eq_getElem?_getD, List.getElem?_eq_getElem hj]
/-- a whole box is copied into another one -/
theorem copyB_run {w : World} {gd gs n : Nat} {vs us : List Value} (hd : BoxIs w gd vs) (hs : BoxIs w gs us) (hv : vs.length = n) (hu : us.length = n) (h1 : ∀ v ∈ us, v.oneCell' = true) (t ty e : TypeId) (z : Value) (bytes : Nat) (ht : SliceOf Tryd.prog t e z 1 bytes) :
    (Builtin.copy_ #[t, t] ty #[.slice (some ⟨gd, 0, none⟩) n n, .slice (some ⟨gs, 0, none⟩) n n]).run Tryd.prog w = .ok (goInt (n : Nat)) (w.setCells gd 0 us) := by
  obtain ⟨i, hi, hz, hsize, hby⟩ := ht.e
  have h := run_copyK (P := Tryd.prog) w t t ty e 1 gd 0 n n ⟨gs, 0, none⟩ n n us ht.t (by rw [hi]; simp [hsize]) (by rw [hu]; simp) (fun j v hv => by rw [Addr.add_lit, Nat.zero_add]; exact hs.c j v hv)
    (fun j hj => by
      have hj' : j < vs.length := by omega
      rw [Nat.zero_add, hd.c j _ (List.getElem?_eq_getElem hj')]; rfl) (fun j hj => hd.f _) h1
  rw [show Nat.min n n = n from Nat.min_self n] at h
  exact h
/-- how many cells of a box are not hidden -/
noncomputable def openF (w : World) (g m : Nat) : Nat := open Classical in ((List.range m).filter fun j => decide (w.cell? ⟨g, j, none⟩ = some (.bool false))).length
def cntF (h : List Bool) : Nat := ((List.range h.length).filter fun j => !bo h j).length
theorem openF_box {w : World} {g m : Nat} {h : List Bool} (hb : BoxIs w g (h.map .bool)) (hm : h.length = m) : openF w g m = cntF h := by
  unfold openF cntF
  rw [hm]
  congr 1
  refine List.filter_congr fun j hj => ?_
  rw [List.mem_range] at hj
  have := hb.c j (.bool (bo h j)) (by rw [List.getElem?_map, List.getElem?_eq_getElem (by omega)]; simp [bo, List.getD_eq_getElem?_getD, List.getElem?_eq_getElem (show j < h.length by omega)])
  rw [this]
  cases bo h j <;> simp
theorem filterS_le {p q : Nat → Bool} : ∀ (l : List Nat), (∀ j ∈ l, q j = true → p j = true) → (l.filter q).length ≤ (l.filter p).length
  | [], _ => Nat.le_refl _
  | a :: l, h => by
    have := filterS_le l fun j hj => h j (List.mem_cons_of_mem _ hj)
    have ha := h a (List.mem_cons_self ..)
    simp only [List.filter_cons]
    cases hq : q a
    · cases p a <;> simp <;> omega
    · rw [ha hq]; simp; omega
theorem filterS_lt {p q : Nat → Bool} {k : Nat} : ∀ (l : List Nat), (∀ j ∈ l, q j = true → p j = true) → k ∈ l → p k = true → q k = false → (l.filter q).length < (l.filter p).length
  | a :: l, h, hk, hp, hq => by
    have hl := filterS_le l fun j hj => h j (List.mem_cons_of_mem _ hj)
    have ha := h a (List.mem_cons_self ..)
    simp only [List.filter_cons]
    rcases List.mem_cons.1 hk with rfl | hk
    · rw [hp, hq]; simp; omega
    · have := filterS_lt l (fun j hj => h j (List.mem_cons_of_mem _ hj)) hk hp hq
      cases hq : q a
      · cases p a <;> simp <;> omega
      · rw [ha hq]; simp; omega
theorem cntF_set {h : List Bool} {k : Nat} (hk : k < h.length) (hb : bo h k = false) : cntF (h.set k true) < cntF h := by
  unfold cntF
  rw [List.length_set]
  refine filterS_lt (k := k) _ (fun j hj hq => ?_) (by simpa using hk) (by rw [hb]; rfl) (by rw [bo_set _ _ _ _ hk, if_pos rfl]; rfl)
  rw [bo_set _ _ _ _ hk] at hq
  by_cases e : j = k
  · rw [if_pos e] at hq; cases hq
  · rw [if_neg e] at hq; exact hq
theorem cntF_le (h : List Bool) : cntF h ≤ h.length := by
  have := List.length_filter_le (fun j => !bo h j) (List.range h.length)
  rw [List.length_range] at this
  exact this
theorem nextV_some {C i k : Nat} {h : List Bool} (hn : nextV C h i = some k) : k < h.length ∧ bo h k = false := by
  have key : ∀ p : Nat → Bool, fstP (fun k => !bo h k && p k) h.length = some k → k < h.length ∧ bo h k = false := fun p hp => by
    obtain ⟨h1, h2⟩ := fstP_mem hp
    refine ⟨h1, ?_⟩
    cases hb : bo h k
    · rfl
    · simp [hb] at h2
  rw [nextV_eq (i := i) rfl] at hn
  rcases h0 : fstP (fun k => !bo h k && fitV C i 0 k) h.length with _ | a
  · rw [h0, Option.none_or] at hn
    rcases h1 : fstP (fun k => !bo h k && fitV C i 1 k) h.length with _ | a
    · rw [h1, Option.none_or] at hn
      exact key _ hn
    · rw [h1, Option.some_or] at hn
      exact key _ (h1.trans hn)
  · rw [h0, Option.some_or, Option.some_or] at hn
    exact key _ (h0.trans hn)
theorem hideF_len {R C : Nat} {l : List Int} {width : Int} : ∀ (f : Nat) (h k : List Bool), hideF R C l width f h = some k → k.length = h.length
  | 0, _, _, e => by cases e
  | f + 1, h, k, e => by
    rw [hideF] at e
    cases hu : unsV R C l h width with
    | none => rw [hu] at e; simp at e; rw [← e]
    | some i =>
      rw [hu] at e
      dsimp only at e
      cases hn : nextV C h i with
      | none => rw [hn] at e; cases e
      | some j => rw [hn] at e; dsimp only at e; rw [hideF_len f _ _ e, List.length_set]
theorem hideV_len {R C : Nat} {l : List Int} {least width : Int} {h : List Bool} (e : hideV R C l least width = some h) : h.length = l.length := by
  rw [hideF_len _ _ _ e, List.length_map]
theorem hideF_step {R C : Nat} {l : List Int} {h : List Bool} {width : Int} {f i k : Nat} (hu : unsV R C l h width = some i) (hn : nextV C h i = some k) : hideF R C l width (f + 1) h = hideF R C l width f (h.set k true) := by
  rw [hideF, hu]; dsimp only; rw [hn]
theorem hideF_no {R C : Nat} {l : List Int} {h : List Bool} {width : Int} {f i : Nat} (hu : unsV R C l h width = some i) (hn : nextV C h i = none) : hideF R C l width (f + 1) h = none := by
  rw [hideF, hu]; dsimp only; rw [hn]
def badH (least width : Int) : Prop := least < 1 ∨ 1000000 < least ∨ width < 0 ∨ 65536 < width
noncomputable def hideE (R C : Nat) (l : List Int) (least width : Int) : Int := open Classical in if badH least width then 1 else if hideV R C l least width = none then 10 else 0
def HideRes (w : World) (R C : Nat) (l : List Int) (least width : Int) (o : Ending) (w' : World) : Prop :=
  ∃ (ah : Option Addr) (n ch : Nat) (y : Since w), o = .returned (.tuple #[.slice ah n ch, .int .i64 (hideE R C l least width)]) ∧ w' = y.w ∧ (hideE R C l least width = 0 → ∃ h, hideV R C l least width = some h ∧ h.length = l.length ∧ n = l.length ∧ BlRow y.w ah h ∧ n ≤ ch ∧ ∀ b, ah = some b → w.heap.size ≤ b.block)
theorem HideRes.bad {w : World} {R C : Nat} {l : List Int} {least width : Int} (h : badH least width) (y : Since w) : HideRes w R C l least width (.returned (.tuple #[.slice none 0 0, .int .i64 1])) y.w := by
  have e : hideE R C l least width = 1 := by unfold hideE; rw [if_pos h]
  exact ⟨none, 0, 0, y, by rw [e], rfl, fun h0 => by rw [e] at h0; cases h0⟩
theorem HideRes.no {w : World} {R C : Nat} {l : List Int} {least width : Int} (h : ¬ badH least width) (hn : hideV R C l least width = none) (y : Since w) : HideRes w R C l least width (.returned (.tuple #[.slice none 0 0, .int .i64 10])) y.w := by
  have e : hideE R C l least width = 10 := by unfold hideE; rw [if_neg h, if_pos hn]
  exact ⟨none, 0, 0, y, by rw [e], rfl, fun h0 => by rw [e] at h0; cases h0⟩
theorem HideRes.yes {w : World} {R C : Nat} {l : List Int} {least width : Int} (h : ¬ badH least width) {k : List Bool} (hn : hideV R C l least width = some k) (y : Since w) {g m : Nat} (hm : m = l.length) (hb : BoxIs y.w g (k.map .bool)) (hg : w.heap.size ≤ g) : HideRes w R C l least width (.returned (.tuple #[.slice (some ⟨g, 0, none⟩) m m, .int .i64 0])) y.w := by
  have e : hideE R C l least width = 0 := by unfold hideE; rw [if_neg h, if_neg (by rw [hn]; intro h; cases h)]
  exact ⟨_, m, m, y, by rw [e], rfl, fun _ => ⟨k, hn, hideV_len hn, hm, hb.bools, Nat.le_refl _, fun b e => by cases e; exact hg⟩⟩
theorem one_bools (l : List Bool) : ∀ v ∈ l.map Value.bool, v.oneCell' = true := by
  intro v hv
  obtain ⟨b, _, rfl⟩ := List.mem_map.1 hv
  rfl
set_option linter.unusedSimpArgs false in
set_option maxRecDepth 100000 in
set_option maxHeartbeats 8000000 in
theorem hide_calls (w : World) (x : Since w) (R C : Nat) (l : List Int) (least width : Int) (a : Option Addr) (c : Nat) (hL : IntRow w a l) (hG : SG R C l) :
    Calls Tryd.prog 31 #[.agg #[.int .i64 (R : Int), .int .i64 (C : Int), .slice a l.length c], .int .i64 least, .int .i64 width] x.w (HideRes w R C l least width) := by
  have HL := Lib.hid hL
  have HG := Lib.hid hG
  have HBad := Lib.hid (fun (h : badH least width) (y : Since w) => HideRes.bad (R := R) (C := C) (l := l) h y)
  have HNo := Lib.hid (fun (h : ¬ badH least width) (hn : hideV R C l least width = none) (y : Since w) => HideRes.no h hn y)
  have HYes := Lib.hid (fun (h : ¬ badH least width) (k : List Bool) (hn : hideV R C l least width = some k) (y : Since w) (g m : Nat) => HideRes.yes (w := w) h hn y (g := g) (m := m))
  have HD := Lib.hid (show hideV R C l least width = hideF R C l width (l.length + 1) (l.map (smallB least)) from rfl)
  generalize HideRes w R C l least width = PO at *
  generalize hideV R C l least width = HV at *
  have hm1 := hG.len
  obtain ⟨m, hm⟩ : ∃ m, m = l.length := ⟨_, rfl⟩
  have HC := Lib.hid (fun (w : World) (x : Since w) hL => scheck_calls w x R C l a c hL hG)
  have HU := Lib.hid (fun (w : World) (x : Since w) (h : List Bool) (ah : Option Addr) (ch : Nat) hL hH hh => unsf_calls w x R C l h width a ah c ch hL hH hG hh)
  have HX := Lib.hid (fun (w : World) (x : Since w) (h : List Bool) (ah : Option Addr) (ch i : Nat) hH hh hi => next_calls w x R C i m h a ah c ch hH hh hG.r.2 ⟨hG.c.1, hG.c.2⟩ (fun k hk => (hG.cell (i := k) (by omega)).1) (by omega) hi)
  rw [← hm] at HC HU
  rw [← hm]
  have hm64 : m ≤ 64 := by omega
  have Hm := Lib.hid hm
  clear hL hG hm hm1
  go_enter Tryd.func31, Tryd.ntmps31
  go_upto_region 1 with fail
  have hb0_0 : ∀ y : Since (x.w.alloc (.cells #[.int .i64 (R : Int), .int .i64 (C : Int), .slice a m c] 31)), y.w.cell? ⟨x.w.heap.size, 0, none⟩ = some (.int .i64 (R : Int)) := fun y => Since.cell (by simp [go_sem]) (by first | (simp; done) | (simp; omega)) y
  have hb0_1 : ∀ y : Since (x.w.alloc (.cells #[.int .i64 (R : Int), .int .i64 (C : Int), .slice a m c] 31)), y.w.cell? ⟨x.w.heap.size, 1, none⟩ = some (.int .i64 (C : Int)) := fun y => Since.cell (by simp [go_sem]) (by first | (simp; done) | (simp; omega)) y
  have hb0_2 : ∀ y : Since (x.w.alloc (.cells #[.int .i64 (R : Int), .int .i64 (C : Int), .slice a m c] 31)), y.w.cell? ⟨x.w.heap.size, 2, none⟩ = some (.slice a m c) := fun y => Since.cell (by simp [go_sem]) (by first | (simp; done) | (simp; omega)) y
  have hf0 : ∀ (y : Since (x.w.alloc (.cells #[.int .i64 (R : Int), .int .i64 (C : Int), .slice a m c] 31))) (o : Nat), y.w.frozen? ⟨x.w.heap.size, o, none⟩ = false := fun y o => Since.free (by simp [go_sem]) (by first | (simp; done) | (simp; omega)) y
  have hWup : ∃ z : Since w, (x.w.alloc (.cells #[.int .i64 (R : Int), .int .i64 (C : Int), .slice a m c] 31)) = z.w := x.alloc _
  obtain ⟨y0, hy0⟩ := Since.refl (x.w.alloc (.cells #[.int .i64 (R : Int), .int .i64 (C : Int), .slice a m c] 31))
  have Hbx := Lib.hid (And.intro x.b.size (show x.w.heap.size + 1 = (x.w.alloc (.cells #[.int .i64 (R : Int), .int .i64 (C : Int), .slice a m c] 31)).heap.size from by simp))
  generalize hW : (x.w.alloc (.cells #[.int .i64 (R : Int), .int .i64 (C : Int), .slice a m c] 31)) = W at *
  clear hW
  generalize x.w.heap.size = bx at *
  have Hup := Lib.hid (Since.up hWup)
  rw [hy0]
  clear hy0
  replace HL := Lib.hid (HL.out.to hWup)
  clear hWup hf0
  have H1 := Lib.hid (HC.out W y0 HL.out)
  go_upto_region 2 with (go_at_call 46; ((with_reducible refine H1.out.mono ?_); rintro _ _ ⟨rfl, y1, rfl⟩))
  clear H1 HC
  by_cases hbad : badH least width
  · have HB := Lib.hid (fun y : Since W => show PO (.returned (.tuple #[.slice none 0 0, .int .i64 1])) y.w from by obtain ⟨z, hz⟩ := Hup.out y; rw [hz]; exact HBad.out hbad z)
    have hd : (decide (least < 1) || decide (1000000 < least) || decide (width < 0) || decide (65536 < width)) = true := by unfold badH at hbad; simp only [Bool.or_eq_true, decide_eq_true_eq]; omega
    clear hbad HBad HNo HYes
    go_wp2_with fail
    all_goals exact HB.out y1
  · have HNo2 := Lib.hid (HNo.out hbad)
    have HYes2 := Lib.hid (HYes.out hbad)
    clear HBad HNo HYes
    obtain ⟨h1, h2, h3, h4⟩ : 1 ≤ least ∧ least ≤ 1000000 ∧ 0 ≤ width ∧ width ≤ 65536 := by unfold badH at hbad; omega
    clear hbad
    go_upto_region 8 with fail
    have hmk := fun q : World => make1_run sBoolF rfl m (by omega) (by omega) q
    go_upto_region 9 with fail
    obtain ⟨y2, hy2⟩ := y1.alloc (.cells (List.replicate m (Value.bool false)).toArray 4)
    have hb := BoxIs.new y1.w (List.replicate m (Value.bool false)) 4
    have hgW : W.heap.size ≤ y1.w.heap.size := y1.b.size
    rw [List.toArray_replicate] at hy2 hb
    rw [hy2] at hb ⊢
    have hb2 : BoxIs y2.w y1.w.heap.size ((List.replicate m false).map Value.bool) := by rw [List.map_replicate]; exact hb
    have HB := Lib.hid hb2
    clear hb hb2 hy2
    generalize y1.w.heap.size = gs at *
    go_upto_region 10 with fail
    go_loopw [51] (fun si wr => ∃ (k : Nat) (h : List Bool) (y : Since W), k ≤ m ∧ si = .int .i64 (k : Int) ∧ wr = y.w ∧ h.length = m ∧ BoxIs y.w gs (h.map .bool) ∧ ∀ j, j < k → bo h j = smallB least (at0 l j)) (fun si _ => m - (intOf si).toNat)
    case atStart => exact ⟨0, _, y2, by omega, rfl, rfl, by simp, HB.out, fun j hj => by omega⟩
    case round =>
      clear HB
      obtain ⟨k, h, y, hk, rfl, rfl, hl, hB, hs⟩ := hrel
      have HB := Lib.hid hB; have Hs := Lib.hid hs; have Hl := Lib.hid hl
      clear hB hs hl
      by_cases hlt : k < m
      · have hk0 : (0 : Int) ≤ (k : Int) := by omega
        have hkl : (k : Int) < (m : Int) := by omega
        obtain ⟨b1, o1, rfl, hb1, hc1'⟩ := HL.out k (by have := Hm.out; omega)
        have f0 : y.w.cell? ⟨b1, o1 + k, none⟩ = some (.int .i64 (at0 l k)) := Since.cell hc1' hb1 y
        clear hb1 hc1'
        have f1 := HB.out.c k (.bool (bo h k)) (by rw [List.getElem?_map, List.getElem?_eq_getElem (by have := Hl.out; omega)]; simp [bo, List.getD_eq_getElem?_getD, List.getElem?_eq_getElem (show k < h.length by have := Hl.out; omega)])
        have f2 := HB.out.f
        have HS := Lib.hid (show ∀ b : Bool, smallB least (at0 l k) = b → ∃ z : Since W, y.w.setCell ⟨gs, k, none⟩ (.bool b) = z.w ∧ (h.set k b).length = m ∧ BoxIs z.w gs ((h.set k b).map .bool) ∧ ∀ j, j < k + 1 → bo (h.set k b) j = smallB least (at0 l j) from fun b hb => by
          obtain ⟨z, hz⟩ := y.set ⟨gs, k, none⟩ hgW (.bool b)
          have := HB.out.setj (j := k) (by rw [List.length_map, Hl.out]; exact hlt) (.bool b)
          rw [hz] at this
          refine ⟨z, hz, by rw [List.length_set]; exact Hl.out, by rw [List.map_set]; exact this, fun j hj => ?_⟩
          rw [bo_set _ _ _ _ (by rw [Hl.out]; exact hlt)]
          by_cases e : j = k
          · rw [if_pos e, e, hb]
          · rw [if_neg e]; exact Hs.out j (by omega))
        have Hd := Lib.hid (show smallB least (at0 l k) = (decide (1 ≤ at0 l k) && decide (at0 l k < least)) from rfl)
        generalize at0 l k = e at *
        by_cases d1 : 1 ≤ e
        · by_cases d2 : e < least
          · obtain ⟨z, hz, hz2, hz3, hz4⟩ := HS.out true (by rw [Hd.out, decide_eq_true d1, decide_eq_true d2]; rfl)
            have H2 := Lib.hid hz2; have H3 := Lib.hid hz3; have H4 := Lib.hid hz4
            clear hz2 hz3 hz4 HS Hd HB Hs
            go_wp2_with fail
            (try rw [hz])
            go_roundw
            case rel => exact ⟨k + 1, _, z, by omega, by go_num, rfl, H2.out, H3.out, H4.out⟩
            case measure => simp [intOf] <;> omega
          · obtain ⟨z, hz, hz2, hz3, hz4⟩ := HS.out false (by rw [Hd.out, decide_eq_false d2, Bool.and_false])
            have H2 := Lib.hid hz2; have H3 := Lib.hid hz3; have H4 := Lib.hid hz4
            clear hz2 hz3 hz4 HS Hd HB Hs
            go_wp2_with fail
            (try rw [hz])
            go_roundw
            case rel => exact ⟨k + 1, _, z, by omega, by go_num, rfl, H2.out, H3.out, H4.out⟩
            case measure => simp [intOf] <;> omega
        · obtain ⟨z, hz, hz2, hz3, hz4⟩ := HS.out false (by rw [Hd.out, decide_eq_false d1, Bool.false_and])
          have H2 := Lib.hid hz2; have H3 := Lib.hid hz3; have H4 := Lib.hid hz4
          clear hz2 hz3 hz4 HS Hd HB Hs
          go_wp2_with fail
          (try rw [hz])
          go_roundw
          case rel => exact ⟨k + 1, _, z, by omega, by go_num, rfl, H2.out, H3.out, H4.out⟩
          case measure => simp [intOf] <;> omega
      · obtain rfl : k = m := by omega
        have HE := Lib.hid (show h = l.map (smallB least) from bo_ext (by rw [Hl.out, Hm.out, List.length_map]) fun j hj => by
          rw [bo_map _ _ _ (by have := Hl.out; have := Hm.out; omega)]
          exact Hs.out j (by have := Hl.out; omega))
        clear Hs
        go_upto_region 15 with fail
        obtain ⟨y3, hy3⟩ := y.alloc (.cells (List.replicate k (Value.bool false)).toArray 4)
        have hb := BoxIs.new y.w (List.replicate k (Value.bool false)) 4
        have hgh : W.heap.size ≤ y.w.heap.size := y.b.size
        have hb1 := HB.out.up (.cells (List.replicate k (Value.bool false)).toArray 4)
        have hne : gs ≠ y.w.heap.size := by have := HB.out.lt; omega
        rw [List.toArray_replicate] at hy3 hb hb1
        rw [hy3] at hb hb1 ⊢
        clear hy3 HB hmk
        generalize y.w.heap.size = gh at *
        have hcp := copyB_run (n := k) hb hb1 (by simp) (by rw [List.length_map]; exact Hl.out) (one_bools h) 32 3 4 (.bool false) 1 sBoolF
        obtain ⟨y4, h4, hb4, _⟩ := hb.stored (B := W) ⟨y3, rfl⟩ hgh (h.map .bool) (by simp [Hl.out])
        rw [h4] at hcp
        have HB4 := Lib.hid hb4
        clear hb hb1 h4 hb4 hne
        go_upto_region 16 with fail
        clear hcp
        have HH := Lib.hid (show HV = hideF R C l width (k + 1) h ∧ cntF h < k + 1 from ⟨by rw [HD.out, HE.out, Hm.out], by have := cntF_le h; have := Hl.out; omega⟩)
        have HEx := Lib.hid (show ∃ g : List Bool, HV = hideF R C l width (k + 1) g ∧ cntF g < k + 1 ∧ g.length = k ∧ BoxIs y4.w gh (g.map .bool) from ⟨h, HH.out.1, HH.out.2, Hl.out, HB4.out⟩)
        clear HH HB4 HE Hl HD h
        go_loopw [] (fun wr => ∃ (f : Nat) (h : List Bool) (y : Since W), wr = y.w ∧ h.length = k ∧ BoxIs y.w gh (h.map .bool) ∧ HV = hideF R C l width f h ∧ cntF h < f) (fun wr => openF wr gh k)
        case atStart => obtain ⟨g, h1, h2, h3, h4⟩ := HEx.out; exact ⟨_, g, y4, rfl, h3, h4, h1, h2⟩
        case round =>
          clear HEx
          obtain ⟨f, h, y, rfl, hl, hB, hf, hcnt⟩ := hrel
          have HB := Lib.hid hB; have Hf := Lib.hid hf; have Hl := Lib.hid hl; have Hc := Lib.hid hcnt
          clear hB hf hl hcnt
          obtain ⟨q0, hq0⟩ := Since.refl y.w
          rw [hq0]
          clear hq0
          replace hb0_0 := Since.cellTo ⟨y, rfl⟩ hb0_0
          replace hb0_1 := Since.cellTo ⟨y, rfl⟩ hb0_1
          replace hb0_2 := Since.cellTo ⟨y, rfl⟩ hb0_2
          have hU := HU.out y.w q0 h (some ⟨gh, 0, none⟩) k (HL.out.to ⟨y, rfl⟩) HB.out.bools Hl.out
          rw [Hl.out] at hU
          have H1 := Lib.hid hU
          clear hU
          have HPO := Lib.hid (fun (v : Value) (hv : ∀ z : Since w, BoxIs z.w gh (h.map .bool) → PO (.returned v) z.w) (y2 : Since y.w) => show PO (.returned v) y2.w from by
            obtain ⟨z, hz⟩ := y.trans y2
            obtain ⟨z2, hz2⟩ := Hup.out z
            have hb := HB.out.since y2
            rw [hz, hz2] at hb ⊢
            exact hv z2 hb)
          obtain ⟨f, rfl⟩ : ∃ f', f = f' + 1 := ⟨f - 1, by have := Hc.out; omega⟩
          cases hu : unsV R C l h width with
          | none =>
            have HF := Lib.hid (show HV = some h by rw [Hf.out, hideF, hu])
            rw [hu] at H1
            have HEnd := Lib.hid (HPO.out _ (fun z hb => HYes2.out h HF.out z gh k Hm.out hb (by have := Hbx.out; omega)))
            clear HF HNo2 HYes2 HU HX Hf Hc HPO
            go_wp2_with (go_at_call 52; ((with_reducible refine H1.out.mono ?_); rintro _ _ ⟨rfl, y2, rfl⟩; rw [show orNeg none = -1 from rfl]))
            exact HEnd.out y2
          | some i =>
            have hi := (fstP_mem hu).1
            rw [Hl.out] at hi
            rw [hu] at H1
            have hi0 : (0 : Int) ≤ (i : Int) := by omega
            have H2 := Lib.hid (fun z : Since y.w => by
              have := HX.out y.w z h (some ⟨gh, 0, none⟩) k i HB.out.bools Hl.out hi
              rw [Hl.out] at this
              exact this)
            cases hn : nextV C h i with
            | none =>
              have HF := Lib.hid (show HV = none by rw [Hf.out, hideF_no hu hn])
              rw [hn] at H2
              have HEnd := Lib.hid (HPO.out _ (fun z _ => HNo2.out HF.out z))
              clear HF HNo2 HYes2 HU HX Hf Hc HPO
              go_upto_region 17 with (go_at_call 52; ((with_reducible refine H1.out.mono ?_); rintro _ _ ⟨rfl, y2, rfl⟩; rw [show orNeg (some i) = (i : Int) from rfl]))
              go_wp2_with (go_at_call 53; ((with_reducible refine (H2.out _).mono ?_); rintro _ _ ⟨rfl, y3, rfl⟩; rw [show orNeg none = -1 from rfl]))
              exact HEnd.out y3
            | some q =>
              obtain ⟨hq, hbq⟩ := nextV_some hn
              rw [hn] at H2
              have HF := Lib.hid (show HV = hideF R C l width f (h.set q true) by rw [Hf.out, hideF_step hu hn])
              have HC2 := Lib.hid (show cntF (h.set q true) < cntF h from cntF_set hq hbq)
              have HSt := Lib.hid (fun y3 : Since y.w => show ∃ z2 : Since W, y3.w.setCell ⟨gh, q, none⟩ (.bool true) = z2.w ∧ BoxIs z2.w gh ((h.set q true).map .bool) ∧ openF z2.w gh k < openF q0.w gh k from by
                obtain ⟨z, hz⟩ := y.trans y3
                have hb := (HB.out.since y3).setj (j := q) (by rw [List.length_map]; exact hq) (.bool true)
                obtain ⟨z2, hz2⟩ := z.set ⟨gh, q, none⟩ hgh (.bool true)
                rw [hz, hz2, ← List.map_set] at hb
                rw [hz]
                exact ⟨z2, hz2, hb, by rw [openF_box hb (by rw [List.length_set]; exact Hl.out), openF_box (HB.out.since q0) Hl.out]; exact HC2.out⟩)
              have hqk : q < k := by have := Hl.out; omega
              have hq0 : (0 : Int) ≤ (q : Int) := by omega
              have hqi : (q : Int) < (k : Int) := by omega
              have f0 := fun y3 : Since y.w => (HB.out.since y3).c q (.bool (bo h q)) (by rw [List.getElem?_map, List.getElem?_eq_getElem hq]; simp [bo, List.getD_eq_getElem?_getD, List.getElem?_eq_getElem hq])
              have f1 := fun y3 : Since y.w => (HB.out.since y3).f
              clear HNo2 HYes2 HU HX Hf HPO
              go_upto_region 17 with (go_at_call 52; ((with_reducible refine H1.out.mono ?_); rintro _ _ ⟨rfl, y2, rfl⟩; rw [show orNeg (some i) = (i : Int) from rfl]))
              go_upto_region 20 with (go_at_call 53; ((with_reducible refine (H2.out _).mono ?_); rintro _ _ ⟨rfl, y3, rfl⟩; rw [show orNeg (some q) = (q : Int) from rfl]))
              obtain ⟨z2, hz2, hb2, hm2⟩ := HSt.out y3
              have HB2 := Lib.hid hb2; have HM2 := Lib.hid hm2
              clear hb2 hm2 HSt
              go_wp2_with fail
              (try rw [hz2])
              go_roundw
              case rel => exact ⟨f, h.set q true, z2, rfl, by rw [List.length_set]; exact Hl.out, HB2.out, HF.out, by have := HC2.out; have := Hc.out; omega⟩
              case measure => exact HM2.out
end Go.Proofs.YtdkcclngionihaaDoor
/- Hidden cells of the examples: plain mathematics. -/
namespace Go.Proofs.YtdkcclngionihaaDoor

theorem mostV_zero {n : Nat} {l : List Arc} {s t : Nat} (h : NetOk n l) (hs : s < n) (S : Int → Bool) (h1 : S (s : Int) = true) (h2 : S (t : Int) = false) (h3 : cutC l S = 0) : mostV n l (s : Int) (t : Int) = 0 :=
  mostV_eq h (nat_in hs) ⟨⟨_, flow_zero h _ _⟩, S, h1, h2, h3⟩
/-- a width of 0 hides the small cells alone -/
theorem hideV_zero {R C : Nat} {l : List Int} (hG : SG R C l) (least : Int) {width : Int} (hw : width ≤ 0) : hideV R C l least width = some (l.map (smallB least)) := by
  unfold hideV hideF
  have : unsV R C l (l.map (smallB least)) width = none := by
    unfold unsV
    refine fstP_none fun j hj => ?_
    have := hG.iv (l.map (smallB least)) (i := j) (by simpa using hj)
    unfold narrow
    rw [decide_eq_false (by omega), Bool.and_false]
  rw [this]
theorem narrow_zero {R C : Nat} {l : List Int} {h : List Bool} {width : Int} {i : Nat} (hz : 0 ≤ at0 l i) (hb : bo h i = true) (hg : gainV R C l h i = 0) (hl : lossV R C l h i = 0) (hw : 0 < width) : narrow R C l h width i = true := by
  unfold narrow hiV loV
  rw [if_pos hb, if_pos hb, hg, hl, hb, Bool.true_and]
  exact decide_eq_true (by omega)
/-- the table of the examples -/
abbrev exT4 : List Int := [0, 4, 0, 0]
theorem ex_good : SG 2 2 exT4 := ⟨by decide, by decide, rfl, by decide, by decide⟩
theorem ex_hide : hideV 2 2 exT4 5 1 = none := by
  have hG := ex_good
  have u0 : unsV 2 2 exT4 [false, true, false, false] 1 = some 1 := fstP_some (by decide)
    (narrow_zero (by decide) rfl (mostV_zero (s := 3) (t := 0) (hG.netOk _ _) (by decide) (fun k => decide (k = 3)) rfl rfl (by decide)) (mostV_zero (s := 0) (t := 3) (hG.netOk _ _) (by decide) (fun k => decide (k = 0)) rfl rfl (by decide)) (by decide))
    (fun j hj => by obtain rfl : j = 0 := by omega
                    rfl)
  have u1 : ∀ h : List Bool, bo h 0 = true → 0 < h.length → cutC (netN 2 2 exT4 h 0 4) (fun k => decide (k = 2)) = 0 → cutC (netN 2 2 exT4 h 0 4) (fun k => decide (k = 0) || decide (k = 3)) = 0 → unsV 2 2 exT4 h 1 = some 0 := fun h hb hl h1 h2 =>
    fstP_some hl (narrow_zero (by decide) hb (mostV_zero (s := 2) (t := 0) (hG.netOk _ _) (by decide) (fun k => decide (k = 2)) rfl rfl h1) (mostV_zero (s := 0) (t := 2) (hG.netOk _ _) (by decide) (fun k => decide (k = 0) || decide (k = 3)) rfl rfl h2) (by decide)) (fun j hj => by omega)
  show hideF 2 2 exT4 1 5 [false, true, false, false] = none
  rw [hideF_step u0 (k := 0) (by decide)]
  show hideF 2 2 exT4 1 4 [true, true, false, false] = none
  rw [hideF_step (u1 _ rfl (by decide) (by decide) (by decide)) (k := 2) (by decide)]
  show hideF 2 2 exT4 1 3 [true, true, true, false] = none
  rw [hideF_step (u1 _ rfl (by decide) (by decide) (by decide)) (k := 3) (by decide)]
  show hideF 2 2 exT4 1 2 [true, true, true, true] = none
  exact hideF_no (u1 _ rfl (by decide) (by decide) (by decide)) (by decide)
end Go.Proofs.YtdkcclngionihaaDoor
/- Releases, the program: the true table. -/
namespace Go.Proofs.YtdkcclngionihaaDoor
open Go.RowKit

/-- the error of a release's table, and the table -/
def rlE (zs : List Int) (size : Int) (R : List Ride) (f t each : Int) : Int := if tabE zs size R f t each ≠ 0 then tabE zs size R f t each else if each = 0 then 1 else 0
def rlT (zs : List Int) (size : Int) (R : List Ride) (f t each : Int) : Tab := if rlE zs size R f t each = 0 then tabV zs size R f t each else tab0
theorem tabres_no {w : World} {e : Int} (y : Since w) : TabRes w tab0 e (.returned (.tuple #[.agg #[.int .i64 0, .int .i64 0, .slice none 0 0], .int .i64 e])) y.w :=
  ⟨none, 0, y, rfl, rfl, row_nil' _, Nat.le_refl _, fun b h => (by cases h), fun b h => (by cases h)⟩
set_option linter.unusedSimpArgs false in
set_option maxRecDepth 100000 in
set_option maxHeartbeats 8000000 in
theorem rltable_calls (w : World) (x : Since w) (az : Option Addr) (zs : List Int) (cz : Nat) (size : Int) (a : Option Addr) (R : List Ride) (c : Nat) (f t each : Int) (hz : IntRow w az zs) (hzl : zs.length ≤ 9223372036854775807) (h : RideRow w a R) (hl : R.length ≤ 9223372036854775807) (hI : ∀ r ∈ R, r.fp ≤ 9223372036854775807 ∧ r.pl ≤ 9223372036854775807) :
    Calls Tryd.prog 30 #[.slice az zs.length cz, .int .i64 size, .slice a R.length c, .agg #[.int .i64 f, .int .i64 t], .int .i64 each] x.w (TabRes w (rlT zs size R f t each) (rlE zs size R f t each)) := by
  have HZ := Lib.hid hz
  have HR := Lib.hid h
  have HC := Lib.hid (fun (W : World) (y : Since W) hz h => table_calls W y az zs cz size a R c f t each hz hzl h hl hI)
  have HE := Lib.hid (show rlE zs size R f t each = if tabE zs size R f t each ≠ 0 then tabE zs size R f t each else if each = 0 then 1 else 0 from rfl)
  have HT := Lib.hid (show rlT zs size R f t each = if rlE zs size R f t each = 0 then tabV zs size R f t each else tab0 from rfl)
  generalize rlE zs size R f t each = E at *
  generalize rlT zs size R f t each = T at *
  generalize tabE zs size R f t each = E2 at *
  generalize tabV zs size R f t each = T2 at *
  generalize zs.length = nz at *
  generalize R.length = nr at *
  clear hz h hl hzl hI
  go_enter Tryd.func30, Tryd.ntmps30
  go_upto_region 1 with fail
  have hb0_0 : ∀ y : Since ((x.w.alloc (.cells #[.int .i64 f, .int .i64 t] 25)).alloc (.cells #[.int .i64 0, .int .i64 0, .slice none 0 0] 31)), y.w.cell? ⟨x.w.heap.size, 0, none⟩ = some (.int .i64 f) := fun y => Since.cell (by simp [go_sem]) (by first | (simp; done) | (simp; omega)) y
  have hb0_1 : ∀ y : Since ((x.w.alloc (.cells #[.int .i64 f, .int .i64 t] 25)).alloc (.cells #[.int .i64 0, .int .i64 0, .slice none 0 0] 31)), y.w.cell? ⟨x.w.heap.size, 1, none⟩ = some (.int .i64 t) := fun y => Since.cell (by simp [go_sem]) (by first | (simp; done) | (simp; omega)) y
  have hf0 : ∀ (y : Since ((x.w.alloc (.cells #[.int .i64 f, .int .i64 t] 25)).alloc (.cells #[.int .i64 0, .int .i64 0, .slice none 0 0] 31))) (o : Nat), y.w.frozen? ⟨x.w.heap.size, o, none⟩ = false := fun y o => Since.free (by simp [go_sem]) (by first | (simp; done) | (simp; omega)) y
  have hb1_0 : ∀ y : Since ((x.w.alloc (.cells #[.int .i64 f, .int .i64 t] 25)).alloc (.cells #[.int .i64 0, .int .i64 0, .slice none 0 0] 31)), y.w.cell? ⟨x.w.heap.size + 1, 0, none⟩ = some (.int .i64 0) := fun y => Since.cell (by simp [go_sem]) (by first | (simp; done) | (simp; omega)) y
  have hb1_1 : ∀ y : Since ((x.w.alloc (.cells #[.int .i64 f, .int .i64 t] 25)).alloc (.cells #[.int .i64 0, .int .i64 0, .slice none 0 0] 31)), y.w.cell? ⟨x.w.heap.size + 1, 1, none⟩ = some (.int .i64 0) := fun y => Since.cell (by simp [go_sem]) (by first | (simp; done) | (simp; omega)) y
  have hb1_2 : ∀ y : Since ((x.w.alloc (.cells #[.int .i64 f, .int .i64 t] 25)).alloc (.cells #[.int .i64 0, .int .i64 0, .slice none 0 0] 31)), y.w.cell? ⟨x.w.heap.size + 1, 2, none⟩ = some (.slice none 0 0) := fun y => Since.cell (by simp [go_sem]) (by first | (simp; done) | (simp; omega)) y
  have hf1 : ∀ (y : Since ((x.w.alloc (.cells #[.int .i64 f, .int .i64 t] 25)).alloc (.cells #[.int .i64 0, .int .i64 0, .slice none 0 0] 31))) (o : Nat), y.w.frozen? ⟨x.w.heap.size + 1, o, none⟩ = false := fun y o => Since.free (by simp [go_sem]) (by first | (simp; done) | (simp; omega)) y
  have hWup : ∃ z : Since w, ((x.w.alloc (.cells #[.int .i64 f, .int .i64 t] 25)).alloc (.cells #[.int .i64 0, .int .i64 0, .slice none 0 0] 31)) = z.w := Since.allocs x [.cells #[.int .i64 f, .int .i64 t] 25, .cells #[.int .i64 0, .int .i64 0, .slice none 0 0] 31]
  obtain ⟨y0, hy0⟩ := Since.refl ((x.w.alloc (.cells #[.int .i64 f, .int .i64 t] 25)).alloc (.cells #[.int .i64 0, .int .i64 0, .slice none 0 0] 31))
  have Hbx := Lib.hid (And.intro x.b.size (show x.w.heap.size + 2 = ((x.w.alloc (.cells #[.int .i64 f, .int .i64 t] 25)).alloc (.cells #[.int .i64 0, .int .i64 0, .slice none 0 0] 31)).heap.size from by simp))
  generalize hW : ((x.w.alloc (.cells #[.int .i64 f, .int .i64 t] 25)).alloc (.cells #[.int .i64 0, .int .i64 0, .slice none 0 0] 31)) = W at *
  clear hW
  generalize x.w.heap.size = bx at *
  have Hup := Lib.hid (Since.up hWup)
  rw [hy0]
  clear hy0
  replace HZ := Lib.hid (HZ.out.to hWup)
  replace HR := Lib.hid (HR.out.to hWup)
  clear hWup hf0
  have H1 := Lib.hid (HC.out W y0 HZ.out HR.out)
  clear HC
  go_upto_region 2 with (go_at_call 21; ((with_reducible refine H1.out.mono ?_); rintro _ _ ⟨a1, c1, y1, rfl, rfl, r1, r2, r3, r4⟩))
  have HR1 := Lib.hid r1; have HR2 := Lib.hid r2; have HR3 := Lib.hid r3; have HR4 := Lib.hid r4
  clear r1 r2 r3 r4 H1 HZ HR
  have hx0 : (y1.w.alloc (.cells #[.int .i64 T2.r, .int .i64 T2.c, .slice a1 T2.l.length c1] 31)).cell? ⟨y1.w.heap.size, 0, none⟩ = some (.int .i64 T2.r) := by simp [go_sem]
  have hx1 : (y1.w.alloc (.cells #[.int .i64 T2.r, .int .i64 T2.c, .slice a1 T2.l.length c1] 31)).cell? ⟨y1.w.heap.size, 1, none⟩ = some (.int .i64 T2.c) := by simp [go_sem]
  have hx2 : (y1.w.alloc (.cells #[.int .i64 T2.r, .int .i64 T2.c, .slice a1 T2.l.length c1] 31)).cell? ⟨y1.w.heap.size, 2, none⟩ = some (.slice a1 T2.l.length c1) := by simp [go_sem]
  have hxf : ∀ o, (y1.w.alloc (.cells #[.int .i64 T2.r, .int .i64 T2.c, .slice a1 T2.l.length c1] 31)).frozen? ⟨y1.w.heap.size, o, none⟩ = false := fun o => by simp [go_sem]
  have hlt0 : y1.w.heap.size < (y1.w.alloc (.cells #[.int .i64 T2.r, .int .i64 T2.c, .slice a1 T2.l.length c1] 31)).heap.size := by simp
  have hst0 : ∃ zz : Since y1.w, (y1.w.alloc (.cells #[.int .i64 T2.r, .int .i64 T2.c, .slice a1 T2.l.length c1] 31)) = zz.w := IsSince.alloc (IsSince.self _) _
  have hsz0 := y1.b.size
  obtain ⟨y2, e2⟩ := IsSince.alloc (IsSince.of y1) (.cells #[.int .i64 T2.r, .int .i64 T2.c, .slice a1 T2.l.length c1] 31)
  rw [e2] at hx0 hx1 hx2 hxf hlt0 hst0 ⊢
  (replace HR1 := Lib.hid (HR1.out.to hst0); replace HR4 := Lib.hid (fun b hb => (by obtain ⟨g, e, h4⟩ := HR4.out b hb; exact ⟨g, e, h4.to hst0⟩) : ∀ b, a1 = some b → ∃ g, b = ⟨g, 0, none⟩ ∧ Nums _ g T2.l.length (at0 T2.l)))
  clear e2 hst0
  generalize y1.w.heap.size = gt at *
  have Hhx0 : ∀ q : Since y2.w, q.w.cell? ⟨gt, 0, none⟩ = some (.int .i64 T2.r) := fun q => Since.cell hx0 (by omega) q
  have Hhx1 : ∀ q : Since y2.w, q.w.cell? ⟨gt, 1, none⟩ = some (.int .i64 T2.c) := fun q => Since.cell hx1 (by omega) q
  have Hhx2 : ∀ q : Since y2.w, q.w.cell? ⟨gt, 2, none⟩ = some (.slice a1 T2.l.length c1) := fun q => Since.cell hx2 (by omega) q
  have Hhxf : ∀ (q : Since y2.w) (o : Nat), q.w.frozen? ⟨gt, o, none⟩ = false := fun q o => Since.free (hxf o) (by omega) q
  have Hhxg := Lib.hid (And.intro hsz0 hlt0)
  clear hlt0 hsz0
  by_cases h1 : E2 = 0
  · by_cases h2 : each = 0
    · have hE : E = 1 := by rw [HE.out, if_neg (by simpa using h1), if_pos h2]
      have hT : T = tab0 := by rw [HT.out, if_neg (by rw [hE]; decide)]
      have HP := Lib.hid (fun y : Since w => show TabRes w T E (.returned (.tuple #[.agg #[.int .i64 0, .int .i64 0, .slice none 0 0], .int .i64 1])) y.w from by rw [hE, hT]; exact tabres_no y)
      clear hE hT HE HT
      go_wp2_with fail
      have hsm : ∀ j, j < 3 → (y2.w.cell? ⟨bx + 1, j, none⟩).isSome = true := fun j hj => by
        match j, hj with
        | 0, _ => rw [hb1_0 y2]; rfl
        | 1, _ => rw [hb1_1 y2]; rfl
        | 2, _ => rw [hb1_2 y2]; rfl
      obtain ⟨Z, hz, hc⟩ := set_many y2 (g := bx + 1) [.int .i64 0, .int .i64 0, .slice none 0 0] hsm (Hup.out y2) (by have := Hbx.out; omega)
      simp only [World.setCells, Nat.reduceAdd] at hz
      rw [hz]
      have hc0 := hc 0 _ rfl
      have hc1 := hc 1 _ rfl
      have hc2 := hc 2 _ rfl
      exact bodyPost_ret (v := .tuple #[.agg #[.int .i64 0, .int .i64 0, .slice none 0 0], .int .i64 1]) (by simp [results, Tryd.results30, go_sem, hc0, hc1, hc2]) rfl (HP.out Z)
    · have hE : E = 0 := by rw [HE.out, if_neg (by simpa using h1), if_neg h2]
      have hT : T = T2 := by rw [HT.out, if_pos hE]
      have HEQ := Lib.hid (And.intro hE hT)
      clear hE hT HE HT
      go_wp2_with fail
      have hg : ∀ b, a1 = some b → b.block ≠ bx + 1 := fun b hb => by have := HR3.out b hb; have := Hbx.out; omega
      have s1 := ((HR1.out.set ⟨bx + 1, 0, none⟩ (.int .i64 T2.r) hg).set ⟨bx + 1, 1, none⟩ (.int .i64 T2.c) hg).set ⟨bx + 1, 2, none⟩ (.slice a1 T2.l.length c1) hg
      have s4 : ∀ b, a1 = some b → ∃ g, b = ⟨g, 0, none⟩ ∧ Nums (((y2.w.setCell ⟨bx + 1, 0, none⟩ (.int .i64 T2.r)).setCell ⟨bx + 1, 1, none⟩ (.int .i64 T2.c)).setCell ⟨bx + 1, 2, none⟩ (.slice a1 T2.l.length c1)) g T2.l.length (at0 T2.l) := fun b hb => by
        obtain ⟨g, e, h4⟩ := HR4.out b hb
        have hne : bx + 1 ≠ g := by have := hg b hb; rw [e] at this; exact Ne.symm this
        exact ⟨g, e, ((h4.setOther ⟨bx + 1, 0, none⟩ hne _).setOther ⟨bx + 1, 1, none⟩ hne _).setOther ⟨bx + 1, 2, none⟩ hne _⟩
      have HS1 := Lib.hid s1; have HS4 := Lib.hid s4
      clear s1 s4 hg
      have hsm : ∀ j, j < 3 → (y2.w.cell? ⟨bx + 1, j, none⟩).isSome = true := fun j hj => by
        match j, hj with
        | 0, _ => rw [hb1_0 y2]; rfl
        | 1, _ => rw [hb1_1 y2]; rfl
        | 2, _ => rw [hb1_2 y2]; rfl
      obtain ⟨Z, hz, hc⟩ := set_many y2 (g := bx + 1) [.int .i64 T2.r, .int .i64 T2.c, .slice a1 T2.l.length c1] hsm (Hup.out y2) (by have := Hbx.out; omega)
      simp only [World.setCells, Nat.reduceAdd] at hz
      rw [hz]
      have hc0 := hc 0 _ rfl
      have hc1 := hc 1 _ rfl
      have hc2 := hc 2 _ rfl
      exact bodyPost_ret (v := .tuple #[.agg #[.int .i64 T2.r, .int .i64 T2.c, .slice a1 T2.l.length c1], .int .i64 0]) (by simp [results, Tryd.results30, go_sem, hc0, hc1, hc2]) rfl (by
        rw [HEQ.out.1, HEQ.out.2]
        exact ⟨a1, c1, Z, rfl, rfl, hz ▸ HS1.out, HR2.out, fun b hb => by have := HR3.out b hb; have := Hbx.out; omega, hz ▸ HS4.out⟩)
  · have hE : E = E2 := by rw [HE.out, if_pos h1]
    have hT : T = tab0 := by rw [HT.out, if_neg (by rw [hE]; exact h1)]
    have HP := Lib.hid (fun y : Since w => show TabRes w T E (.returned (.tuple #[.agg #[.int .i64 0, .int .i64 0, .slice none 0 0], .int .i64 E2])) y.w from by rw [hE, hT]; exact tabres_no y)
    clear hE hT HE HT
    go_wp2_with fail
    have hsm : ∀ j, j < 3 → (y2.w.cell? ⟨bx + 1, j, none⟩).isSome = true := fun j hj => by
      match j, hj with
      | 0, _ => rw [hb1_0 y2]; rfl
      | 1, _ => rw [hb1_1 y2]; rfl
      | 2, _ => rw [hb1_2 y2]; rfl
    obtain ⟨Z, hz, hc⟩ := set_many y2 (g := bx + 1) [.int .i64 0, .int .i64 0, .slice none 0 0] hsm (Hup.out y2) (by have := Hbx.out; omega)
    simp only [World.setCells, Nat.reduceAdd] at hz
    rw [hz]
    have hc0 := hc 0 _ rfl
    have hc1 := hc 1 _ rfl
    have hc2 := hc 2 _ rfl
    exact bodyPost_ret (v := .tuple #[.agg #[.int .i64 0, .int .i64 0, .slice none 0 0], .int .i64 E2]) (by simp [results, Tryd.results30, go_sem, hc0, hc1, hc2]) rfl (HP.out Z)
end Go.Proofs.YtdkcclngionihaaDoor
/- Releases, the program: sums of rows and columns, walked. -/
namespace Go.Proofs.YtdkcclngionihaaDoor
open Go.RowKit

theorem cntL_few (R : List Ride) (each f t : Int) : (cntL R each f t).length ≤ R.length := by
  rw [cntL_eq]; exact List.length_filter_le _ _
theorem at0_map (f : Nat → Int) (n i : Nat) (hi : i < n) : at0 ((List.range n).map f) i = f i := by
  unfold at0
  simp [List.getD_eq_getElem?_getD, hi]
theorem sumF_const (c : Int) : ∀ n, sumF (fun _ => c) n = c * (n : Int)
  | 0 => by simp [sumF]
  | n + 1 => by simp only [sumF]; rw [sumF_const c n, Int.natCast_add, Int.mul_add]; simp
theorem tab_good {zs : List Int} {size : Int} {R : List Ride} {f t each : Int} (h : tabE zs size R f t each = 0) (hl : R.length ≤ 1024) :
    ∃ n : Nat, size = (n : Int) ∧ tabV zs size R f t each = ⟨n, n, cells zs size (cntL R each f t)⟩ ∧ SG n n (cells zs size (cntL R each f t)) := by
  have hs : ¬ (size < 1 ∨ 8 < size ∨ f < 0 ∨ t < f ∨ 4294944000 < t) := fun hb => by
    unfold tabE at h; rw [if_pos hb] at h; cases h
  have hV : tabV zs size R f t each = ⟨size, size, cells zs size (cntL R each f t)⟩ := if_pos h
  obtain ⟨n, rfl⟩ : ∃ n : Nat, size = (n : Int) := ⟨size.toNat, by omega⟩
  have hn : (cells zs (n : Int) (cntL R each f t)).length = n * n := by
    unfold cells
    rw [List.length_map, List.length_range, ← Int.natCast_mul, Int.toNat_natCast]
  have hc : ∀ i, i < n * n → at0 (cells zs (n : Int) (cntL R each f t)) i = celN zs (n : Int) (cntL R each f t) i := fun i hi => by
    unfold cells
    rw [at0_map _ _ _ (by rw [← Int.natCast_mul, Int.toNat_natCast]; exact hi)]
  have hb : ∀ i, i < n * n → 0 ≤ at0 (cells zs (n : Int) (cntL R each f t)) i ∧ at0 (cells zs (n : Int) (cntL R each f t)) i ≤ 1024 := fun i hi => by
    rw [hc i hi]
    have h1 := celN_range zs (n : Int) (cntL R each f t) i
    have h2 := cntL_few R each f t
    omega
  refine ⟨n, rfl, hV, ⟨by omega, by omega⟩, ⟨by omega, by omega⟩, hn, fun i hi => (hb i (by omega)).1, ?_⟩
  rw [hn]
  have h3 := sumF_le (f := at0 (cells zs (n : Int) (cntL R each f t))) (g := fun _ => 1024) (n * n) (fun i hi => (hb i hi).2)
  rw [sumF_const] at h3
  have h4 : n * n ≤ 8 * 8 := Nat.mul_le_mul (by omega) (by omega)
  omega
/-- the sums of the first k cells -/
def rowF (C : Nat) (l : List Int) (k r : Nat) : Int := sumF (fun i => if i / C = r then at0 l i else 0) k
def colF (C : Nat) (l : List Int) (k c : Nat) : Int := sumF (fun i => if i % C = c then at0 l i else 0) k
def rowL (R C : Nat) (l : List Int) (k : Nat) : List Int := (List.range R).map (rowF C l k)
def colL (C : Nat) (l : List Int) (k : Nat) : List Int := (List.range C).map (colF C l k)
theorem list_bump {n q : Nat} {f g : Nat → Int} (_hq : q < n) (v : Int) (hv : g q = v) (ho : ∀ r, r < n → r ≠ q → g r = f r) : ((List.range n).map f).set q v = (List.range n).map g := by
  refine List.ext_getElem (by simp) fun i h1 h2 => ?_
  have hi : i < n := by simpa using h2
  rw [List.getElem_set]
  by_cases e : q = i
  · subst e; rw [if_pos rfl]; simp [hv]
  · rw [if_neg e]; simp [ho i hi (Ne.symm e)]
theorem rowL_step {R C : Nat} {l : List Int} {k : Nat} (hk : k / C < R) : (rowL R C l k).set (k / C) (at0 (rowL R C l k) (k / C) + at0 l k) = rowL R C l (k + 1) := by
  unfold rowL
  rw [at0_map _ _ _ hk]
  refine list_bump hk _ ?_ fun r hr hne => ?_
  · unfold rowF; simp only [sumF]; rw [if_pos trivial]
  · unfold rowF; simp only [sumF]; rw [if_neg (Ne.symm hne)]; omega
theorem colL_step {C : Nat} {l : List Int} {k : Nat} (hk : k % C < C) : (colL C l k).set (k % C) (at0 (colL C l k) (k % C) + at0 l k) = colL C l (k + 1) := by
  unfold colL
  rw [at0_map _ _ _ hk]
  refine list_bump hk _ ?_ fun r hr hne => ?_
  · unfold colF; simp only [sumF]; rw [if_pos trivial]
  · unfold colF; simp only [sumF]; rw [if_neg (Ne.symm hne)]; omega
theorem part_in {l : List Int} (hz : ∀ i, i < l.length → 0 ≤ at0 l i) (hs : sumF (at0 l) l.length ≤ 65536) (p : Nat → Prop) [DecidablePred p] {k : Nat} (hk : k ≤ l.length) : 0 ≤ sumF (fun i => if p i then at0 l i else 0) k ∧ sumF (fun i => if p i then at0 l i else 0) k ≤ 65536 := by
  constructor
  · have := sumF_le (f := fun _ => 0) (g := fun i => if p i then at0 l i else 0) k (fun i hi => by have := hz i (by omega); show (0 : Int) ≤ _; split <;> omega)
    rwa [sumF_zero] at this
  · have h1 := sumF_le (f := fun i => if p i then at0 l i else 0) (g := at0 l) k (fun i hi => by have := hz i (by omega); show _ ≤ _; split <;> omega)
    have h2 := (sumF_mono l.length hz k hk).2
    omega
theorem BoxIs.atI {w : World} {g : Nat} {F : List Int} (h : BoxIs w g (F.map (.int .i64))) {i : Nat} (hi : i < F.length) : w.cell? ⟨g, i, none⟩ = some (.int .i64 (at0 F i)) :=
  h.c i _ (by rw [List.getElem?_map, List.getElem?_eq_getElem hi]; simp [at0, List.getD_eq_getElem?_getD, List.getElem?_eq_getElem hi])
theorem BoxIs.setI {w : World} {g : Nat} {F : List Int} (h : BoxIs w g (F.map (.int .i64))) {i : Nat} (hi : i < F.length) (v : Int) : BoxIs (w.setCell ⟨g, i, none⟩ (.int .i64 v)) g ((F.set i v).map (.int .i64)) := by
  rw [List.map_set]
  exact h.setj (by rw [List.length_map]; exact hi) _
/-- what Exact has in memory -/
structure XS (w : World) (gt gr gL gR gC : Nat) (tv rv : List Value) (m : Nat) (cf : Nat → Int) (rows cols : List Int) (ah : Option Addr) (h : List Bool) : Prop where
  t : BoxIs w gt tv
  r : BoxIs w gr rv
  l : Nums w gL m cf
  a : BoxIs w gR (rows.map (.int .i64))
  b : BoxIs w gC (cols.map (.int .i64))
  h : BlRow w ah h
/-- where it lies -/
structure XD (B : World) (gt gr gL gR gC : Nat) (ah : Option Addr) : Prop where
  b : B.heap.size ≤ gL ∧ B.heap.size ≤ gR ∧ B.heap.size ≤ gC
  t : gt ≠ gL ∧ gt ≠ gR ∧ gt ≠ gC
  r : gr ≠ gL ∧ gr ≠ gR ∧ gr ≠ gC
  n : gL ≠ gR ∧ gL ≠ gC ∧ gR ≠ gC
  h : ∀ b, ah = some b → b.block ≠ gL ∧ b.block ≠ gR ∧ b.block ≠ gC
section
variable {w : World} {gt gr gL gR gC : Nat} {tv rv : List Value} {m : Nat} {cf : Nat → Int} {rows cols : List Int} {ah : Option Addr} {h : List Bool}
theorem XS.to {W : World} (s : XS w gt gr gL gR gC tv rv m cf rows cols ah h) (hW : ∃ z : Since w, W = z.w) : XS W gt gr gL gR gC tv rv m cf rows cols ah h :=
  ⟨s.t.to hW, s.r.to hW, s.l.to hW, s.a.to hW, s.b.to hW, s.h.to hW⟩
theorem XS.setR {B : World} (s : XS w gt gr gL gR gC tv rv m cf rows cols ah h) (d : XD B gt gr gL gR gC ah) {q : Nat} (hq : q < rows.length) (v : Int) : XS (w.setCell ⟨gR, q, none⟩ (.int .i64 v)) gt gr gL gR gC tv rv m cf (rows.set q v) cols ah h :=
  ⟨s.t.far _ _ d.t.2.1, s.r.far _ _ d.r.2.1, s.l.setOther _ (Ne.symm d.n.1) _, s.a.setI hq v, s.b.far _ _ (Ne.symm d.n.2.2), s.h.set _ _ fun b hb => (d.h b hb).2.1⟩
theorem XS.setC {B : World} (s : XS w gt gr gL gR gC tv rv m cf rows cols ah h) (d : XD B gt gr gL gR gC ah) {q : Nat} (hq : q < cols.length) (v : Int) : XS (w.setCell ⟨gC, q, none⟩ (.int .i64 v)) gt gr gL gR gC tv rv m cf rows (cols.set q v) ah h :=
  ⟨s.t.far _ _ d.t.2.2, s.r.far _ _ d.r.2.2, s.l.setOther _ (Ne.symm d.n.2.1) _, s.a.far _ _ d.n.2.2, s.b.setI hq v, s.h.set _ _ fun b hb => (d.h b hb).2.2⟩
theorem XS.setL {B : World} (s : XS w gt gr gL gR gC tv rv m cf rows cols ah h) (d : XD B gt gr gL gR gC ah) {q : Nat} (hq : q < m) (v : Int) {cf' : Nat → Int} (hv : cf' q = v) (ho : ∀ j, j < m → j ≠ q → cf' j = cf j) : XS (w.setCell ⟨gL, q, none⟩ (.int .i64 v)) gt gr gL gR gC tv rv m cf' rows cols ah h :=
  ⟨s.t.far _ _ d.t.1, s.r.far _ _ d.r.1, s.l.set hq v hv ho, s.a.far _ _ (Ne.symm d.n.1), s.b.far _ _ (Ne.symm d.n.2.1), s.h.set _ _ fun b hb => (d.h b hb).1⟩
end
set_option linter.unusedSimpArgs false in
set_option maxRecDepth 100000 in
set_option maxHeartbeats 8000000 in
theorem count_calls (B : World) (x : Since B) (n : Nat) (i : Nat) (gt gr gL gR gC m : Nat) (u0 u1 u2 u3 u4 u5 u6 u9 : Value) (cL : Nat) (cf : Nat → Int) (rows cols : List Int) (ah : Option Addr) (h : List Bool)
    (hs : XS x.w gt gr gL gR gC [.int .i64 (n : Int), .int .i64 (n : Int), .slice (some ⟨gL, 0, none⟩) m cL] [u0, u1, u2, u3, u4, u5, u6, .slice (some ⟨gR, 0, none⟩) n n, .slice (some ⟨gC, 0, none⟩) n n, u9] m cf rows cols ah h) (hd : XD B gt gr gL gR gC ah)
    (hi : i < m) (hn : 1 ≤ n ∧ n ≤ 8) (hq : i / n < n) (hr : rows.length = n) (hc : cols.length = n) (h1 : 0 ≤ cf i ∧ cf i ≤ 65536) (h2 : ∀ k, k < n → 0 ≤ at0 rows k ∧ at0 rows k ≤ 65536) (h3 : ∀ k, k < n → 0 ≤ at0 cols k ∧ at0 cols k ≤ 65536) :
    Calls Tryd.prog 32 #[.int .i64 (i : Int), .pointer (some ⟨gr, 0, none⟩), .pointer (some ⟨gt, 0, none⟩)] x.w fun o w' => ∃ y : Since B, o = .returned (.tuple #[]) ∧ w' = y.w ∧ XS y.w gt gr gL gR gC [.int .i64 (n : Int), .int .i64 (n : Int), .slice (some ⟨gL, 0, none⟩) m cL] [u0, u1, u2, u3, u4, u5, u6, .slice (some ⟨gR, 0, none⟩) n n, .slice (some ⟨gC, 0, none⟩) n n, u9] m cf (rows.set (i / n) (at0 rows (i / n) + cf i)) (cols.set (i % n) (at0 cols (i % n) + cf i)) ah h := by
  have hq2 : i % n < n := Nat.mod_lt _ (by omega)
  have e1 : (i : Int) / (n : Int) = ((i / n : Nat) : Int) := (Int.natCast_ediv _ _).symm
  have e2 : (i : Int) % (n : Int) = ((i % n : Nat) : Int) := (Int.natCast_emod _ _).symm
  have e3 : Int.tmod (i : Int) (n : Int) = ((i % n : Nat) : Int) := (Int.tmod_eq_emod_of_nonneg (by omega)).trans e2
  have Hs := Lib.hid hs
  have Hd := Lib.hid hd
  have b2 := h2 _ hq
  have b3 := h3 _ hq2
  have Hr := Lib.hid (show i / n < rows.length by omega)
  have Hc := Lib.hid (show i % n < cols.length by omega)
  have HgR := Lib.hid hd.b.2.1
  have HgC := Lib.hid hd.b.2.2
  clear hs hd h2 h3 hr hc
  obtain ⟨q, hqe⟩ : ∃ q, q = i / n := ⟨_, rfl⟩
  obtain ⟨p, hpe⟩ : ∃ p, p = i % n := ⟨_, rfl⟩
  simp only [← hqe, ← hpe] at *
  clear hqe hpe
  have hi0 : (0 : Int) ≤ (i : Int) := by omega
  have him : (i : Int) < (m : Int) := by omega
  have hq0 : (0 : Int) ≤ (q : Int) := by omega
  have hqn : (q : Int) < (n : Int) := by omega
  have hp0 : (0 : Int) ≤ (p : Int) := by omega
  have hpn : (p : Int) < (n : Int) := by omega
  have hnz : ¬ n = 0 := by omega
  have wq : IntKind.i64.wrap (q : Int) = (q : Int) := IntWalk.i64_in _ (by omega)
  have wp' : IntKind.i64.wrap (p : Int) = (p : Int) := IntWalk.i64_in _ (by omega)
  go_enter Tryd.func32, Tryd.ntmps32
  have HX := Lib.hid Hs.out
  have ws : IntKind.i64.wrap (at0 rows q + cf i) = at0 rows q + cf i := IntWalk.i64_in _ (by omega)
  have ws2 : IntKind.i64.wrap (at0 cols p + cf i) = at0 cols p + cf i := IntWalk.i64_in _ (by omega)
  have i7 := fun w' (h : IsSince x.w w') => IsSince.cell (Since.cell (HX.out.r.c 7 _ rfl) HX.out.r.lt) h
  have j1 := fun w' (h : IsSince x.w w') => IsSince.cell (Since.cell (HX.out.t.c 1 _ rfl) HX.out.t.lt) h
  have j2 := fun w' (h : IsSince x.w w') => IsSince.cell (Since.cell (HX.out.t.c 2 _ rfl) HX.out.t.lt) h
  have l0 := fun w' (h : IsSince x.w w') => IsSince.cell (Since.cell (HX.out.l.c i hi) HX.out.l.lt) h
  have g0 := fun w' (h : IsSince x.w w') => IsSince.cell (Since.cell (HX.out.a.atI Hr.out) HX.out.a.lt) h
  have q1 : x.w.drew.cell? ⟨gR, q, none⟩ = some (.int .i64 (at0 rows q)) := HX.out.a.atI Hr.out
  have qf : x.w.drew.frozen? ⟨gR, q, none⟩ = false := HX.out.a.f q
  go_upto_region 0 with fail
  refine wp_region_M (fun w' => IsSince x.w w') 15 (by kernel_rfl) (IsSince.drew' (IsSince.self _)) (fun hS => ?_)
  refine wpAnyM_takeU (i := 0) (v := ?_) rfl (by kernel_rfl) (by kernel_rfl) (by kernel_rfl) (by kernel_rfl) (fun _ _ _ h => h) hS (Or.inl ⟨by rfl, ?_⟩) ?_
  rotate_left
  · (intro w hSw; (try dsimp only at hSw); go_split_ands; go_simp; try (with_reducible rfl))
  (try simp only [Act.put, List.setIfInBounds_toArray, List.set_cons_zero, List.set_cons_succ])
  refine wpAnyM_takeU (i := 1) (v := ?_) rfl (by kernel_rfl) (by kernel_rfl) (by kernel_rfl) (by kernel_rfl) (fun _ _ _ h => h) hS (Or.inl ⟨by rfl, ?_⟩) ?_
  rotate_left
  · (intro w hSw; (try dsimp only at hSw); go_split_ands; go_simp; try (with_reducible rfl))
  (try simp only [Act.put, List.setIfInBounds_toArray, List.set_cons_zero, List.set_cons_succ])
  refine wpAnyM_takeU (i := 2) (v := ?_) rfl (by kernel_rfl) (by kernel_rfl) (by kernel_rfl) (by kernel_rfl) (fun _ _ _ h => h) hS (Or.inl ⟨by rfl, ?_⟩) ?_
  rotate_left
  · (intro w hSw; (try dsimp only at hSw); go_split_ands; go_simp; try (with_reducible rfl))
  (try simp only [Act.put, List.setIfInBounds_toArray, List.set_cons_zero, List.set_cons_succ])
  refine wpAnyM_takeU (i := 3) (v := ?_) rfl (by kernel_rfl) (by kernel_rfl) (by kernel_rfl) (by kernel_rfl) (fun _ _ _ h => h) hS (Or.inl ⟨by rfl, ?_⟩) ?_
  rotate_left
  · (intro w hSw; (try dsimp only at hSw); go_split_ands; go_simp; try (with_reducible rfl))
  (try simp only [Act.put, List.setIfInBounds_toArray, List.set_cons_zero, List.set_cons_succ])
  refine wpAnyM_takeU (i := 4) (v := ?_) rfl (by kernel_rfl) (by kernel_rfl) (by kernel_rfl) (by kernel_rfl) (fun _ _ _ h => h) hS (Or.inl ⟨by rfl, ?_⟩) ?_
  rotate_left
  · (intro w hSw; (try dsimp only at hSw); go_split_ands; go_simp; try (with_reducible rfl))
  (try simp only [Act.put, List.setIfInBounds_toArray, List.set_cons_zero, List.set_cons_succ])
  refine wpAnyM_takeU (i := 5) (v := ?_) rfl (by kernel_rfl) (by kernel_rfl) (by kernel_rfl) (by kernel_rfl) (fun _ _ _ h => h) hS (Or.inl ⟨by rfl, ?_⟩) ?_
  rotate_left
  · (intro w hSw; (try dsimp only at hSw); go_split_ands; go_simp; try (with_reducible rfl))
  (try simp only [Act.put, List.setIfInBounds_toArray, List.set_cons_zero, List.set_cons_succ])
  refine wpAnyM_takeU (i := 6) (v := ?_) rfl (by kernel_rfl) (by kernel_rfl) (by kernel_rfl) (by kernel_rfl) (fun _ _ _ h => h) hS (Or.inl ⟨by rfl, ?_⟩) ?_
  rotate_left
  · (intro w hSw; (try dsimp only at hSw); go_split_ands; go_simp; try (with_reducible rfl))
  (try simp only [Act.put, List.setIfInBounds_toArray, List.set_cons_zero, List.set_cons_succ])
  refine wpAnyM_takeU (i := 7) (v := ?_) rfl (by kernel_rfl) (by kernel_rfl) (by kernel_rfl) (by kernel_rfl) (fun _ _ _ h => h) hS (Or.inl ⟨by rfl, ?_⟩) ?_
  rotate_left
  · (intro w hSw; (try dsimp only at hSw); go_split_ands; go_simp; try (with_reducible rfl))
  (try simp only [Act.put, List.setIfInBounds_toArray, List.set_cons_zero, List.set_cons_succ])
  refine wpAnyM_takeU (i := 8) (v := ?_) rfl (by kernel_rfl) (by kernel_rfl) (by kernel_rfl) (by kernel_rfl) (fun _ _ _ h => h) hS (Or.inl ⟨by rfl, ?_⟩) ?_
  rotate_left
  · (intro w hSw; (try dsimp only at hSw); go_split_ands; go_simp; try (with_reducible rfl))
  (try simp only [Act.put, List.setIfInBounds_toArray, List.set_cons_zero, List.set_cons_succ])
  refine wpAnyM_takeU (i := 9) (v := ?_) rfl (by kernel_rfl) (by kernel_rfl) (by kernel_rfl) (by kernel_rfl) (fun _ _ _ h => h) hS (Or.inl ⟨by rfl, ?_⟩) ?_
  rotate_left
  · (intro w hSw; (try dsimp only at hSw); go_split_ands; go_simp; try (with_reducible rfl))
  (try simp only [Act.put, List.setIfInBounds_toArray, List.set_cons_zero, List.set_cons_succ])
  refine wpAnyM_takeU (i := 10) (v := ?_) rfl (by kernel_rfl) (by kernel_rfl) (by kernel_rfl) (by kernel_rfl) (fun _ _ _ h => h) hS (Or.inl ⟨by rfl, ?_⟩) ?_
  rotate_left
  · (intro w hSw; (try dsimp only at hSw); go_split_ands; go_simp; try (with_reducible rfl))
  (try simp only [Act.put, List.setIfInBounds_toArray, List.set_cons_zero, List.set_cons_succ])
  refine wpAnyM_takeU (i := 11) (v := ?_) rfl (by kernel_rfl) (by kernel_rfl) (by kernel_rfl) (by kernel_rfl) (fun _ _ _ h => h) hS (Or.inl ⟨by rfl, ?_⟩) ?_
  rotate_left
  · (intro w hSw; (try dsimp only at hSw); go_split_ands; go_simp; try (with_reducible rfl))
  (try simp only [Act.put, List.setIfInBounds_toArray, List.set_cons_zero, List.set_cons_succ])
  refine wpAnyM_takeU (i := 12) (v := ?_) rfl (by kernel_rfl) (by kernel_rfl) (by kernel_rfl) (by kernel_rfl) (fun _ _ _ h => h) hS (Or.inl ⟨by rfl, ?_⟩) ?_
  rotate_left
  · (intro w hSw; (try dsimp only at hSw); go_split_ands; go_simp; try (with_reducible rfl))
  (try simp only [Act.put, List.setIfInBounds_toArray, List.set_cons_zero, List.set_cons_succ])
  refine wpAnyM_takeU (i := 13) (v := ?_) rfl (by kernel_rfl) (by kernel_rfl) (by kernel_rfl) (by kernel_rfl) (fun _ _ _ h => h) hS (Or.inl ⟨by rfl, ?_⟩) ?_
  rotate_left
  · (intro w hSw; (try dsimp only at hSw); go_split_ands; go_simp; try (with_reducible rfl))
  (try simp only [Act.put, List.setIfInBounds_toArray, List.set_cons_zero, List.set_cons_succ])
  refine wpAnyM_takeU (i := 14) (v := ?_) rfl (by kernel_rfl) (by kernel_rfl) (by kernel_rfl) (by kernel_rfl) (fun _ _ _ h => h) hS (Or.inl ⟨by rfl, ?_⟩) ?_
  rotate_left
  · (intro w hSw; (try dsimp only at hSw); go_split_ands; go_simp; try (with_reducible rfl))
  (try simp only [Act.put, List.setIfInBounds_toArray, List.set_cons_zero, List.set_cons_succ])
  refine wpAnyM_one (i := 15) (by kernel_rfl) rfl (fun K hK => ?_)
  go_simp
  refine hK.out _ _ (Or.inl rfl) (fun _ => ?_)
  clear hK K hS
  (try simp only [Act.put, List.setIfInBounds_toArray, List.set_cons_zero, List.set_cons_succ])
  refine wpAnyM_done (by kernel_rfl) ?_
  clear i7 j1 j2 l0 g0 q1 qf
  obtain ⟨y, hy⟩ : ∃ y : Since B, (x.w.setCell ⟨gR, q, none⟩ (.int .i64 (at0 rows q + cf i))).drew = y.w := IsSince.drew' (IsSince.set (IsSince.of x) _ HgR.out _)
  have hx := (HX.out.setR Hd.out Hr.out (at0 rows q + cf i)).to (IsSince.drew' (IsSince.self _))
  rw [hy] at hx ⊢
  clear hy HX
  have HX := Lib.hid hx
  clear hx
  go_upto_region 1 with fail
  have i8 := fun w' (h : IsSince y.w w') => IsSince.cell (Since.cell (HX.out.r.c 8 _ rfl) HX.out.r.lt) h
  have j1 := fun w' (h : IsSince y.w w') => IsSince.cell (Since.cell (HX.out.t.c 1 _ rfl) HX.out.t.lt) h
  have j2 := fun w' (h : IsSince y.w w') => IsSince.cell (Since.cell (HX.out.t.c 2 _ rfl) HX.out.t.lt) h
  have l0 := fun w' (h : IsSince y.w w') => IsSince.cell (Since.cell (HX.out.l.c i hi) HX.out.l.lt) h
  have g0 := fun w' (h : IsSince y.w w') => IsSince.cell (Since.cell (HX.out.b.atI Hc.out) HX.out.b.lt) h
  have q1 : y.w.drew.cell? ⟨gC, p, none⟩ = some (.int .i64 (at0 cols p)) := HX.out.b.atI Hc.out
  have qf : y.w.drew.frozen? ⟨gC, p, none⟩ = false := HX.out.b.f p
  refine wp_region_M (fun w' => IsSince y.w w') 15 (by kernel_rfl) (IsSince.drew' (IsSince.self _)) (fun hS => ?_)
  refine wpAnyM_takeU (i := 0) (v := ?_) rfl (by kernel_rfl) (by kernel_rfl) (by kernel_rfl) (by kernel_rfl) (fun _ _ _ h => h) hS (Or.inl ⟨by rfl, ?_⟩) ?_
  rotate_left
  · (intro w hSw; (try dsimp only at hSw); go_split_ands; go_simp; try (with_reducible rfl))
  (try simp only [Act.put, List.setIfInBounds_toArray, List.set_cons_zero, List.set_cons_succ])
  refine wpAnyM_takeU (i := 1) (v := ?_) rfl (by kernel_rfl) (by kernel_rfl) (by kernel_rfl) (by kernel_rfl) (fun _ _ _ h => h) hS (Or.inl ⟨by rfl, ?_⟩) ?_
  rotate_left
  · (intro w hSw; (try dsimp only at hSw); go_split_ands; go_simp; try (with_reducible rfl))
  (try simp only [Act.put, List.setIfInBounds_toArray, List.set_cons_zero, List.set_cons_succ])
  refine wpAnyM_takeU (i := 2) (v := ?_) rfl (by kernel_rfl) (by kernel_rfl) (by kernel_rfl) (by kernel_rfl) (fun _ _ _ h => h) hS (Or.inl ⟨by rfl, ?_⟩) ?_
  rotate_left
  · (intro w hSw; (try dsimp only at hSw); go_split_ands; go_simp; try (with_reducible rfl))
  (try simp only [Act.put, List.setIfInBounds_toArray, List.set_cons_zero, List.set_cons_succ])
  refine wpAnyM_takeU (i := 3) (v := ?_) rfl (by kernel_rfl) (by kernel_rfl) (by kernel_rfl) (by kernel_rfl) (fun _ _ _ h => h) hS (Or.inl ⟨by rfl, ?_⟩) ?_
  rotate_left
  · (intro w hSw; (try dsimp only at hSw); go_split_ands; go_simp; try (with_reducible rfl))
  (try simp only [Act.put, List.setIfInBounds_toArray, List.set_cons_zero, List.set_cons_succ])
  refine wpAnyM_takeU (i := 4) (v := ?_) rfl (by kernel_rfl) (by kernel_rfl) (by kernel_rfl) (by kernel_rfl) (fun _ _ _ h => h) hS (Or.inl ⟨by rfl, ?_⟩) ?_
  rotate_left
  · (intro w hSw; (try dsimp only at hSw); go_split_ands; go_simp; try (with_reducible rfl))
  (try simp only [Act.put, List.setIfInBounds_toArray, List.set_cons_zero, List.set_cons_succ])
  refine wpAnyM_takeU (i := 5) (v := ?_) rfl (by kernel_rfl) (by kernel_rfl) (by kernel_rfl) (by kernel_rfl) (fun _ _ _ h => h) hS (Or.inl ⟨by rfl, ?_⟩) ?_
  rotate_left
  · (intro w hSw; (try dsimp only at hSw); go_split_ands; go_simp; try (with_reducible rfl))
  (try simp only [Act.put, List.setIfInBounds_toArray, List.set_cons_zero, List.set_cons_succ])
  refine wpAnyM_takeU (i := 6) (v := ?_) rfl (by kernel_rfl) (by kernel_rfl) (by kernel_rfl) (by kernel_rfl) (fun _ _ _ h => h) hS (Or.inl ⟨by rfl, ?_⟩) ?_
  rotate_left
  · (intro w hSw; (try dsimp only at hSw); go_split_ands; go_simp; try (with_reducible rfl))
  (try simp only [Act.put, List.setIfInBounds_toArray, List.set_cons_zero, List.set_cons_succ])
  refine wpAnyM_takeU (i := 7) (v := ?_) rfl (by kernel_rfl) (by kernel_rfl) (by kernel_rfl) (by kernel_rfl) (fun _ _ _ h => h) hS (Or.inl ⟨by rfl, ?_⟩) ?_
  rotate_left
  · (intro w hSw; (try dsimp only at hSw); go_split_ands; go_simp; try (with_reducible rfl))
  (try simp only [Act.put, List.setIfInBounds_toArray, List.set_cons_zero, List.set_cons_succ])
  refine wpAnyM_takeU (i := 8) (v := ?_) rfl (by kernel_rfl) (by kernel_rfl) (by kernel_rfl) (by kernel_rfl) (fun _ _ _ h => h) hS (Or.inl ⟨by rfl, ?_⟩) ?_
  rotate_left
  · (intro w hSw; (try dsimp only at hSw); go_split_ands; go_simp; try (with_reducible rfl))
  (try simp only [Act.put, List.setIfInBounds_toArray, List.set_cons_zero, List.set_cons_succ])
  refine wpAnyM_takeU (i := 9) (v := ?_) rfl (by kernel_rfl) (by kernel_rfl) (by kernel_rfl) (by kernel_rfl) (fun _ _ _ h => h) hS (Or.inl ⟨by rfl, ?_⟩) ?_
  rotate_left
  · (intro w hSw; (try dsimp only at hSw); go_split_ands; go_simp; try (with_reducible rfl))
  (try simp only [Act.put, List.setIfInBounds_toArray, List.set_cons_zero, List.set_cons_succ])
  refine wpAnyM_takeU (i := 10) (v := ?_) rfl (by kernel_rfl) (by kernel_rfl) (by kernel_rfl) (by kernel_rfl) (fun _ _ _ h => h) hS (Or.inl ⟨by rfl, ?_⟩) ?_
  rotate_left
  · (intro w hSw; (try dsimp only at hSw); go_split_ands; go_simp; try (with_reducible rfl))
  (try simp only [Act.put, List.setIfInBounds_toArray, List.set_cons_zero, List.set_cons_succ])
  refine wpAnyM_takeU (i := 11) (v := ?_) rfl (by kernel_rfl) (by kernel_rfl) (by kernel_rfl) (by kernel_rfl) (fun _ _ _ h => h) hS (Or.inl ⟨by rfl, ?_⟩) ?_
  rotate_left
  · (intro w hSw; (try dsimp only at hSw); go_split_ands; go_simp; try (with_reducible rfl))
  (try simp only [Act.put, List.setIfInBounds_toArray, List.set_cons_zero, List.set_cons_succ])
  refine wpAnyM_takeU (i := 12) (v := ?_) rfl (by kernel_rfl) (by kernel_rfl) (by kernel_rfl) (by kernel_rfl) (fun _ _ _ h => h) hS (Or.inl ⟨by rfl, ?_⟩) ?_
  rotate_left
  · (intro w hSw; (try dsimp only at hSw); go_split_ands; go_simp; try (with_reducible rfl))
  (try simp only [Act.put, List.setIfInBounds_toArray, List.set_cons_zero, List.set_cons_succ])
  refine wpAnyM_takeU (i := 13) (v := ?_) rfl (by kernel_rfl) (by kernel_rfl) (by kernel_rfl) (by kernel_rfl) (fun _ _ _ h => h) hS (Or.inl ⟨by rfl, ?_⟩) ?_
  rotate_left
  · (intro w hSw; (try dsimp only at hSw); go_split_ands; go_simp; try (with_reducible rfl))
  (try simp only [Act.put, List.setIfInBounds_toArray, List.set_cons_zero, List.set_cons_succ])
  refine wpAnyM_takeU (i := 14) (v := ?_) rfl (by kernel_rfl) (by kernel_rfl) (by kernel_rfl) (by kernel_rfl) (fun _ _ _ h => h) hS (Or.inl ⟨by rfl, ?_⟩) ?_
  rotate_left
  · (intro w hSw; (try dsimp only at hSw); go_split_ands; go_simp; try (with_reducible rfl))
  (try simp only [Act.put, List.setIfInBounds_toArray, List.set_cons_zero, List.set_cons_succ])
  refine wpAnyM_one (i := 15) (by kernel_rfl) rfl (fun K hK => ?_)
  go_simp
  refine hK.out _ _ (Or.inl rfl) (fun _ => ?_)
  clear hK K hS
  (try simp only [Act.put, List.setIfInBounds_toArray, List.set_cons_zero, List.set_cons_succ])
  refine wpAnyM_done (by kernel_rfl) ?_
  clear i8 j1 j2 l0 g0 q1 qf
  obtain ⟨z, hz⟩ : ∃ z : Since B, (y.w.setCell ⟨gC, p, none⟩ (.int .i64 (at0 cols p + cf i))).drew = z.w := IsSince.drew' (IsSince.set (IsSince.of y) _ HgC.out _)
  have hx := (HX.out.setC Hd.out Hc.out (at0 cols p + cf i)).to (IsSince.drew' (IsSince.self _))
  rw [hz] at hx ⊢
  clear hz HX
  have HX := Lib.hid hx
  clear hx
  go_wp2_with fail
  refine bodyPost_end (v := .tuple #[]) (by simp [results, Tryd.results32, go_sem]) rfl ?_
  exact (by first | exact ⟨rfl, z, rfl, HX.out⟩ | exact ⟨z, rfl, rfl, HX.out⟩)
end Go.Proofs.YtdkcclngionihaaDoor
