/- The network of hidden cells, walked. -/
import Derived.Test.YtdkcclngionihaaDoorRlMe
set_option linter.all false
namespace Go.Proofs.YtdkcclngionihaaDoor
open Go.RowKit

theorem wrap_quo {k C R : Nat} (h : k / C < R) (hR : R ≤ 8) : wrap64 ((k : Int) / (C : Int)) = (k : Int) / (C : Int) := by
  have := quo_in h
  generalize (k : Int) / (C : Int) = q at *
  exact IntWalk.wrap64_in _ ⟨by omega, by omega⟩
theorem wrap_rem {k C R : Nat} (h : k % C < C) (hR : R ≤ 8) (hC : C ≤ 8) : wrap64 ((R : Int) + (k : Int) % (C : Int)) = (R : Int) + (k : Int) % (C : Int) := by
  have := rem_in h
  generalize (k : Int) % (C : Int) = q at *
  exact IntWalk.wrap64_in _ ⟨by omega, by omega⟩
theorem Els.set {α : Type} {enc : α → List Value} {k : Nat} {w : World} {a : Option Addr} {l : List α} (h : Els enc k w a l) (p : Addr) (v : Value) (hp : ∀ b, a = some b → b.block ≠ p.block) : Els enc k (w.setCell p v) a l :=
  h.keep (by simp [World.setCell]) (fun b off ha _ => Below.heap_setCell w p v b (hp _ ha))
abbrev BlRow (w : World) (a : Option Addr) (h : List Bool) : Prop := Row w a h.length fun i => .bool (bo h i)
theorem arc_one (x : Arc) : ∀ u ∈ x.cs, u.oneCell' = true := by
  intro u hu
  simp only [Arc.cs, List.mem_cons, List.not_mem_nil, or_false] at hu
  rcases hu with rfl | rfl | rfl | rfl <;> rfl
theorem sArc : SliceOf Tryd.prog 110 127 (.agg #[.int .i64 0, .int .i64 0, .int .i64 0, .int .i64 0]) 4 32 := SliceOf.mk' Tryd.underlying110 (by kernel_rfl) rfl (by decide)
set_option linter.unusedSimpArgs false in
set_option maxRecDepth 100000 in
set_option maxHeartbeats 8000000 in
theorem network_calls (w : World) (x : Since w) (R C : Nat) (l : List Int) (h : List Bool) (but : Nat) (a ah : Option Addr) (c ch : Nat) (hL : IntRow w a l) (hH : BlRow w ah h) (hG : SG R C l) (hh : h.length = l.length) (hb : but < l.length) :
    Calls Tryd.prog 67 #[.agg #[.int .i64 (R : Int), .int .i64 (C : Int), .slice a l.length c], .slice ah h.length ch, .int .i64 (but : Int)] x.w fun o w' => ∃ (an : Option Addr) (cn : Nat) (y : Since w), o = .returned (.agg #[.int .i64 ((R : Int) + (C : Int)), .slice an (netN R C l h but l.length).length cn]) ∧ w' = y.w ∧ Els Arc.cs 4 y.w an (netN R C l h but l.length) := by
  have HL := Lib.hid hL
  have HH := Lib.hid hH
  have HG := Lib.hid hG
  have hm1 := hG.len
  obtain ⟨hr0, hr1⟩ := hG.r
  obtain ⟨hc0, hc1⟩ := hG.c
  obtain ⟨m, hm⟩ : ∃ m, m = l.length := ⟨_, rfl⟩
  obtain ⟨N, hN⟩ : ∃ N, N = netN R C l h but l.length := ⟨_, rfl⟩
  rw [hh, ← hN, ← hm]
  rw [← hm] at hm1 hb
  have Hm := Lib.hid hm
  have HN := Lib.hid hN
  have Hh := Lib.hid hh
  clear hL hH hG hh hm hN
  have wRC : IntKind.i64.wrap ((R : Int) + (C : Int)) = (R : Int) + (C : Int) := IntWalk.i64_in _ (by omega)
  go_enter Tryd.func67, Tryd.ntmps67
  go_upto_region 1 with fail
  have hb0_0 : ∀ y : Since ((x.w.alloc (.cells #[.int .i64 (R : Int), .int .i64 (C : Int), .slice a m c] 31)).alloc (.cells #[.int .i64 0, .slice none 0 0] 112)), y.w.cell? ⟨x.w.heap.size, 0, none⟩ = some (.int .i64 (R : Int)) := fun y => Since.cell (by simp [go_sem]) (by first | (simp; done) | (simp; omega)) y
  have hb0_1 : ∀ y : Since ((x.w.alloc (.cells #[.int .i64 (R : Int), .int .i64 (C : Int), .slice a m c] 31)).alloc (.cells #[.int .i64 0, .slice none 0 0] 112)), y.w.cell? ⟨x.w.heap.size, 1, none⟩ = some (.int .i64 (C : Int)) := fun y => Since.cell (by simp [go_sem]) (by first | (simp; done) | (simp; omega)) y
  have hb0_2 : ∀ y : Since ((x.w.alloc (.cells #[.int .i64 (R : Int), .int .i64 (C : Int), .slice a m c] 31)).alloc (.cells #[.int .i64 0, .slice none 0 0] 112)), y.w.cell? ⟨x.w.heap.size, 2, none⟩ = some (.slice a m c) := fun y => Since.cell (by simp [go_sem]) (by first | (simp; done) | (simp; omega)) y
  have hf0 : ∀ (y : Since ((x.w.alloc (.cells #[.int .i64 (R : Int), .int .i64 (C : Int), .slice a m c] 31)).alloc (.cells #[.int .i64 0, .slice none 0 0] 112))) (o : Nat), y.w.frozen? ⟨x.w.heap.size, o, none⟩ = false := fun y o => Since.free (by simp [go_sem]) (by first | (simp; done) | (simp; omega)) y
  have hb1_0 : ∀ y : Since ((x.w.alloc (.cells #[.int .i64 (R : Int), .int .i64 (C : Int), .slice a m c] 31)).alloc (.cells #[.int .i64 0, .slice none 0 0] 112)), y.w.cell? ⟨x.w.heap.size + 1, 0, none⟩ = some (.int .i64 0) := fun y => Since.cell (by simp [go_sem]) (by first | (simp; done) | (simp; omega)) y
  have hb1_1 : ∀ y : Since ((x.w.alloc (.cells #[.int .i64 (R : Int), .int .i64 (C : Int), .slice a m c] 31)).alloc (.cells #[.int .i64 0, .slice none 0 0] 112)), y.w.cell? ⟨x.w.heap.size + 1, 1, none⟩ = some (.slice none 0 0) := fun y => Since.cell (by simp [go_sem]) (by first | (simp; done) | (simp; omega)) y
  have hf1 : ∀ (y : Since ((x.w.alloc (.cells #[.int .i64 (R : Int), .int .i64 (C : Int), .slice a m c] 31)).alloc (.cells #[.int .i64 0, .slice none 0 0] 112))) (o : Nat), y.w.frozen? ⟨x.w.heap.size + 1, o, none⟩ = false := fun y o => Since.free (by simp [go_sem]) (by first | (simp; done) | (simp; omega)) y
  have hWup : ∃ z : Since w, ((x.w.alloc (.cells #[.int .i64 (R : Int), .int .i64 (C : Int), .slice a m c] 31)).alloc (.cells #[.int .i64 0, .slice none 0 0] 112)) = z.w := Since.allocs x [.cells #[.int .i64 (R : Int), .int .i64 (C : Int), .slice a m c] 31, .cells #[.int .i64 0, .slice none 0 0] 112]
  obtain ⟨y0, hy0⟩ := Since.refl ((x.w.alloc (.cells #[.int .i64 (R : Int), .int .i64 (C : Int), .slice a m c] 31)).alloc (.cells #[.int .i64 0, .slice none 0 0] 112))
  have Hbx := Lib.hid (And.intro x.b.size (show x.w.heap.size + 2 = ((x.w.alloc (.cells #[.int .i64 (R : Int), .int .i64 (C : Int), .slice a m c] 31)).alloc (.cells #[.int .i64 0, .slice none 0 0] 112)).heap.size from by simp))
  generalize hW : ((x.w.alloc (.cells #[.int .i64 (R : Int), .int .i64 (C : Int), .slice a m c] 31)).alloc (.cells #[.int .i64 0, .slice none 0 0] 112)) = W at *
  clear hW
  generalize x.w.heap.size = bx at *
  have Hup := Lib.hid (Since.up hWup)
  rw [hy0]
  clear hy0
  replace HL := Lib.hid (HL.out.to hWup)
  replace HH := Lib.hid (HH.out.to hWup)
  clear hWup hf0
  go_upto_region 2 with fail
  have hx0 : (y0.w.alloc (.cells #[.int .i64 ((R : Int) + (C : Int)), .slice none 0 0] 112)).cell? ⟨y0.w.heap.size, 0, none⟩ = some (.int .i64 ((R : Int) + (C : Int))) := by simp [go_sem]
  have hx1 : (y0.w.alloc (.cells #[.int .i64 ((R : Int) + (C : Int)), .slice none 0 0] 112)).cell? ⟨y0.w.heap.size, 1, none⟩ = some (.slice none 0 0) := by simp [go_sem]
  have hxf : ∀ o, (y0.w.alloc (.cells #[.int .i64 ((R : Int) + (C : Int)), .slice none 0 0] 112)).frozen? ⟨y0.w.heap.size, o, none⟩ = false := fun o => by simp [go_sem]
  have hlt0 : y0.w.heap.size < (y0.w.alloc (.cells #[.int .i64 ((R : Int) + (C : Int)), .slice none 0 0] 112)).heap.size := by simp
  have hst0 : ∃ zz : Since y0.w, (y0.w.alloc (.cells #[.int .i64 ((R : Int) + (C : Int)), .slice none 0 0] 112)) = zz.w := IsSince.alloc (IsSince.self _) _
  have hsz0 := y0.b.size
  obtain ⟨y1, e2⟩ := IsSince.alloc (IsSince.of y0) (.cells #[.int .i64 ((R : Int) + (C : Int)), .slice none 0 0] 112)
  rw [e2] at hx0 hx1 hxf hlt0 hst0 ⊢
  (have hbx := BoxIs.new y0.w [.int .i64 ((R : Int) + (C : Int)), .slice none 0 0] 112; rw [e2] at hbx)
  clear e2 hst0
  generalize y0.w.heap.size = gN at *
  have Hhx0 : ∀ q : Since y1.w, q.w.cell? ⟨gN, 0, none⟩ = some (.int .i64 ((R : Int) + (C : Int))) := fun q => Since.cell hx0 (by omega) q
  have Hhx1 : ∀ q : Since y1.w, q.w.cell? ⟨gN, 1, none⟩ = some (.slice none 0 0) := fun q => Since.cell hx1 (by omega) q
  have Hhxf : ∀ (q : Since y1.w) (o : Nat), q.w.frozen? ⟨gN, o, none⟩ = false := fun q o => Since.free (hxf o) (by omega) q
  have Hhxg := Lib.hid (And.intro hsz0 hlt0)
  clear hlt0 hsz0
  have HX := Lib.hid hbx
  clear hbx Hhx0 Hhx1 Hhxf hx0 hx1 hxf
  have hgW : W.heap.size ≤ gN := Hhxg.out.1
  have hgl : gN < y1.w.heap.size := Hhxg.out.2
  obtain ⟨B2, hB2⟩ : ∃ B2, B2 = y1.w.heap.size := ⟨_, rfl⟩
  go_upto_region 3 with fail
  go_loopw [21] (fun si wr => ∃ (k : Nat) (v : Value) (y : Since W), k ≤ m ∧ si = .int .i64 (k : Int) ∧ wr = y.w ∧ BoxIs y.w gN [.int .i64 ((R : Int) + (C : Int)), v] ∧ B2 ≤ y.w.heap.size ∧ y.w.ownsRow B2 127 4 v (netN R C l h but k).length (flat Arc.cs (netN R C l h but k))) (fun si _ => m - (intOf si).toNat)
  case atStart => exact ⟨0, .slice none 0 0, y1, by omega, rfl, rfl, HX.out, by omega, ⟨rfl, Or.inl ⟨rfl, rfl⟩⟩⟩
  case round =>
    obtain ⟨k, v, y, hk, rfl, rfl, hX, hBz, hown⟩ := hrel
    have HX2 := Lib.hid hX; have Hown := Lib.hid hown
    clear hX hown HX
    by_cases hlt : k < m
    · have hk0 : (0 : Int) ≤ (k : Int) := by omega
      have hkl : (k : Int) < (m : Int) := by omega
      obtain ⟨b1, o1, rfl, hb1, hc1'⟩ := HL.out k (by have := Hm.out; omega)
      have f0 : y.w.cell? ⟨b1, o1 + k, none⟩ = some (.int .i64 (at0 l k)) := Since.cell hc1' hb1 y
      obtain ⟨b2, o2, rfl, hb2, hc2'⟩ := HH.out k (by have := Hm.out; have := Hh.out; omega)
      have f1 : ∀ q : Since y.w, q.w.cell? ⟨b2, o2 + k, none⟩ = some (.bool (bo h k)) := by intro q; obtain ⟨z, hz⟩ := y.trans q; rw [hz]; exact Since.cell hc2' hb2 z
      clear hb1 hc1' hb2 hc2'
      obtain ⟨z0, z1, z2, z3⟩ := HG.out.cell (i := k) (by have := Hm.out; omega)
      generalize he : at0 l k = e at *
      have He := Lib.hid he
      clear he
      have hCp : (0 : Int) < (C : Int) := by omega
      have wq := Lib.hid (wrap_quo z0 hr1)
      have wr := Lib.hid (wrap_rem z1 hr1 hc1)
      go_upto_region 5 with fail
      change Code.wp _ _ _ _ (Since.self y.w).w
      have k0 := Since.cellTo ⟨y, rfl⟩ hb0_0
      have k1 := Since.cellTo ⟨y, rfl⟩ hb0_1
      clear f0
      refine wp_region_since (by kernel_rfl) (by kernel_rfl) ?_
      repeat (go_big_quiet_step (fail))
      refine wpQuiet_nil ?_
      rintro _ ⟨z, rfl⟩
      obtain ⟨y2, h2⟩ := y.trans z
      have f2 := f1 z
      rw [h2] at f2 ⊢
      have hX3 := HX2.out.since z
      have hO3 := own_since Hown.out z.b
      have hBz2 := Nat.le_trans hBz z.b.size
      rw [h2] at hX3 hO3 hBz2
      have HX3 := Lib.hid hX3; have HO3 := Lib.hid hO3
      (try simp only [wq.out, wr.out])
      clear hX3 hO3 h2 f1 k0 k1 wq wr
      obtain ⟨q, hqe⟩ : ∃ q, q = (k : Int) / (C : Int) := ⟨_, rfl⟩
      obtain ⟨cl, hcl⟩ : ∃ cl, cl = (R : Int) + (k : Int) % (C : Int) := ⟨_, rfl⟩
      rw [← hqe, ← hcl]
      have Hqe := Lib.hid hqe; have Hcl := Lib.hid hcl
      clear hqe hcl
      have Hnet := Lib.hid (show netN R C l h but (k + 1) = netN R C l h but k ++ netC R C l h but k from rfl)
      cases hbk : (bo h k && decide (k ≠ but))
      · have HE := Lib.hid (show netN R C l h but (k + 1) = netN R C l h but k by rw [Hnet.out]; unfold netC; rw [if_neg (by intro hh; rw [hh.1, decide_eq_true hh.2] at hbk; cases hbk), List.append_nil])
        have hdec : (bo h k = false) ∨ (bo h k = true ∧ ((k : Int) != (but : Int)) = false) := by
          cases hb0 : bo h k
          · exact Or.inl rfl
          · rw [hb0] at hbk
            refine Or.inr ⟨rfl, ?_⟩
            simp at hbk; simp; omega
        clear hbk Hnet
        rcases hdec with hb0 | ⟨hb0, hb1⟩
        all_goals
          rw [hb0] at f2
          go_wp2_with fail
          go_roundw
          case rel => exact ⟨k + 1, v, y2, by omega, by go_num, rfl, HX3.out, hBz2, by rw [HE.out]; exact HO3.out⟩
          case measure => simp [intOf] <;> omega
      · have hb0 : bo h k = true := by
          cases hb0 : bo h k
          · rw [hb0] at hbk; cases hbk
          · rfl
        have hkb : k ≠ but := by rw [hb0] at hbk; simpa using hbk
        have hne : ((k : Int) != (but : Int)) = true := by simp; omega
        have HE := Lib.hid (show netN R C l h but (k + 1) = netN R C l h but k ++ [⟨cl, q, e, 0⟩, ⟨q, cl, 65536, 0⟩] by
          rw [Hnet.out]; unfold netC; rw [if_pos ⟨hb0, hkb⟩, He.out, Hqe.out, Hcl.out, Int.natCast_add, Int.natCast_emod, Int.natCast_ediv])
        rw [hb0] at f2
        have Hlen := Lib.hid (net_len (R := R) (C := C) (l := l) h but k)
        clear hbk Hnet hkb
        have x1 := HX3.out.c 1 _ rfl
        go_upto_region 8 with (at_builtin; (refine wpList_appendK (k := 4) (w0 := W) ?hw rfl _ _ 110 rfl B2 ?hb1 ?hb2 127 (.agg #[.int .i64 0, .int .i64 0, .int .i64 0, .int .i64 0]) 32 sArc v (netN R C l h but k).length (flat Arc.cs (netN R C l h but k)) rfl ?hown ⟨y2.w.heap.size, 0, none⟩ 2 2 ((⟨cl, q, e, 0⟩ : Arc).cs ++ (⟨q, cl, 65536, 0⟩ : Arc).cs) rfl rfl ?hc ?h1 ?h63 ?hbytes ?_; rotate_right 1; intro v2 q2 hown4 _ hg4; have hX4 := (HX3.out.up (.cells #[.int .i64 cl, .int .i64 q, .int .i64 e, .int .i64 0, .int .i64 q, .int .i64 cl, .int .i64 65536, .int .i64 0] 127)).grown hg4 (fun hb => by have h1 := own_block HO3.out gN hb.symm; omega); have xc := hX4.c 1 _ rfl; have xf := hX4.f; have hB4 := hg4.size; obtain ⟨a3, n3, c3, rfl⟩ := own_slice hown4))
        case hw => exact IsSince.alloc (IsSince.of y2) _
        case hb1 => omega
        case hb2 => have := hBz2; simp; omega
        case hown => exact own_up HO3.out
        case hc => exact blk_cells _ _ rfl
        case h1 => intro u hu; rcases List.mem_append.1 hu with h | h <;> exact arc_one _ u h
        case h63 => have := Hlen.out; unfold maxLen; omega
        case hbytes => have := Hlen.out; omega
        obtain ⟨y3, h3⟩ := q2.set ⟨gN, 1, none⟩ hgW (.slice a3 n3 c3)
        have hX5 := hX4.setj (j := 1) (by simp) (.slice a3 n3 c3)
        have hO5 := own_setB hown4 ⟨gN, 1, none⟩ (.slice a3 n3 c3) (fun b hb => by have h1 := own_block hown4 b hb; show b ≠ gN; omega)
        have hB5 : B2 ≤ y3.w.heap.size := by rw [← h3]; have h1 : y2.w.heap.size ≤ q2.w.heap.size := Nat.le_trans (by simp) hB4; simp [World.setCell]; omega
        rw [h3] at hX5 hO5 ⊢
        have HX5 := Lib.hid (show BoxIs y3.w gN [.int .i64 ((R : Int) + (C : Int)), .slice a3 n3 c3] from hX5)
        have HO5 := Lib.hid (show y3.w.ownsRow B2 127 4 (.slice a3 n3 c3) (netN R C l h but (k + 1)).length (flat Arc.cs (netN R C l h but (k + 1))) by rw [HE.out, flat_append, List.length_append]; exact hO5)
        clear hX5 hO5 hX4 hown4 hg4 h3 xc xf x1 HX3 HO3
        go_wp2_with fail
        go_roundw
        case rel => exact ⟨k + 1, .slice a3 n3 c3, y3, by omega, by go_num, rfl, HX5.out, hB5, HO5.out⟩
        case measure => simp [intOf] <;> omega
    · obtain rfl : k = m := by omega
      have HE := Lib.hid (show N = netN R C l h but k by rw [HN.out, Hm.out])
      obtain ⟨hn1, a3, c3, hv, hcap, hels, hab, _⟩ := own_els (l := netN R C l h but k) Arc.len (by decide) Hown.out
      clear hn1
      subst hv
      have HEls := Lib.hid hels
      have x0 := HX2.out.c 0 _ rfl
      have x1 := HX2.out.c 1 _ rfl
      have hb3 := Hbx.out
      have hels2 := hels.set ⟨bx + 1, 0, none⟩ (.int .i64 ((R : Int) + (C : Int))) (fun b hb => by have := hab b hb; show b.block ≠ bx + 1; omega)
      have hels3 := hels2.set ⟨bx + 1, 1, none⟩ (.slice a3 (netN R C l h but k).length c3) (fun b hb => by have := hab b hb; show b.block ≠ bx + 1; omega)
      rw [← HE.out] at hels3 x1
      have HE3 := Lib.hid hels3
      clear hels hels2 hels3
      go_wp2_with fail
      have hsm : ∀ j, j < 2 → (y.w.cell? ⟨bx + 1, j, none⟩).isSome = true := fun j hj => by
        match j, hj with
        | 0, _ => rw [hb1_0 y]; rfl
        | 1, _ => rw [hb1_1 y]; rfl
      obtain ⟨Z, hz, hc⟩ := set_many y (g := bx + 1) [.int .i64 ((R : Int) + (C : Int)), .slice a3 N.length c3] hsm (Hup.out y) (by have := Hbx.out; omega)
      simp only [World.setCells, Nat.reduceAdd] at hz
      rw [hz]
      have hc0 := hc 0 _ rfl
      have hc1 := hc 1 _ rfl
      exact bodyPost_ret (v := .agg #[.int .i64 ((R : Int) + (C : Int)), .slice a3 N.length c3]) (by simp [results, Tryd.results67, go_sem, hc0, hc1]) rfl ⟨a3, c3, Z, rfl, rfl, hz ▸ HE3.out⟩
end Go.Proofs.YtdkcclngionihaaDoor
