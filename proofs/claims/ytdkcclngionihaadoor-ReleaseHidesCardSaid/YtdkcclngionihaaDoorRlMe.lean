/- A search over the residue, walked. -/
import Derived.Test.YtdkcclngionihaaDoorRlMd
import Derived.Laws.OwnMore
set_option linter.all false
namespace Go.Proofs.YtdkcclngionihaaDoor
open Go.RowKit

theorem made_flat {α : Type} (cs : α → List Value) (k : Nat) (hk : 0 < k) (hl : ∀ x, (cs x).length = k) (d : α) (n : Nat) : (madeCells (cs d).toArray (n * k)).toList = flat cs (List.replicate n d) := by
  apply List.ext_getElem?
  intro j
  by_cases hj : j < n * k
  · have hm : j % k < (cs d).length := by rw [hl]; exact Nat.mod_lt _ hk
    have hq : (cs d)[j % k]? = some ((cs d)[j % k]) := List.getElem?_eq_getElem hm
    have hd : j / k < n := by rw [Nat.div_lt_iff_lt_mul hk]; exact hj
    have e := flat_at hl (List.replicate n d) (j / k) d (j % k) _ (by rw [List.getElem?_replicate, if_pos hd]) hq
    rw [Nat.mul_comm, Nat.div_add_mod] at e
    rw [e]
    simp only [madeCells]
    rw [Array.getElem?_toList, Array.getElem?_map, Array.getElem?_range, if_pos hj]
    simp [hl, Nat.mod_lt _ hk]
  · rw [List.getElem?_eq_none (by simp [size_madeCells]; omega), List.getElem?_eq_none (by rw [flat_length hl]; simp; omega)]
theorem sStp : SliceOf Tryd.prog 160 163 (.agg #[.int .i64 0, .int .i64 0, .int .i64 0, .bool false, .bool false, .int .i64 0]) 6 40 := SliceOf.mk' Tryd.underlying160 (by kernel_rfl) rfl (by decide)
theorem makeStp_run (w : World) (n : Nat) (hn : n ≤ 100000) :
    (Instr.makeSlice 160 (.int .i64 (n : Int)) (.int .i64 (n : Int))).run Tryd.prog w = .ok (.slice (some ⟨w.heap.size, 0, none⟩) n n) (w.alloc (.cells (flat Stp.cs (List.replicate n default)).toArray 163)) := by
  obtain ⟨i, hi, hz0, hsz, hby⟩ := sStp.e
  have hr := run_make (P := Tryd.prog) w 160 163 i _ sStp.t hi hz0 .i64 .i64 n n (by omega) (Int.le_refl _) (by rw [hby]; omega) (by omega)
  simp only [Int.toNat_natCast] at hr
  rw [hr, hsz]
  have := made_flat Stp.cs 6 (by decide) Stp.len default n
  rw [← this]
  rfl
/-- where a search begins -/
def stp0 (s : Nat) : Stp := ⟨s, -1, 0, false, true, 0⟩
theorem rch_start {n s : Nat} (hs : s < n) (l : List Arc) (f : Nat → Int) : Rch n l f s 0 ((List.replicate n default).set s (stp0 s)) := by
  have hg : ∀ k, sg ((List.replicate n default).set s (stp0 s)) k = if k = s then stp0 s else default := fun k => by
    rw [sg_set (by rw [List.length_replicate]; exact hs)]
    by_cases h : k = s
    · rw [if_pos h, if_pos h]
    · rw [if_neg h, if_neg h]
      unfold sg
      rw [List.getD_eq_getElem?_getD, List.getElem?_replicate]
      by_cases h2 : k < n
      · rw [if_pos h2]; rfl
      · rw [if_neg h2]; rfl
  have hk : ∀ k, (sg ((List.replicate n default).set s (stp0 s)) k).kn = true → k = s := fun k h => by
    rw [hg] at h
    by_cases e : k = s
    · exact e
    · rw [if_neg e] at h; cases h
  have h0 : sg ((List.replicate n default).set s (stp0 s)) s = stp0 s := by rw [hg, if_pos rfl]
  refine ⟨by simp, Int.le_refl _, ⟨hs, by rw [h0]; exact ⟨rfl, rfl⟩, fun k _ h => ?_, fun k _ h h2 => absurd (hk k h) h2⟩, fun k _ h => ?_, fun k _ h h2 => ?_⟩
  · rw [hk k h, h0]; exact Int.le_refl _
  · rw [hk k h, h0]; exact Int.le_refl _
  · rw [hk k h, h0] at h2; exact absurd h2 (Int.lt_irrefl 0)
/-- a whole step is stored -/
theorem set6_all {B : World} (x : Since B) {gS b : Nat} {L : List Stp} (hB : B.heap.size ≤ gS) (h : BoxIs x.w gS (flat Stp.cs L)) (hb : b < L.length) (y : Stp) :
    ∃ z : Since B, ((((((x.w.setCell ⟨gS, b * 6, none⟩ (.int .i64 y.fr)).setCell ⟨gS, b * 6 + 1, none⟩ (.int .i64 y.arc)).setCell ⟨gS, b * 6 + 2, none⟩ (.int .i64 y.room)).setCell ⟨gS, b * 6 + 3, none⟩ (.bool y.fw)).setCell ⟨gS, b * 6 + 4, none⟩ (.bool y.kn)).setCell ⟨gS, b * 6 + 5, none⟩ (.int .i64 y.dep)) = z.w ∧
      BoxIs z.w gS (flat Stp.cs (L.set b y)) ∧ ∀ g vs, g ≠ gS → BoxIs x.w g vs → BoxIs z.w g vs := by
  have hlen : b * 6 + 5 < (flat Stp.cs L).length := by rw [flat_length Stp.len]; omega
  have s1 := ((((((h.setj (j := b * 6) (by omega) (.int .i64 y.fr)).setj (j := b * 6 + 1) (by simp only [List.length_set]; omega) (.int .i64 y.arc)).setj (j := b * 6 + 2) (by simp only [List.length_set]; omega) (.int .i64 y.room)).setj (j := b * 6 + 3) (by simp only [List.length_set]; omega) (.bool y.fw)).setj (j := b * 6 + 4) (by simp only [List.length_set]; omega) (.bool y.kn)).setj (j := b * 6 + 5) (by simp only [List.length_set]; omega) (.int .i64 y.dep))
  rw [← flat_setS y L b hb] at s1
  have k := fun (g : Nat) (vs : List Value) (hg : g ≠ gS) (h : BoxIs x.w g vs) => ((((((h.far ⟨gS, b * 6, none⟩ (.int .i64 y.fr) hg).far ⟨gS, b * 6 + 1, none⟩ (.int .i64 y.arc) hg).far ⟨gS, b * 6 + 2, none⟩ (.int .i64 y.room) hg).far ⟨gS, b * 6 + 3, none⟩ (.bool y.fw) hg).far ⟨gS, b * 6 + 4, none⟩ (.bool y.kn) hg).far ⟨gS, b * 6 + 5, none⟩ (.int .i64 y.dep) hg)
  obtain ⟨u1, e1⟩ := x.set ⟨gS, b * 6, none⟩ hB (.int .i64 y.fr)
  obtain ⟨u2, e2⟩ := u1.set ⟨gS, b * 6 + 1, none⟩ hB (.int .i64 y.arc)
  rw [← e1] at e2
  obtain ⟨u3, e3⟩ := u2.set ⟨gS, b * 6 + 2, none⟩ hB (.int .i64 y.room)
  rw [← e2] at e3
  obtain ⟨u4, e4⟩ := u3.set ⟨gS, b * 6 + 3, none⟩ hB (.bool y.fw)
  rw [← e3] at e4
  obtain ⟨u5, e5⟩ := u4.set ⟨gS, b * 6 + 4, none⟩ hB (.bool y.kn)
  rw [← e4] at e5
  obtain ⟨u6, e6⟩ := u5.set ⟨gS, b * 6 + 5, none⟩ hB (.int .i64 y.dep)
  rw [← e5] at e6
  refine ⟨u6, e6, ?_, fun g vs hg h => ?_⟩
  · rw [← e6]; exact s1
  · rw [← e6]; exact k g vs hg h
/-- two new boxes -/
theorem box_two {B : World} (y : Since B) (v1 v2 : Value) (T1 T2 : TypeId) : ∃ z : Since B, (y.w.alloc (.cells #[v1] T1)).alloc (.cells #[v2] T2) = z.w ∧ BoxIs z.w y.w.heap.size [v1] ∧ BoxIs z.w (y.w.heap.size + 1) [v2] ∧ (∀ g vs, BoxIs y.w g vs → BoxIs z.w g vs) ∧ y.w.heap.size < z.w.heap.size := by
  obtain ⟨z, hz⟩ : IsSince B ((y.w.alloc (.cells #[v1] T1)).alloc (.cells #[v2] T2)) := IsSince.alloc (IsSince.alloc (IsSince.of y) _) _
  have b1 := (BoxIs.new y.w [v1] T1).up (.cells #[v2] T2)
  have b2 := BoxIs.new (y.w.alloc (.cells #[v1] T1)) [v2] T2
  rw [show (y.w.alloc (.cells #[v1] T1)).heap.size = y.w.heap.size + 1 by simp] at b2
  refine ⟨z, hz, ?_, ?_, fun g vs h => ?_, ?_⟩
  · rw [← hz]; exact b1
  · rw [← hz]; exact b2
  · rw [← hz]; exact (h.up _).up _
  · rw [← hz]; simp; omega
/-- the depth in the box that v shows -/
def depOf (v : Value) (w : World) : Nat := match v with
  | .pointer (some a) => (match w.cell? a with | some (.int _ i) => i.toNat | _ => 0)
  | _ => 0
theorem depOf_eq {a : Addr} {w : World} {k : IntKind} {i : Int} (h : w.cell? a = some (.int k i)) : depOf (.pointer (some a)) w = i.toNat := by
  simp only [depOf, h]
set_option linter.unusedSimpArgs false in
set_option maxRecDepth 100000 in
set_option maxHeartbeats 8000000 in
theorem freach_calls (B : World) (x : Since B) (l : List Arc) (F : List Int) (n s : Nat) (aa ao : Option Addr) (ca co : Nat) (hs : s < n) (hn : n ≤ 4096)
    (hA : Els Arc.cs 4 B aa l) (hF : IntRow B ao F) (hFl : F.length = l.length) (hok : NetOk n l) (hr : ∀ i, i < l.length → (0 ≤ at0 F i ∧ at0 F i ≤ 65536) ∧ (arcAt l i).cap ≤ 65536 ∧ 0 ≤ (arcAt l i).cost ∧ (arcAt l i).cost ≤ 65536) (hl : l.length ≤ 512) :
    Calls Tryd.prog 110 #[.agg #[.int .i64 (n : Int), .slice aa l.length ca, .slice ao F.length co], .int .i64 (s : Int)] x.w fun o w' => ∃ (g : Nat) (L : List Stp) (y : Since B), o = .returned (.slice (some ⟨g, 0, none⟩) n n) ∧ w' = y.w ∧ B.heap.size ≤ g ∧ BoxIs y.w g (flat Stp.cs L) ∧ Found n l (at0 F) s L := by
  have HA := Lib.hid hA
  have HF := Lib.hid hF
  have Hok := Lib.hid hok
  have Hr := Lib.hid hr
  have HFl := Lib.hid hFl
  have Hl := Lib.hid hl
  clear hA hF hok hr hFl hl
  go_enter Tryd.func110, Tryd.ntmps110
  go_upto_region 1 with fail
  have hx0 : (x.w.alloc (.cells #[.int .i64 (n : Int), .slice aa l.length ca, .slice ao F.length co] 130)).cell? ⟨x.w.heap.size, 0, none⟩ = some (.int .i64 (n : Int)) := by simp [go_sem]
  have hx1 : (x.w.alloc (.cells #[.int .i64 (n : Int), .slice aa l.length ca, .slice ao F.length co] 130)).cell? ⟨x.w.heap.size, 1, none⟩ = some (.slice aa l.length ca) := by simp [go_sem]
  have hx2 : (x.w.alloc (.cells #[.int .i64 (n : Int), .slice aa l.length ca, .slice ao F.length co] 130)).cell? ⟨x.w.heap.size, 2, none⟩ = some (.slice ao F.length co) := by simp [go_sem]
  have hxf : ∀ o, (x.w.alloc (.cells #[.int .i64 (n : Int), .slice aa l.length ca, .slice ao F.length co] 130)).frozen? ⟨x.w.heap.size, o, none⟩ = false := fun o => by simp [go_sem]
  have hlt0 : x.w.heap.size < (x.w.alloc (.cells #[.int .i64 (n : Int), .slice aa l.length ca, .slice ao F.length co] 130)).heap.size := by simp
  have hst0 : ∃ zz : Since x.w, (x.w.alloc (.cells #[.int .i64 (n : Int), .slice aa l.length ca, .slice ao F.length co] 130)) = zz.w := IsSince.alloc (IsSince.self _) _
  have hsz0 := x.b.size
  obtain ⟨y1, e2⟩ := IsSince.alloc (IsSince.of x) (.cells #[.int .i64 (n : Int), .slice aa l.length ca, .slice ao F.length co] 130)
  rw [e2] at hx0 hx1 hx2 hxf hlt0 hst0 ⊢
  (have hbx := BoxIs.new x.w [.int .i64 (n : Int), .slice aa l.length ca, .slice ao F.length co] 130; rw [e2] at hbx)
  clear e2 hst0
  generalize x.w.heap.size = bx at *
  have Hhx0 : ∀ q : Since y1.w, q.w.cell? ⟨bx, 0, none⟩ = some (.int .i64 (n : Int)) := fun q => Since.cell hx0 (by omega) q
  have Hhx1 : ∀ q : Since y1.w, q.w.cell? ⟨bx, 1, none⟩ = some (.slice aa l.length ca) := fun q => Since.cell hx1 (by omega) q
  have Hhx2 : ∀ q : Since y1.w, q.w.cell? ⟨bx, 2, none⟩ = some (.slice ao F.length co) := fun q => Since.cell hx2 (by omega) q
  have Hhxf : ∀ (q : Since y1.w) (o : Nat), q.w.frozen? ⟨bx, o, none⟩ = false := fun q o => Since.free (hxf o) (by omega) q
  have Hhxg := Lib.hid (And.intro hsz0 hlt0)
  clear hlt0 hsz0
  have HX := Lib.hid hbx
  clear hbx Hhx0 Hhx1 Hhx2 Hhxf hx1 hx2 hxf
  have hmk := fun q : World => makeStp_run q n (by omega)
  go_upto_region 2 with fail
  clear hmk hx0
  have b1 := (BoxIs.new y1.w (flat Stp.cs (List.replicate n default)) 163)
  have b2 := (BoxIs.new (y1.w.alloc (.cells (flat Stp.cs (List.replicate n default)).toArray 163)) [.slice (some ⟨y1.w.heap.size, 0, none⟩) n n] 160)
  replace b1 := b1.up (.cells #[.slice (some ⟨y1.w.heap.size, 0, none⟩) n n] 160)
  have e1 : (y1.w.alloc (.cells (flat Stp.cs (List.replicate n default)).toArray 163)).heap.size = y1.w.heap.size + 1 := by simp
  rw [e1] at b2
  have hst : ∃ z : Since y1.w, ((y1.w.alloc (.cells (flat Stp.cs (List.replicate n default)).toArray 163)).alloc (.cells #[.slice (some ⟨y1.w.heap.size, 0, none⟩) n n] 160)) = z.w := IsSince.alloc (IsSince.alloc (IsSince.self _) _) _
  have hX2 := HX.out.to hst
  obtain ⟨y2, h2⟩ : ∃ z : Since B, ((y1.w.alloc (.cells (flat Stp.cs (List.replicate n default)).toArray 163)).alloc (.cells #[.slice (some ⟨y1.w.heap.size, 0, none⟩) n n] 160)) = z.w := IsSince.alloc (IsSince.alloc (IsSince.of y1) _) _
  have hB := y1.b.size
  have hxS : bx < y1.w.heap.size := Hhxg.out.2
  clear HX Hhxg hst e1
  generalize y1.w.heap.size = gS at *
  rw [h2] at b1 b2 hX2 ⊢
  clear h2
  have HS := Lib.hid b1
  have HP := Lib.hid b2
  have HX := Lib.hid hX2
  clear b1 b2 hX2
  have hsn : (s : Int) < (n : Int) := by omega
  have hs0 : (0 : Int) ≤ (s : Int) := by omega
  have He := Lib.hid (show (List.replicate n (default : Stp))[s]? = some default by rw [List.getElem?_replicate, if_pos hs])
  have p0 := HP.out.c 0 _ rfl
  have c0 := HS.out.c _ _ (flat_at Stp.len _ s _ 0 _ He.out rfl)
  have c1 := HS.out.c _ _ (flat_at Stp.len _ s _ 1 _ He.out rfl)
  have c2 := HS.out.c _ _ (flat_at Stp.len _ s _ 2 _ He.out rfl)
  have c3 := HS.out.c _ _ (flat_at Stp.len _ s _ 3 _ He.out rfl)
  have c4 := HS.out.c _ _ (flat_at Stp.len _ s _ 4 _ He.out rfl)
  have c5 := HS.out.c _ _ (flat_at Stp.len _ s _ 5 _ He.out rfl)
  have cf := HS.out.f
  rw [Nat.add_zero] at c0
  go_upto_region 3 with fail
  clear c0 c1 c2 c3 c4 c5 cf p0
  obtain ⟨y3, h3, hS3, hO3⟩ := set6_all y2 hB HS.out (b := s) (by rw [List.length_replicate]; exact hs) (stp0 s)
  have hP3 := hO3 _ _ (by omega) HP.out
  have hX3 := hO3 _ _ (by omega) HX.out
  have e3 := h3
  simp only [stp0] at e3
  rw [e3]
  clear e3 h3 hO3 HS HP HX He
  have HS := Lib.hid hS3
  have HP := Lib.hid hP3
  have HX := Lib.hid hX3
  clear hS3 hP3 hX3
  go_upto_region 4 with fail
  obtain ⟨y4, h4, hd4, hg4, ho4, hlt4⟩ := box_two y3 (.int .i64 0) (.bool true) 3 4
  have hgd0 := HP.out.lt
  have hS4 := ho4 _ _ HS.out
  have hP4 := ho4 _ _ HP.out
  have hX4 := ho4 _ _ HX.out
  rw [h4]
  have HD4 := Lib.hid hd4; have HG4 := Lib.hid hg4; have HS4 := Lib.hid hS4; have HP4 := Lib.hid hP4; have HX4 := Lib.hid hX4
  clear hd4 hg4 hS4 hP4 hX4 ho4 h4 hlt4 HS HP HX
  generalize y3.w.heap.size = gd0 at *
  go_loopw [6, 7] (fun v6 v7 wr => ∃ (d : Nat) (L : List Stp) (gr : Bool) (gd gg : Nat) (y : Since B), v6 = .pointer (some ⟨gd, 0, none⟩) ∧ v7 = .pointer (some ⟨gg, 0, none⟩) ∧ wr = y.w ∧ RD B (gS + 1) gS gd gg ∧ RS y.w (gS + 1) gS gd gg L d gr ∧ BoxIs y.w bx [.int .i64 (n : Int), .slice aa l.length ca, .slice ao F.length co] ∧ L.length = n ∧ bx ≠ gg ∧ (gr = true → Rch n l (at0 F) s d L ∧ d < cntK L) ∧ (gr = false → Found n l (at0 F) s L)) (fun v6 v7 wr => n + 1 - depOf v6 wr)
  case atStart =>
    refine ⟨0, (List.replicate n default).set s (stp0 s), true, gd0, gd0 + 1, y4, rfl, rfl, rfl, ⟨hB, by omega, by omega, by omega, by omega, by omega, by omega⟩, ⟨?_, HS4.out, HD4.out, HG4.out⟩, HX4.out, by simp, by omega, fun _ => ⟨rch_start hs _ _, ?_⟩, fun h => by cases h⟩
    · rw [List.length_set, List.length_replicate]; exact HP4.out
    · unfold cntK
      rw [List.countP_set (by rw [List.length_replicate]; exact hs)]
      simp [stp0]
  case round =>
    obtain ⟨d, L, gr, gd, gg, y, rfl, rfl, rfl, hD, hR, hX, hL, hbg, hg1, hg2⟩ := hrel
    have HR := Lib.hid hR
    have HX := Lib.hid hX
    have HL := Lib.hid hL
    have p0 := hR.p.c 0 _ rfl
    have d0 := hR.d.c 0 _ rfl
    have q0 := hR.g.c 0 _ rfl
    have qf := hR.g.f
    rw [hL] at p0
    have HDEP := Lib.hid (show depOf (.pointer (some ⟨gd, 0, none⟩)) y.w = d from (depOf_eq d0).trans (Int.toNat_natCast d))
    clear hR hX hL HS4 HP4 HX4 HD4 HG4
    cases gr
    · have HF := Lib.hid (hg2 rfl)
      clear hg1 hg2 d0 qf
      go_wp2_with fail
      go_ret
      exact ⟨gS, L, y, rfl, rfl, hB, HR.out.s, HF.out⟩
    · have HG := Lib.hid (hg1 rfl)
      clear hg1 hg2 d0 p0
      go_upto_region 7 with fail
      obtain ⟨y5, h5⟩ := y.set ⟨gg, 0, none⟩ hD.bg (.bool false)
      have r1 := HR.out.p.far ⟨gg, 0, none⟩ (.bool false) (fun e => hD.gp e.symm)
      have r2 := HR.out.s.far ⟨gg, 0, none⟩ (.bool false) (fun e => hD.gS e.symm)
      have r3 := HR.out.d.far ⟨gg, 0, none⟩ (.bool false) (fun e => hD.gd e.symm)
      have r4 := HR.out.g.set1 (u := .bool false)
      have r5 := HX.out.far ⟨gg, 0, none⟩ (.bool false) hbg
      rw [h5] at r1 r2 r3 r4 r5 ⊢
      have HR5 := Lib.hid (show RS y5.w (gS + 1) gS gd gg L d false from ⟨r1, r2, r3, r4⟩)
      have HX5 := Lib.hid r5
      have hxb0 := r5.c 0 _ rfl
      have hxb1 := r5.c 1 _ rfl
      have hxb2 := r5.c 2 _ rfl
      have hdn : d < n := by have := HG.out.2; have := cntK_le L; have := HL.out; omega
      have HE := Lib.hid (each120_calls B y5 (gS + 1) gS gd gg hD L d false HR5.out l F n aa ao ca co HA.out HF.out HFl.out (by rw [HL.out]; exact Hok.out) Hr.out Hl.out (by omega))
      clear r1 r2 r3 r4 r5 h5 q0 qf HR HX
      have HM := Lib.hid (fun hg : (visN l (at0 F) (d : Int) (L, false) l.length).2 = false => HG.out.1.found Hok.out hg)
      have HM2 := Lib.hid (HG.out.1.more Hok.out)
      have HM3 := Lib.hid (show (visN l (at0 F) (d : Int) (L, false) l.length).2 = true → d + 1 < cntK (visN l (at0 F) (d : Int) (L, false) l.length).1 from fun hg => by have := (visN_pss Hok.out HG.out.1 l.length (Nat.le_refl _)).m.2 hg; have := HG.out.2; omega)
      have HM4 := Lib.hid (show (visN l (at0 F) (d : Int) (L, false) l.length).1.length = n by rw [visN_len]; exact HL.out)
      have hbS : bx ≠ gS := by omega
      generalize visN l (at0 F) (d : Int) (L, false) l.length = S at *
      go_upto_region 9 with (go_at_call 120; ((with_reducible refine HE.out.mono ?_); rintro _ _ ⟨rfl, y6, rfl, hR6, hK6⟩; have hX6 := HX5.out.kp hK6 hbS hbg; have d6 := hR6.d.c 0 _ rfl; have g6 := hR6.g.c 0 _ rfl))
      clear hxb0 hxb1 hxb2 HE HX5 HR5 d6 g6 hK6
      go_upto_region 5 with fail
      have hsz : gS + 1 < y6.w.heap.size := hR6.p.lt
      have hBz := y6.b.size
      obtain ⟨y7, h7, hd7, hg7, ho7, hlt7⟩ := box_two y6 (.int .i64 (d : Int)) (.bool S.2) 3 4
      have hS7 := ho7 _ _ hR6.s
      have hP7 := ho7 _ _ hR6.p
      have hX7 := ho7 _ _ hX6
      rw [h7]
      clear h7 ho7 hlt7 hR6 hX6
      generalize y6.w.heap.size = gn at *
      have d7 := hd7.c 0 _ rfl
      have f7 := hd7.f
      have ws : IntKind.i64.wrap ((d : Int) + 1) = (d : Int) + 1 := IntWalk.i64_in _ (by omega)
      have HD7 := Lib.hid hd7; have HG7 := Lib.hid hg7; have HS7 := Lib.hid hS7; have HP7 := Lib.hid hP7; have HX7 := Lib.hid hX7
      clear hd7 hg7 hS7 hP7 hX7
      go_wp2_with fail
      obtain ⟨y8, h8⟩ := y7.set ⟨gn, 0, none⟩ (by show B.heap.size ≤ gn; omega) (.int .i64 ((d : Int) + 1))
      have r1 := HP7.out.far ⟨gn, 0, none⟩ (.int .i64 ((d : Int) + 1)) (by show gS + 1 ≠ gn; omega)
      have r2 := HS7.out.far ⟨gn, 0, none⟩ (.int .i64 ((d : Int) + 1)) (by show gS ≠ gn; omega)
      have r3 := HD7.out.set1 (u := .int .i64 ((d : Int) + 1))
      have r4 := HG7.out.far ⟨gn, 0, none⟩ (.int .i64 ((d : Int) + 1)) (by show gn + 1 ≠ gn; omega)
      have r5 := HX7.out.far ⟨gn, 0, none⟩ (.int .i64 ((d : Int) + 1)) (by show bx ≠ gn; omega)
      rw [h8] at r1 r2 r3 r4 r5 ⊢
      have hdep : depOf (.pointer (some ⟨gn, 0, none⟩)) y8.w = d + 1 := by
        rw [depOf_eq (r3.c 0 _ rfl)]
        show ((d : Int) + 1).toNat = d + 1
        omega
      have HREL := Lib.hid (show RS y8.w (gS + 1) gS gn (gn + 1) S.1 ((d + 1 : Nat) : Int) S.2 from ⟨r1, r2, by rw [Int.natCast_succ]; exact r3, r4⟩)
      have HX8 := Lib.hid r5
      have hdep0 := HDEP.out
      clear r1 r2 r3 r4 r5 h8 d7 f7
      go_roundw
      case rel => exact ⟨d + 1, S.1, S.2, gn, gn + 1, y8, rfl, rfl, rfl, ⟨hB, by omega, by omega, by omega, by omega, by omega, by omega⟩, HREL.out, HX8.out, HM4.out, by omega, fun hg => ⟨by rw [Int.natCast_succ]; exact HM2.out, HM3.out hg⟩, fun hg => HM.out hg⟩
      case measure => rw [hdep, hdep0]; omega
end Go.Proofs.YtdkcclngionihaaDoor
/- A push along the way that a search found, walked. -/
namespace Go.Proofs.YtdkcclngionihaaDoor
open Go.RowKit

theorem stp_at {w : World} {gS : Nat} {L : List Stp} (h : BoxIs w gS (flat Stp.cs L)) {k : Nat} (hk : k < L.length) : w.cell? ⟨gS, k * 6, none⟩ = some (.int .i64 (sg L k).fr) ∧ w.cell? ⟨gS, k * 6 + 1, none⟩ = some (.int .i64 (sg L k).arc) ∧ w.cell? ⟨gS, k * 6 + 2, none⟩ = some (.int .i64 (sg L k).room) ∧ w.cell? ⟨gS, k * 6 + 3, none⟩ = some (.bool (sg L k).fw) := by
  have he : L[k]? = some (sg L k) := by unfold sg; rw [List.getD_eq_getElem?_getD, List.getElem?_eq_getElem hk]; rfl
  exact ⟨h.c _ _ (flat_at Stp.len L k _ 0 _ he rfl), h.c _ _ (flat_at Stp.len L k _ 1 _ he rfl), h.c _ _ (flat_at Stp.len L k _ 2 _ he rfl), h.c _ _ (flat_at Stp.len L k _ 3 _ he rfl)⟩
set_option linter.unusedSimpArgs false in
set_option maxRecDepth 100000 in
set_option maxHeartbeats 8000000 in
theorem push_calls (B : World) (x : Since B) (l : List Arc) (F : List Int) (n s t : Nat) (aa : Option Addr) (ca co gF gS : Nat) (L : List Stp) (most v : Int) (ht : t < n) (hts : t ≠ s) (_hn : n ≤ 4096) (hm : 1 ≤ most)
    (hgF : B.heap.size ≤ gF) (hSF : gS ≠ gF) (hF : BoxIs x.w gF (F.map (.int .i64))) (hS : BoxIs x.w gS (flat Stp.cs L)) (hFl : F.length = l.length) (hl : l.length ≤ 512)
    (hT : Tree n l (at0 F) s (sg L)) (hL : L.length = n) (hkn : (sg L t).kn = true) (hFlow : Flow n l (s : Int) (t : Int) (at0 F) v) (hcap : ∀ i, i < l.length → (arcAt l i).cap ≤ 65536) :
    Calls Tryd.prog 111 #[.agg #[.int .i64 (n : Int), .slice aa l.length ca, .slice (some ⟨gF, 0, none⟩) F.length co], .slice (some ⟨gS, 0, none⟩) n n, .int .i64 (s : Int), .int .i64 (t : Int), .int .i64 most] x.w fun o w' => ∃ (d : Int) (F' : List Int) (y : Since B), o = .returned (.int .i64 d) ∧ w' = y.w ∧ 1 ≤ d ∧ d ≤ most ∧ BoxIs y.w gF (F'.map (.int .i64)) ∧ F'.length = l.length ∧ Flow n l (s : Int) (t : Int) (at0 F') (v + d) ∧ ∀ g vs, g ≠ gF → BoxIs x.w g vs → BoxIs y.w g vs := by
  have HF := Lib.hid hF
  have HS := Lib.hid hS
  have HFl := Lib.hid hFl
  have Hl := Lib.hid hl
  have HL := Lib.hid hL
  have HFlow := Lib.hid hFlow
  have Hcap := Lib.hid hcap
  have HT := Lib.hid hT
  have Hkn := Lib.hid hkn
  clear hF hS hFl hl hL hFlow hcap hT hkn
  go_enter Tryd.func111, Tryd.ntmps111
  go_upto_region 1 with fail
  have hx0 : (x.w.alloc (.cells #[.int .i64 (n : Int), .slice aa l.length ca, .slice (some ⟨gF, 0, none⟩) F.length co] 130)).cell? ⟨x.w.heap.size, 0, none⟩ = some (.int .i64 (n : Int)) := by simp [go_sem]
  have hx1 : (x.w.alloc (.cells #[.int .i64 (n : Int), .slice aa l.length ca, .slice (some ⟨gF, 0, none⟩) F.length co] 130)).cell? ⟨x.w.heap.size, 1, none⟩ = some (.slice aa l.length ca) := by simp [go_sem]
  have hx2 : (x.w.alloc (.cells #[.int .i64 (n : Int), .slice aa l.length ca, .slice (some ⟨gF, 0, none⟩) F.length co] 130)).cell? ⟨x.w.heap.size, 2, none⟩ = some (.slice (some ⟨gF, 0, none⟩) F.length co) := by simp [go_sem]
  have hxf : ∀ o, (x.w.alloc (.cells #[.int .i64 (n : Int), .slice aa l.length ca, .slice (some ⟨gF, 0, none⟩) F.length co] 130)).frozen? ⟨x.w.heap.size, o, none⟩ = false := fun o => by simp [go_sem]
  have hlt0 : x.w.heap.size < (x.w.alloc (.cells #[.int .i64 (n : Int), .slice aa l.length ca, .slice (some ⟨gF, 0, none⟩) F.length co] 130)).heap.size := by simp
  have hst0 : ∃ zz : Since x.w, (x.w.alloc (.cells #[.int .i64 (n : Int), .slice aa l.length ca, .slice (some ⟨gF, 0, none⟩) F.length co] 130)) = zz.w := IsSince.alloc (IsSince.self _) _
  have hsz0 := x.b.size
  obtain ⟨y1, e2⟩ := IsSince.alloc (IsSince.of x) (.cells #[.int .i64 (n : Int), .slice aa l.length ca, .slice (some ⟨gF, 0, none⟩) F.length co] 130)
  rw [e2] at hx0 hx1 hx2 hxf hlt0 hst0 ⊢
  (have hbx := BoxIs.new x.w [.int .i64 (n : Int), .slice aa l.length ca, .slice (some ⟨gF, 0, none⟩) F.length co] 130; rw [e2] at hbx; have hbF : x.w.heap.size ≠ gF := (by have := HF.out.lt; omega); have hF1 := HF.out.to hst0; have hS1 := HS.out.to hst0; have hK1 := fun g vs (_ : g ≠ gF) (h : BoxIs x.w g vs) => h.to hst0)
  clear e2 hst0
  generalize x.w.heap.size = bx at *
  have Hhx0 : ∀ q : Since y1.w, q.w.cell? ⟨bx, 0, none⟩ = some (.int .i64 (n : Int)) := fun q => Since.cell hx0 (by omega) q
  have Hhx1 : ∀ q : Since y1.w, q.w.cell? ⟨bx, 1, none⟩ = some (.slice aa l.length ca) := fun q => Since.cell hx1 (by omega) q
  have Hhx2 : ∀ q : Since y1.w, q.w.cell? ⟨bx, 2, none⟩ = some (.slice (some ⟨gF, 0, none⟩) F.length co) := fun q => Since.cell hx2 (by omega) q
  have Hhxf : ∀ (q : Since y1.w) (o : Nat), q.w.frozen? ⟨bx, o, none⟩ = false := fun q o => Since.free (hxf o) (by omega) q
  have Hhxg := Lib.hid (And.intro hsz0 hlt0)
  clear hlt0 hsz0
  have HX1 := Lib.hid hbx; have HF1 := Lib.hid hF1; have HS1 := Lib.hid hS1; have HK1 := Lib.hid hK1
  clear hbx hF1 hS1 hK1 HF HS Hhx0 Hhx1 Hhx2 Hhxf Hhxg hx0 hx1 hx2 hxf
  go_upto_region 2 with fail
  go_loopw [4, 11] (fun v4 v11 wr => ∃ (m : Nat) (d : Int), (m : Int) ≤ (sg L t).dep ∧ v4 = .int .i64 d ∧ v11 = .int .i64 ((pth (sg L) s t m : Nat) : Int) ∧ wr = y1.w ∧ 1 ≤ d ∧ d ≤ most ∧ ∀ j, j < m → d ≤ (sg L (pth (sg L) s t j)).room) (fun _ v11 _ => (sg L (intOf v11).toNat).dep.toNat)
  case atStart => exact ⟨0, most, by have := HT.out.d t ht Hkn.out; simpa using this, rfl, rfl, rfl, hm, Int.le_refl _, fun j hj => by omega⟩
  case round =>
    obtain ⟨m, d, hmd, rfl, rfl, rfl, hd1, hd2, hdj⟩ := hrel
    have HJ := Lib.hid hdj
    have HW := Lib.hid (HT.out.way ht Hkn.out m hmd)
    have HmD := Lib.hid hmd
    clear hdj hmd
    by_cases he : pth (sg L) s t m = s
    · have hes : (((pth (sg L) s t m : Nat) : Int) != (s : Int)) = false := by rw [he]; simp
      have HR := Lib.hid (show ∀ j : Nat, (j : Int) < (sg L t).dep → d ≤ (sg L (pth (sg L) s t j)).room from fun j hj => HJ.out j (by
        have h1 := HW.out.2.2
        rw [he, HT.out.r.2] at h1
        omega))
      clear he HJ HW HmD
      generalize pth (sg L) s t m = k at *
      go_upto_region 6 with fail
      clear hes
      go_loopw [12] (fun v12 wr => ∃ (m : Nat) (F' : List Int) (y : Since B), (m : Int) ≤ (sg L t).dep ∧ v12 = .int .i64 ((pth (sg L) s t m : Nat) : Int) ∧ wr = y.w ∧ BoxIs y.w gF (F'.map (.int .i64)) ∧ BoxIs y.w gS (flat Stp.cs L) ∧ BoxIs y.w bx [.int .i64 (n : Int), .slice aa l.length ca, .slice (some ⟨gF, 0, none⟩) F.length co] ∧ F'.length = F.length ∧ Push l (at0 F) (sg L) s t d m (at0 F') ∧ ∀ g vs, g ≠ gF → BoxIs x.w g vs → BoxIs y.w g vs) (fun v12 _ => (sg L (intOf v12).toNat).dep.toNat)
      case atStart => exact ⟨0, F, y1, by have := HT.out.d t ht Hkn.out; simpa using this, rfl, rfl, HF1.out, HS1.out, HX1.out, rfl, push_start HFlow.out.c t d, HK1.out⟩
      case round =>
        obtain ⟨m2, F', y, hmd, rfl, rfl, hF, hS, hX, hFl, hP, hKp⟩ := hrel
        have HF2 := Lib.hid hF; have HS2 := Lib.hid hS; have HX2 := Lib.hid hX; have HFl2 := Lib.hid hFl; have HP := Lib.hid hP; have HKp := Lib.hid hKp; have HmD := Lib.hid hmd
        have HW := Lib.hid (HT.out.way ht Hkn.out m2 hmd)
        clear hF hS hX hFl hP hKp hmd
        by_cases he : pth (sg L) s t m2 = s
        · have hes : (((pth (sg L) s t m2 : Nat) : Int) != (s : Int)) = false := by rw [he]; simp
          have HD := Lib.hid (HP.out.done HT.out ht Hkn.out hts (by
            have h1 := HW.out.2.2
            rw [he, HT.out.r.2] at h1
            omega) HFlow.out)
          clear he
          go_wp2_with fail
          go_ret
          exact ⟨d, F', y, rfl, rfl, hd1, hd2, HF2.out, HFl2.out.trans HFl.out, HD.out, HKp.out⟩
        · have hlt := Lib.hid (HT.out.short ht Hkn.out HmD.out he)
          have hfr := (HT.out.edge ht Hkn.out hlt.out).2.1
          obtain ⟨i, hi, hil, hP3⟩ := HP.out.step HT.out ht Hkn.out hlt.out (by omega) (HR.out m2 hlt.out)
          have hkn : pth (sg L) s t m2 < n := HW.out.1
          have hF0 := HP.out.c i hil
          have hc0 := Hcap.out i hil
          obtain ⟨c0, c1, _, c3⟩ := stp_at HS2.out (k := pth (sg L) s t m2) (by rw [HL.out]; exact hkn)
          rw [hfr] at c0
          rw [hi] at c1
          have hiF : i < F'.length := by rw [HFl2.out, HFl.out]; exact hil
          have q0 : y.w.cell? ⟨gF, i, none⟩ = some (.int .i64 (at0 F' i)) := HF2.out.c i _ (by rw [List.getElem?_map, List.getElem?_eq_getElem hiF]; simp [at0, List.getD_eq_getElem?_getD, List.getElem?_eq_getElem hiF])
          have hd3 : d ≤ 65536 := by
            have h1 := HR.out m2 hlt.out
            obtain ⟨_, _, i', hi', hr⟩ := HT.out.edge ht Hkn.out hlt.out
            obtain rfl : i' = i := by have := hi'.symm.trans hi; omega
            have h2 := HFlow.out.c i' hil
            rcases hr.2 with ⟨_, _, _, h3, _⟩ | ⟨_, _, _, h3, _⟩ <;> omega
          have Hd := Lib.hid (show (sg L (pth (sg L) s t (m2 + 1))).dep = (sg L t).dep - (m2 + 1 : Nat) from (HT.out.way ht Hkn.out (m2 + 1) (by have := hlt.out; omega)).2.2)
          have Hd0 := Lib.hid HW.out.2.2
          have hne : (((pth (sg L) s t m2 : Nat) : Int) != (s : Int)) = true := by simp; omega
          have hk0 : (0 : Int) ≤ ((pth (sg L) s t m2 : Nat) : Int) := by omega
          have hkl : ((pth (sg L) s t m2 : Nat) : Int) < (n : Int) := by omega
          have hi0 : (0 : Int) ≤ (i : Int) := by omega
          have hil2 : (i : Int) < (F.length : Int) := by rw [HFl.out]; omega
          have HP3 := Lib.hid hP3
          have HiF := Lib.hid hiF
          have Hfr := Lib.hid hfr
          have HM2 := Lib.hid (show ((m2 + 1 : Nat) : Int) ≤ (sg L t).dep by have := hlt.out; omega)
          clear hfr hP3 hiF he
          generalize hq : pth (sg L) s t (m2 + 1) = q at *
          generalize hk : pth (sg L) s t m2 = k2 at *
          have Hq := Lib.hid hq; have Hk := Lib.hid hk
          clear hq hk
          cases hfw : (sg L k2).fw
          · rw [hfw] at c3
            rw [hfw] at HP3
            go_upto_region 10 with fail
            have x2 := HX2.out.c 2 _ rfl
            have ws : IntKind.i64.wrap (at0 F' i - d) = at0 F' i - d := IntWalk.i64_in _ (by omega)
            have i2 := fun w' (h : IsSince y.w w') => IsSince.cell (Since.cell x2 HX2.out.lt) h
            have j1 := fun w' (h : IsSince y.w w') => IsSince.cell (Since.cell c1 HS2.out.lt) h
            have g0 := fun w' (h : IsSince y.w w') => IsSince.cell (Since.cell q0 HF2.out.lt) h
            have q1 : y.w.drew.cell? ⟨gF, i, none⟩ = some (.int .i64 (at0 F' i)) := q0
            have qf : y.w.drew.frozen? ⟨gF, i, none⟩ = false := HF2.out.f i
            refine wp_region_M (fun w' => IsSince y.w w') 12 (by kernel_rfl) (IsSince.drew' (IsSince.self _)) (fun hS => ?_)
            refine wpAnyM_takeU (i := 0) (v := ?_) rfl (by kernel_rfl) (by kernel_rfl) (by kernel_rfl) (by kernel_rfl) (fun _ _ _ h => h) hS (Or.inl ⟨by rfl, ?_⟩) ?_
            rotate_left
            · (intro w hSw; (try dsimp only at hSw); go_split_ands; go_simp; try (with_reducible rfl))
            (try simp only [Act.put, List.setIfInBounds_toArray, List.set_cons_zero, List.set_cons_succ])
            refine wpAnyM_takeU (i := 1) (v := ?_) rfl (by kernel_rfl) (by kernel_rfl) (by kernel_rfl) (by kernel_rfl) (fun _ _ _ h => h) hS (Or.inl ⟨by rfl, ?_⟩) ?_
            rotate_left
            · (intro w hSw; (try dsimp only at hSw); go_split_ands; go_simp; try (with_reducible rfl))
            (try simp only [Act.put, List.setIfInBounds_toArray, List.set_cons_zero, List.set_cons_succ])
            refine wpAnyM_takeU (i := 2) (v := ?_) rfl (by kernel_rfl) (by kernel_rfl) (by kernel_rfl) (by kernel_rfl) (fun _ _ _ h => h) hS (Or.inl ⟨by rfl, ?_⟩) ?_
            rotate_left
            · (intro w hSw; (try dsimp only at hSw); go_split_ands; go_simp; try (with_reducible rfl))
            (try simp only [Act.put, List.setIfInBounds_toArray, List.set_cons_zero, List.set_cons_succ])
            refine wpAnyM_takeU (i := 3) (v := ?_) rfl (by kernel_rfl) (by kernel_rfl) (by kernel_rfl) (by kernel_rfl) (fun _ _ _ h => h) hS (Or.inl ⟨by rfl, ?_⟩) ?_
            rotate_left
            · (intro w hSw; (try dsimp only at hSw); go_split_ands; go_simp; try (with_reducible rfl))
            (try simp only [Act.put, List.setIfInBounds_toArray, List.set_cons_zero, List.set_cons_succ])
            refine wpAnyM_takeU (i := 4) (v := ?_) rfl (by kernel_rfl) (by kernel_rfl) (by kernel_rfl) (by kernel_rfl) (fun _ _ _ h => h) hS (Or.inl ⟨by rfl, ?_⟩) ?_
            rotate_left
            · (intro w hSw; (try dsimp only at hSw); go_split_ands; go_simp; try (with_reducible rfl))
            (try simp only [Act.put, List.setIfInBounds_toArray, List.set_cons_zero, List.set_cons_succ])
            refine wpAnyM_takeU (i := 5) (v := ?_) rfl (by kernel_rfl) (by kernel_rfl) (by kernel_rfl) (by kernel_rfl) (fun _ _ _ h => h) hS (Or.inl ⟨by rfl, ?_⟩) ?_
            rotate_left
            · (intro w hSw; (try dsimp only at hSw); go_split_ands; go_simp; try (with_reducible rfl))
            (try simp only [Act.put, List.setIfInBounds_toArray, List.set_cons_zero, List.set_cons_succ])
            refine wpAnyM_takeU (i := 6) (v := ?_) rfl (by kernel_rfl) (by kernel_rfl) (by kernel_rfl) (by kernel_rfl) (fun _ _ _ h => h) hS (Or.inl ⟨by rfl, ?_⟩) ?_
            rotate_left
            · (intro w hSw; (try dsimp only at hSw); go_split_ands; go_simp; try (with_reducible rfl))
            (try simp only [Act.put, List.setIfInBounds_toArray, List.set_cons_zero, List.set_cons_succ])
            refine wpAnyM_takeU (i := 7) (v := ?_) rfl (by kernel_rfl) (by kernel_rfl) (by kernel_rfl) (by kernel_rfl) (fun _ _ _ h => h) hS (Or.inl ⟨by rfl, ?_⟩) ?_
            rotate_left
            · (intro w hSw; (try dsimp only at hSw); go_split_ands; go_simp; try (with_reducible rfl))
            (try simp only [Act.put, List.setIfInBounds_toArray, List.set_cons_zero, List.set_cons_succ])
            refine wpAnyM_takeU (i := 8) (v := ?_) rfl (by kernel_rfl) (by kernel_rfl) (by kernel_rfl) (by kernel_rfl) (fun _ _ _ h => h) hS (Or.inl ⟨by rfl, ?_⟩) ?_
            rotate_left
            · (intro w hSw; (try dsimp only at hSw); go_split_ands; go_simp; try (with_reducible rfl))
            (try simp only [Act.put, List.setIfInBounds_toArray, List.set_cons_zero, List.set_cons_succ])
            refine wpAnyM_takeU (i := 9) (v := ?_) rfl (by kernel_rfl) (by kernel_rfl) (by kernel_rfl) (by kernel_rfl) (fun _ _ _ h => h) hS (Or.inl ⟨by rfl, ?_⟩) ?_
            rotate_left
            · (intro w hSw; (try dsimp only at hSw); go_split_ands; go_simp; try (with_reducible rfl))
            (try simp only [Act.put, List.setIfInBounds_toArray, List.set_cons_zero, List.set_cons_succ])
            refine wpAnyM_takeU (i := 10) (v := ?_) rfl (by kernel_rfl) (by kernel_rfl) (by kernel_rfl) (by kernel_rfl) (fun _ _ _ h => h) hS (Or.inl ⟨by rfl, ?_⟩) ?_
            rotate_left
            · (intro w hSw; (try dsimp only at hSw); go_split_ands; go_simp; try (with_reducible rfl))
            (try simp only [Act.put, List.setIfInBounds_toArray, List.set_cons_zero, List.set_cons_succ])
            refine wpAnyM_takeU (i := 11) (v := ?_) rfl (by kernel_rfl) (by kernel_rfl) (by kernel_rfl) (by kernel_rfl) (fun _ _ _ h => h) hS (Or.inl ⟨by rfl, ?_⟩) ?_
            rotate_left
            · (intro w hSw; (try dsimp only at hSw); go_split_ands; go_simp; try (with_reducible rfl))
            (try simp only [Act.put, List.setIfInBounds_toArray, List.set_cons_zero, List.set_cons_succ])
            refine wpAnyM_one (i := 12) (by kernel_rfl) rfl (fun K hK => ?_)
            go_simp
            refine hK.out _ _ (Or.inl rfl) (fun _ => ?_)
            clear hK K hS
            (try simp only [Act.put, List.setIfInBounds_toArray, List.set_cons_zero, List.set_cons_succ])
            refine wpAnyM_done (by kernel_rfl) ?_
            clear i2 j1 g0 ws x2 q1 qf c0 c1 c3 q0
            obtain ⟨y3, h3⟩ : ∃ y3 : Since B, (y.w.setCell ⟨gF, i, none⟩ (.int .i64 (at0 F' i - d))).drew = y3.w := IsSince.drew' (IsSince.set (IsSince.of y) _ hgF _)
            have r1 := (HF2.out.setj (j := i) (by rw [List.length_map]; exact HiF.out) (.int .i64 (at0 F' i - d))).drew
            have r2 := (HS2.out.far ⟨gF, i, none⟩ (.int .i64 (at0 F' i - d)) hSF).drew
            have r3 := (HX2.out.far ⟨gF, i, none⟩ (.int .i64 (at0 F' i - d)) hbF).drew
            have r4 := fun g vs (hg : g ≠ gF) (h : BoxIs x.w g vs) => ((HKp.out g vs hg h).far ⟨gF, i, none⟩ (.int .i64 (at0 F' i - d)) hg).drew
            rw [h3] at r1 r2 r3 r4 ⊢
            have HKp3 := Lib.hid r4
            obtain ⟨c0, _, _, _⟩ := stp_at r2 (k := k2) (by rw [HL.out]; exact hkn)
            rw [Hfr.out] at c0
            have HF3 := Lib.hid (show BoxIs y3.w gF ((F'.set i (at0 F' i - d)).map (.int .i64)) by rw [List.map_set]; exact r1)
            have HS3 := Lib.hid r2
            have HX3 := Lib.hid r3
            have HQ := Lib.hid (show Push l (at0 F) (sg L) s t d (m2 + 1) (at0 (F'.set i (at0 F' i - d))) by rw [Int.sub_eq_add_neg, bump_set HiF.out]; exact HP3.out)
            clear r1 r2 r3 r4 h3 HKp HF2 HS2 HX2 HP HP3
            go_wp2_with fail
            refine ⟨⟨m2 + 1, _, y3, HM2.out, by rw [Hq.out], rfl, HF3.out, HS3.out, HX3.out, by rw [List.length_set]; exact HFl2.out, HQ.out, HKp3.out⟩, ?_⟩
            show (sg L (q : Int).toNat).dep.toNat < (sg L (k2 : Int).toNat).dep.toNat
            rw [Int.toNat_natCast, Int.toNat_natCast, Hd.out, Hd0.out]
            have := hlt.out
            omega
          · rw [hfw] at c3
            rw [hfw] at HP3
            go_upto_region 9 with fail
            have x2 := HX2.out.c 2 _ rfl
            have ws : IntKind.i64.wrap (at0 F' i + d) = at0 F' i + d := IntWalk.i64_in _ (by omega)
            have i2 := fun w' (h : IsSince y.w w') => IsSince.cell (Since.cell x2 HX2.out.lt) h
            have j1 := fun w' (h : IsSince y.w w') => IsSince.cell (Since.cell c1 HS2.out.lt) h
            have g0 := fun w' (h : IsSince y.w w') => IsSince.cell (Since.cell q0 HF2.out.lt) h
            have q1 : y.w.drew.cell? ⟨gF, i, none⟩ = some (.int .i64 (at0 F' i)) := q0
            have qf : y.w.drew.frozen? ⟨gF, i, none⟩ = false := HF2.out.f i
            refine wp_region_M (fun w' => IsSince y.w w') 12 (by kernel_rfl) (IsSince.drew' (IsSince.self _)) (fun hS => ?_)
            refine wpAnyM_takeU (i := 0) (v := ?_) rfl (by kernel_rfl) (by kernel_rfl) (by kernel_rfl) (by kernel_rfl) (fun _ _ _ h => h) hS (Or.inl ⟨by rfl, ?_⟩) ?_
            rotate_left
            · (intro w hSw; (try dsimp only at hSw); go_split_ands; go_simp; try (with_reducible rfl))
            (try simp only [Act.put, List.setIfInBounds_toArray, List.set_cons_zero, List.set_cons_succ])
            refine wpAnyM_takeU (i := 1) (v := ?_) rfl (by kernel_rfl) (by kernel_rfl) (by kernel_rfl) (by kernel_rfl) (fun _ _ _ h => h) hS (Or.inl ⟨by rfl, ?_⟩) ?_
            rotate_left
            · (intro w hSw; (try dsimp only at hSw); go_split_ands; go_simp; try (with_reducible rfl))
            (try simp only [Act.put, List.setIfInBounds_toArray, List.set_cons_zero, List.set_cons_succ])
            refine wpAnyM_takeU (i := 2) (v := ?_) rfl (by kernel_rfl) (by kernel_rfl) (by kernel_rfl) (by kernel_rfl) (fun _ _ _ h => h) hS (Or.inl ⟨by rfl, ?_⟩) ?_
            rotate_left
            · (intro w hSw; (try dsimp only at hSw); go_split_ands; go_simp; try (with_reducible rfl))
            (try simp only [Act.put, List.setIfInBounds_toArray, List.set_cons_zero, List.set_cons_succ])
            refine wpAnyM_takeU (i := 3) (v := ?_) rfl (by kernel_rfl) (by kernel_rfl) (by kernel_rfl) (by kernel_rfl) (fun _ _ _ h => h) hS (Or.inl ⟨by rfl, ?_⟩) ?_
            rotate_left
            · (intro w hSw; (try dsimp only at hSw); go_split_ands; go_simp; try (with_reducible rfl))
            (try simp only [Act.put, List.setIfInBounds_toArray, List.set_cons_zero, List.set_cons_succ])
            refine wpAnyM_takeU (i := 4) (v := ?_) rfl (by kernel_rfl) (by kernel_rfl) (by kernel_rfl) (by kernel_rfl) (fun _ _ _ h => h) hS (Or.inl ⟨by rfl, ?_⟩) ?_
            rotate_left
            · (intro w hSw; (try dsimp only at hSw); go_split_ands; go_simp; try (with_reducible rfl))
            (try simp only [Act.put, List.setIfInBounds_toArray, List.set_cons_zero, List.set_cons_succ])
            refine wpAnyM_takeU (i := 5) (v := ?_) rfl (by kernel_rfl) (by kernel_rfl) (by kernel_rfl) (by kernel_rfl) (fun _ _ _ h => h) hS (Or.inl ⟨by rfl, ?_⟩) ?_
            rotate_left
            · (intro w hSw; (try dsimp only at hSw); go_split_ands; go_simp; try (with_reducible rfl))
            (try simp only [Act.put, List.setIfInBounds_toArray, List.set_cons_zero, List.set_cons_succ])
            refine wpAnyM_takeU (i := 6) (v := ?_) rfl (by kernel_rfl) (by kernel_rfl) (by kernel_rfl) (by kernel_rfl) (fun _ _ _ h => h) hS (Or.inl ⟨by rfl, ?_⟩) ?_
            rotate_left
            · (intro w hSw; (try dsimp only at hSw); go_split_ands; go_simp; try (with_reducible rfl))
            (try simp only [Act.put, List.setIfInBounds_toArray, List.set_cons_zero, List.set_cons_succ])
            refine wpAnyM_takeU (i := 7) (v := ?_) rfl (by kernel_rfl) (by kernel_rfl) (by kernel_rfl) (by kernel_rfl) (fun _ _ _ h => h) hS (Or.inl ⟨by rfl, ?_⟩) ?_
            rotate_left
            · (intro w hSw; (try dsimp only at hSw); go_split_ands; go_simp; try (with_reducible rfl))
            (try simp only [Act.put, List.setIfInBounds_toArray, List.set_cons_zero, List.set_cons_succ])
            refine wpAnyM_takeU (i := 8) (v := ?_) rfl (by kernel_rfl) (by kernel_rfl) (by kernel_rfl) (by kernel_rfl) (fun _ _ _ h => h) hS (Or.inl ⟨by rfl, ?_⟩) ?_
            rotate_left
            · (intro w hSw; (try dsimp only at hSw); go_split_ands; go_simp; try (with_reducible rfl))
            (try simp only [Act.put, List.setIfInBounds_toArray, List.set_cons_zero, List.set_cons_succ])
            refine wpAnyM_takeU (i := 9) (v := ?_) rfl (by kernel_rfl) (by kernel_rfl) (by kernel_rfl) (by kernel_rfl) (fun _ _ _ h => h) hS (Or.inl ⟨by rfl, ?_⟩) ?_
            rotate_left
            · (intro w hSw; (try dsimp only at hSw); go_split_ands; go_simp; try (with_reducible rfl))
            (try simp only [Act.put, List.setIfInBounds_toArray, List.set_cons_zero, List.set_cons_succ])
            refine wpAnyM_takeU (i := 10) (v := ?_) rfl (by kernel_rfl) (by kernel_rfl) (by kernel_rfl) (by kernel_rfl) (fun _ _ _ h => h) hS (Or.inl ⟨by rfl, ?_⟩) ?_
            rotate_left
            · (intro w hSw; (try dsimp only at hSw); go_split_ands; go_simp; try (with_reducible rfl))
            (try simp only [Act.put, List.setIfInBounds_toArray, List.set_cons_zero, List.set_cons_succ])
            refine wpAnyM_takeU (i := 11) (v := ?_) rfl (by kernel_rfl) (by kernel_rfl) (by kernel_rfl) (by kernel_rfl) (fun _ _ _ h => h) hS (Or.inl ⟨by rfl, ?_⟩) ?_
            rotate_left
            · (intro w hSw; (try dsimp only at hSw); go_split_ands; go_simp; try (with_reducible rfl))
            (try simp only [Act.put, List.setIfInBounds_toArray, List.set_cons_zero, List.set_cons_succ])
            refine wpAnyM_one (i := 12) (by kernel_rfl) rfl (fun K hK => ?_)
            go_simp
            refine hK.out _ _ (Or.inl rfl) (fun _ => ?_)
            clear hK K hS
            (try simp only [Act.put, List.setIfInBounds_toArray, List.set_cons_zero, List.set_cons_succ])
            refine wpAnyM_done (by kernel_rfl) ?_
            clear i2 j1 g0 ws x2 q1 qf c0 c1 c3 q0
            obtain ⟨y3, h3⟩ : ∃ y3 : Since B, (y.w.setCell ⟨gF, i, none⟩ (.int .i64 (at0 F' i + d))).drew = y3.w := IsSince.drew' (IsSince.set (IsSince.of y) _ hgF _)
            have r1 := (HF2.out.setj (j := i) (by rw [List.length_map]; exact HiF.out) (.int .i64 (at0 F' i + d))).drew
            have r2 := (HS2.out.far ⟨gF, i, none⟩ (.int .i64 (at0 F' i + d)) hSF).drew
            have r3 := (HX2.out.far ⟨gF, i, none⟩ (.int .i64 (at0 F' i + d)) hbF).drew
            have r4 := fun g vs (hg : g ≠ gF) (h : BoxIs x.w g vs) => ((HKp.out g vs hg h).far ⟨gF, i, none⟩ (.int .i64 (at0 F' i + d)) hg).drew
            rw [h3] at r1 r2 r3 r4 ⊢
            have HKp3 := Lib.hid r4
            obtain ⟨c0, _, _, _⟩ := stp_at r2 (k := k2) (by rw [HL.out]; exact hkn)
            rw [Hfr.out] at c0
            have HF3 := Lib.hid (show BoxIs y3.w gF ((F'.set i (at0 F' i + d)).map (.int .i64)) by rw [List.map_set]; exact r1)
            have HS3 := Lib.hid r2
            have HX3 := Lib.hid r3
            have HQ := Lib.hid (show Push l (at0 F) (sg L) s t d (m2 + 1) (at0 (F'.set i (at0 F' i + d))) by rw [bump_set HiF.out]; exact HP3.out)
            clear r1 r2 r3 r4 h3 HKp HF2 HS2 HX2 HP HP3
            go_wp2_with fail
            refine ⟨⟨m2 + 1, _, y3, HM2.out, by rw [Hq.out], rfl, HF3.out, HS3.out, HX3.out, by rw [List.length_set]; exact HFl2.out, HQ.out, HKp3.out⟩, ?_⟩
            show (sg L (q : Int).toNat).dep.toNat < (sg L (k2 : Int).toNat).dep.toNat
            rw [Int.toNat_natCast, Int.toNat_natCast, Hd.out, Hd0.out]
            have := hlt.out
            omega
    · have hlt := Lib.hid (HT.out.short ht Hkn.out HmD.out he)
      have hr1 := HT.out.room ht Hkn.out hlt.out
      have hfr := (HT.out.edge ht Hkn.out hlt.out).2.1
      have hkn : pth (sg L) s t m < n := HW.out.1
      obtain ⟨c0, _, c2, _⟩ := stp_at HS1.out (k := pth (sg L) s t m) (by rw [HL.out]; exact hkn)
      rw [hfr] at c0
      have hne : ¬ ((pth (sg L) s t m : Nat) : Int) = (s : Int) := by omega
      have Hd := Lib.hid (show (sg L (pth (sg L) s t (m + 1))).dep = (sg L t).dep - (m + 1 : Nat) from (HT.out.way ht Hkn.out (m + 1) (by have := hlt.out; omega)).2.2)
      have Hd0 := Lib.hid HW.out.2.2
      have hk0 : (0 : Int) ≤ ((pth (sg L) s t m : Nat) : Int) := by omega
      have hkl : ((pth (sg L) s t m : Nat) : Int) < (n : Int) := by omega
      generalize hq : pth (sg L) s t (m + 1) = q at *
      generalize hk : pth (sg L) s t m = k at *
      generalize hrm : (sg L k).room = rm at *
      have Hq := Lib.hid hq; have Hk := Lib.hid hk; have Hrm := Lib.hid hrm
      clear hq hk hrm
      have HE := Lib.hid (show (∀ j, j < m + 1 → (if rm < d then rm else d) ≤ (sg L (pth (sg L) s t j)).room) from fun j hj => by
        by_cases e : j = m
        · subst e; rw [Hk.out, Hrm.out]; split <;> omega
        · have := HJ.out j (by omega); split <;> omega)
      have HB := Lib.hid (show 1 ≤ (if rm < d then rm else d) ∧ (if rm < d then rm else d) ≤ most by split <;> omega)
      have HM := Lib.hid (show ((m + 1 : Nat) : Int) ≤ (sg L t).dep by have := hlt.out; omega)
      go_wp2_with fail
      refine ⟨⟨m + 1, _, HM.out, rfl, by rw [Hq.out], trivial, HB.out.1, HB.out.2, HE.out⟩, ?_⟩
      show (sg L (q : Int).toNat).dep.toNat < (sg L (k : Int).toNat).dep.toNat
      rw [Int.toNat_natCast, Int.toNat_natCast, Hd.out, Hd0.out]
      have := hlt.out
      omega
end Go.Proofs.YtdkcclngionihaaDoor
/- The check of a network that is right, walked. -/
namespace Go.Proofs.YtdkcclngionihaaDoor
open Go.RowKit

/-- a network that is accepted -/
structure NetGood (n : Nat) (l : List Arc) : Prop where
  n1 : 1 ≤ n
  n2 : n ≤ 64
  l2 : l.length ≤ 512
  ok : NetOk n l
  c : ∀ i, i < l.length → (arcAt l i).cap ≤ 65536 ∧ 0 ≤ (arcAt l i).cost ∧ (arcAt l i).cost ≤ 65536
theorem node_calls (w : World) (x : Since w) (aa : Option Addr) (m ca : Nat) (n k : Int) (h0 : 0 ≤ k) (hn : k < n) :
    Calls Tryd.prog 109 #[.agg #[.int .i64 n, .slice aa m ca], .int .i64 k] x.w fun o w' => o = .returned (.bool true) ∧ ∃ y : Since w, w' = y.w := by
  go_enter Tryd.func109, Tryd.ntmps109
  go_wp2_with fail
  go_ret
  exact ⟨rfl, x.alloc _⟩
set_option linter.unusedSimpArgs false in
set_option maxRecDepth 100000 in
set_option maxHeartbeats 4000000 in
theorem fcheck_calls (w : World) (x : Since w) (aa : Option Addr) (ca : Nat) (n : Nat) (l : List Arc) (hA : Els Arc.cs 4 w aa l) (hG : NetGood n l) :
    Calls Tryd.prog 108 #[.agg #[.int .i64 (n : Int), .slice aa l.length ca]] x.w fun o w' => o = .returned (.int .i64 0) ∧ ∃ y : Since w, w' = y.w := by
  have HA := Lib.hid hA
  have HG := Lib.hid hG
  clear hA
  have hn1 : ¬ (n : Int) < 1 := by have := hG.n1; omega
  have hn2 : ¬ (64 : Int) < (n : Int) := by have := hG.n2; omega
  obtain ⟨m, hm⟩ : ∃ m, m = l.length := ⟨_, rfl⟩
  rw [← hm]
  have hl2 : m ≤ 512 := by have := hG.l2; omega
  have Hm := Lib.hid hm
  clear hG hm
  go_enter Tryd.func108, Tryd.ntmps108
  go_upto_region 1 with fail
  have hb0_0 : ∀ y : Since (x.w.alloc (.cells #[.int .i64 (n : Int), .slice aa m ca] 112)), y.w.cell? ⟨x.w.heap.size, 0, none⟩ = some (.int .i64 (n : Int)) := fun y => Since.cell (by simp [go_sem]) (by first | (simp; done) | (simp; omega)) y
  have hb0_1 : ∀ y : Since (x.w.alloc (.cells #[.int .i64 (n : Int), .slice aa m ca] 112)), y.w.cell? ⟨x.w.heap.size, 1, none⟩ = some (.slice aa m ca) := fun y => Since.cell (by simp [go_sem]) (by first | (simp; done) | (simp; omega)) y
  have hf0 : ∀ (y : Since (x.w.alloc (.cells #[.int .i64 (n : Int), .slice aa m ca] 112))) (o : Nat), y.w.frozen? ⟨x.w.heap.size, o, none⟩ = false := fun y o => Since.free (by simp [go_sem]) (by first | (simp; done) | (simp; omega)) y
  have hWup : ∃ z : Since w, (x.w.alloc (.cells #[.int .i64 (n : Int), .slice aa m ca] 112)) = z.w := x.alloc _
  obtain ⟨y0, hy0⟩ := Since.refl (x.w.alloc (.cells #[.int .i64 (n : Int), .slice aa m ca] 112))
  have Hbx := Lib.hid (And.intro x.b.size (show x.w.heap.size + 1 = (x.w.alloc (.cells #[.int .i64 (n : Int), .slice aa m ca] 112)).heap.size from by simp))
  generalize hW : (x.w.alloc (.cells #[.int .i64 (n : Int), .slice aa m ca] 112)) = W at *
  clear hW
  generalize x.w.heap.size = bx at *
  have Hup := Lib.hid (Since.up hWup)
  rw [hy0]
  clear hy0
  replace HA := Lib.hid (HA.out.to hWup)
  clear hWup hf0
  go_wp2_with fail
  go_loopw [20] (fun si wr => ∃ (k : Nat) (y : Since W), k ≤ m ∧ si = .int .i64 (k : Int) ∧ wr = y.w) (fun si _ => m - (intOf si).toNat)
  case atStart => exact ⟨0, y0, by omega, rfl, rfl⟩
  case round =>
    obtain ⟨k, y, hk, rfl, rfl⟩ := hrel
    by_cases hlt : k < m
    · have hk0 : (0 : Int) ≤ (k : Int) := by omega
      have hkl : (k : Int) < (m : Int) := by omega
      obtain ⟨b1, o1, rfl, a0, a1, a2, a3⟩ := HA.out.arc (k := k) (by have := Hm.out; omega)
      obtain ⟨hu, hv, hc0⟩ := HG.out.ok k (by have := Hm.out; omega)
      obtain ⟨hc1, hw0, hw1⟩ := HG.out.c k (by have := Hm.out; omega)
      generalize arcAt l k = e at *
      go_upto_region 8 with fail
      have hq0 : (y.w.alloc (.cells #[.int .i64 e.u, .int .i64 e.v, .int .i64 e.cap, .int .i64 e.cost] 127)).cell? ⟨y.w.heap.size, 0, none⟩ = some (.int .i64 e.u) := by simp [go_sem]
      have hq1 : (y.w.alloc (.cells #[.int .i64 e.u, .int .i64 e.v, .int .i64 e.cap, .int .i64 e.cost] 127)).cell? ⟨y.w.heap.size, 1, none⟩ = some (.int .i64 e.v) := by simp [go_sem]
      have hq2 : (y.w.alloc (.cells #[.int .i64 e.u, .int .i64 e.v, .int .i64 e.cap, .int .i64 e.cost] 127)).cell? ⟨y.w.heap.size, 2, none⟩ = some (.int .i64 e.cap) := by simp [go_sem]
      have hq3 : (y.w.alloc (.cells #[.int .i64 e.u, .int .i64 e.v, .int .i64 e.cap, .int .i64 e.cost] 127)).cell? ⟨y.w.heap.size, 3, none⟩ = some (.int .i64 e.cost) := by simp [go_sem]
      have hqf : ∀ o, (y.w.alloc (.cells #[.int .i64 e.u, .int .i64 e.v, .int .i64 e.cap, .int .i64 e.cost] 127)).frozen? ⟨y.w.heap.size, o, none⟩ = false := fun o => by simp [go_sem]
      have hlt0 : y.w.heap.size < (y.w.alloc (.cells #[.int .i64 e.u, .int .i64 e.v, .int .i64 e.cap, .int .i64 e.cost] 127)).heap.size := by simp
      have hst0 : ∃ zz : Since y.w, (y.w.alloc (.cells #[.int .i64 e.u, .int .i64 e.v, .int .i64 e.cap, .int .i64 e.cost] 127)) = zz.w := IsSince.alloc (IsSince.self _) _
      have hsz0 := y.b.size
      obtain ⟨y2, e2⟩ := IsSince.alloc (IsSince.of y) (.cells #[.int .i64 e.u, .int .i64 e.v, .int .i64 e.cap, .int .i64 e.cost] 127)
      rw [e2] at hq0 hq1 hq2 hq3 hqf hlt0 hst0 ⊢
      skip
      clear e2 hst0
      generalize y.w.heap.size = ga at *
      have Hhq0 : ∀ q : Since y2.w, q.w.cell? ⟨ga, 0, none⟩ = some (.int .i64 e.u) := fun q => Since.cell hq0 (by omega) q
      have Hhq1 : ∀ q : Since y2.w, q.w.cell? ⟨ga, 1, none⟩ = some (.int .i64 e.v) := fun q => Since.cell hq1 (by omega) q
      have Hhq2 : ∀ q : Since y2.w, q.w.cell? ⟨ga, 2, none⟩ = some (.int .i64 e.cap) := fun q => Since.cell hq2 (by omega) q
      have Hhq3 : ∀ q : Since y2.w, q.w.cell? ⟨ga, 3, none⟩ = some (.int .i64 e.cost) := fun q => Since.cell hq3 (by omega) q
      have Hhqf : ∀ (q : Since y2.w) (o : Nat), q.w.frozen? ⟨ga, o, none⟩ = false := fun q o => Since.free (hqf o) (by omega) q
      have Hhqg := Lib.hid (And.intro hsz0 hlt0)
      clear hlt0 hsz0
      clear hq0 hq1 hq2 hq3 hqf Hhqf Hhqg a0 a1 a2 a3
      replace hb0_0 := Since.cellTo ⟨y2, rfl⟩ hb0_0
      replace hb0_1 := Since.cellTo ⟨y2, rfl⟩ hb0_1
      obtain ⟨q0, hq0⟩ := Since.refl y2.w
      rw [hq0]
      clear hq0
      obtain ⟨hu0, hu1⟩ := hu
      obtain ⟨hv0, hv1⟩ := hv
      go_wp2_with (first | (go_at_call 109; ((with_reducible refine (node_calls y2.w _ _ m ca (n : Int) e.u hu0 hu1).mono ?_); rintro _ _ ⟨rfl, z1, rfl⟩)) | (go_at_call 109; ((with_reducible refine (node_calls y2.w _ _ m ca (n : Int) e.v hv0 hv1).mono ?_); rintro _ _ ⟨rfl, z2, rfl⟩)))
      obtain ⟨y3, h3⟩ := y2.trans z2
      rw [h3]
      go_roundw
      case rel => exact ⟨k + 1, y3, by omega, by go_num, rfl⟩
      case measure => simp [intOf] <;> omega
    · obtain rfl : k = m := by omega
      go_wp2_with fail
      go_ret
      exact ⟨rfl, Hup.out _⟩
set_option linter.unusedSimpArgs false in
set_option maxRecDepth 100000 in
set_option maxHeartbeats 4000000 in
theorem ends_ok (w : World) (x : Since w) (aa : Option Addr) (ca : Nat) (n : Nat) (l : List Arc) (hA : Els Arc.cs 4 w aa l) (hG : NetGood n l) (s t : Nat) (hs : s < n) (ht : t < n) (hst : t ≠ s) :
    Calls Tryd.prog 88 #[.agg #[.int .i64 (n : Int), .slice aa l.length ca], .int .i64 (s : Int), .int .i64 (t : Int)] x.w fun o w' => o = .returned (.int .i64 0) ∧ ∃ y : Since w, w' = y.w := by
  have HA := Lib.hid hA
  have HG := Lib.hid hG
  clear hA hG
  have hs0 : (0 : Int) ≤ (s : Int) := by omega
  have hsn : (s : Int) < (n : Int) := by omega
  have ht0 : (0 : Int) ≤ (t : Int) := by omega
  have htn : (t : Int) < (n : Int) := by omega
  have hne : ((s : Int) == (t : Int)) = false := by simp; omega
  go_enter Tryd.func88, Tryd.ntmps88
  go_upto_region 1 with fail
  have hb0_0 : ∀ y : Since (x.w.alloc (.cells #[.int .i64 (n : Int), .slice aa l.length ca] 112)), y.w.cell? ⟨x.w.heap.size, 0, none⟩ = some (.int .i64 (n : Int)) := fun y => Since.cell (by simp [go_sem]) (by first | (simp; done) | (simp; omega)) y
  have hb0_1 : ∀ y : Since (x.w.alloc (.cells #[.int .i64 (n : Int), .slice aa l.length ca] 112)), y.w.cell? ⟨x.w.heap.size, 1, none⟩ = some (.slice aa l.length ca) := fun y => Since.cell (by simp [go_sem]) (by first | (simp; done) | (simp; omega)) y
  have hf0 : ∀ (y : Since (x.w.alloc (.cells #[.int .i64 (n : Int), .slice aa l.length ca] 112))) (o : Nat), y.w.frozen? ⟨x.w.heap.size, o, none⟩ = false := fun y o => Since.free (by simp [go_sem]) (by first | (simp; done) | (simp; omega)) y
  have hWup : ∃ z : Since w, (x.w.alloc (.cells #[.int .i64 (n : Int), .slice aa l.length ca] 112)) = z.w := x.alloc _
  obtain ⟨y0, hy0⟩ := Since.refl (x.w.alloc (.cells #[.int .i64 (n : Int), .slice aa l.length ca] 112))
  have Hbx := Lib.hid (And.intro x.b.size (show x.w.heap.size + 1 = (x.w.alloc (.cells #[.int .i64 (n : Int), .slice aa l.length ca] 112)).heap.size from by simp))
  generalize hW : (x.w.alloc (.cells #[.int .i64 (n : Int), .slice aa l.length ca] 112)) = W at *
  clear hW
  generalize x.w.heap.size = bx at *
  have Hup := Lib.hid (Since.up hWup)
  rw [hy0]
  clear hy0
  replace HA := Lib.hid (HA.out.to hWup)
  clear hWup hf0
  go_wp2_with (first | (go_at_call 108; ((with_reducible refine (fcheck_calls W _ aa ca n l HA.out HG.out).mono ?_); rintro _ _ ⟨rfl, z1, rfl⟩)) | (go_at_call 109; ((with_reducible refine (node_calls W _ aa l.length ca (n : Int) (s : Int) hs0 hsn).mono ?_); rintro _ _ ⟨rfl, z2, rfl⟩)) | (go_at_call 109; ((with_reducible refine (node_calls W _ aa l.length ca (n : Int) (t : Int) ht0 htn).mono ?_); rintro _ _ ⟨rfl, z3, rfl⟩)))
  go_ret
  exact ⟨rfl, Hup.out _⟩
end Go.Proofs.YtdkcclngionihaaDoor
/- A greatest flow, walked. -/
namespace Go.Proofs.YtdkcclngionihaaDoor
open Go.RowKit

theorem BoxIs.ints {w : World} {g : Nat} {F : List Int} (h : BoxIs w g (F.map (.int .i64))) : IntRow w (some ⟨g, 0, none⟩) F := by
  intro i hi
  refine ⟨g, 0, rfl, h.lt, ?_⟩
  rw [Nat.zero_add]
  refine h.c i _ ?_
  rw [List.getElem?_map, List.getElem?_eq_getElem hi]
  simp [at0, List.getD_eq_getElem?_getD, List.getElem?_eq_getElem hi]
theorem at0_zeros (m : Nat) (i : Nat) : at0 (List.replicate m 0) i = 0 := by
  unfold at0
  rw [List.getD_eq_getElem?_getD, List.getElem?_replicate]
  split <;> rfl
/-- nothing flows -/
theorem flow_zero {n : Nat} {l : List Arc} (h : NetOk n l) (s t : Int) : Flow n l s t (at0 (List.replicate l.length 0)) 0 := by
  have e : ∀ k, exc l (at0 (List.replicate l.length 0)) k = 0 := fun k => by
    unfold exc
    refine (sumF_congr _ fun i _ => ?_).trans (sumF_zero l.length)
    rw [at0_zeros]; unfold arcEx; simp
  exact ⟨fun i hi => by rw [at0_zeros]; have := (h i hi).2.2; omega, fun k _ _ => e k, e s⟩
/-- what leaves s is at most the capacity of its arcs -/
theorem Flow.small {n : Nat} {l : List Arc} {s t : Nat} {f : Nat → Int} {v : Int} (hF : Flow n l s t f v) (hG : NetGood n l) (hs : s < n) (hst : t ≠ s) : v ≤ 33554432 := by
  have h1 := hF.le_cut hG.ok ⟨by omega, by omega⟩ (S := fun k => decide (k = (s : Int))) (by simp) (by simp; omega)
  have h2 : cutC l (fun k => decide (k = (s : Int))) ≤ sumF (fun _ => 65536) l.length := by
    unfold cutC
    refine sumF_le _ fun i hi => ?_
    have := (hG.c i hi).1
    split <;> omega
  have h3 : ∀ m, sumF (fun _ => 65536) m = 65536 * (m : Int) := fun m => by
    induction m with
    | zero => rfl
    | succ m ih => simp only [sumF]; rw [ih]; push_cast; omega
  rw [h3] at h2
  have := hG.l2
  omega
/-- two new boxes in a statement that draws -/
theorem two_boxD (w : World) (vs us : List Value) (T U : TypeId) : ∃ y : Since w, ((w.alloc (.cells vs.toArray T)).alloc (.cells us.toArray U)).drew = y.w ∧ BoxIs y.w w.heap.size vs ∧ BoxIs y.w (w.heap.size + 1) us := by
  obtain ⟨y, hy⟩ : IsSince w ((w.alloc (.cells vs.toArray T)).alloc (.cells us.toArray U)).drew := IsSince.drew' (IsSince.alloc (IsSince.alloc (IsSince.self _) _) _)
  have b1 := ((BoxIs.new w vs T).up (.cells us.toArray U)).drew
  have b2 := (BoxIs.new (w.alloc (.cells vs.toArray T)) us U).drew
  rw [show (w.alloc (.cells vs.toArray T)).heap.size = w.heap.size + 1 by simp] at b2
  exact ⟨y, hy, hy ▸ b1, hy ▸ b2⟩
/-- a struct is stored whole into a box of the call's own -/
theorem BoxIs.stored {B w : World} (hB : IsSince B w) {g : Nat} {us : List Value} (h : BoxIs w g us) (hg : B.heap.size ≤ g) (vs : List Value) (hl : vs.length = us.length) :
    ∃ z : Since B, w.setCells g 0 vs = z.w ∧ BoxIs z.w g vs ∧ ∀ g' us', g' ≠ g → BoxIs w g' us' → BoxIs z.w g' us' := by
  obtain ⟨x, rfl⟩ := hB
  obtain ⟨z, hz⟩ := x.sets g hg vs 0
  have far : ∀ (vs : List Value) (o : Nat) (w : World) (g' : Nat) (us' : List Value), g' ≠ g → BoxIs w g' us' → BoxIs (w.setCells g o vs) g' us' := fun vs => by
    induction vs with
    | nil => exact fun _ _ _ _ _ h => h
    | cons v vs ih => exact fun o w g' us' hne h => ih (o + 1) (w.setCell ⟨g, o, none⟩ v) g' us' hne (h.far ⟨g, o, none⟩ v hne)
  exact ⟨z, hz, hz ▸ h.sets hl, fun g' us' hne h' => hz ▸ far vs 0 x.w g' us' hne h'⟩
theorem sIntF : SliceOf Tryd.prog 22 3 (.int .i64 0) 1 8 := SliceOf.mk' Tryd.underlying22 (by kernel_rfl) rfl (by decide)
set_option linter.unusedSimpArgs false in
set_option maxRecDepth 100000 in
set_option maxHeartbeats 8000000 in
theorem greatest_calls (B : World) (x : Since B) (l : List Arc) (n s t : Nat) (aa : Option Addr) (ca : Nat) (hA : Els Arc.cs 4 B aa l) (hG : NetGood n l) (hs : s < n) (ht : t < n) (hst : t ≠ s) :
    Calls Tryd.prog 89 #[.agg #[.int .i64 (n : Int), .slice aa l.length ca], .int .i64 (s : Int), .int .i64 (t : Int)] x.w fun o w' => ∃ (v : Int) (u : Value) (y : Since B), o = .returned (.tuple #[u, .int .i64 v]) ∧ (∃ (a b : Option Addr) (c d e f : Nat), u = .agg #[.int .i64 (n : Int), .slice a c d, .slice b e f]) ∧ w' = y.w ∧ IsMost n l (s : Int) (t : Int) v := by
  have HA := Lib.hid hA
  have HG := Lib.hid hG
  obtain ⟨m, hm⟩ : ∃ m, m = l.length := ⟨_, rfl⟩
  have hl2 : m ≤ 512 := by have := hG.l2; omega
  rw [← hm]
  have Hm := Lib.hid hm
  clear hA hG hm
  go_enter Tryd.func89, Tryd.ntmps89
  go_upto_region 1 with fail
  have hx0_0 : ((x.w.alloc (.cells #[.int .i64 (n : Int), .slice aa m ca] 112)).alloc (.cells #[.int .i64 0, .slice none 0 0, .slice none 0 0] 130)).cell? ⟨x.w.heap.size, 0, none⟩ = some (.int .i64 (n : Int)) := by simp [go_sem]
  have hx0_1 : ((x.w.alloc (.cells #[.int .i64 (n : Int), .slice aa m ca] 112)).alloc (.cells #[.int .i64 0, .slice none 0 0, .slice none 0 0] 130)).cell? ⟨x.w.heap.size, 1, none⟩ = some (.slice aa m ca) := by simp [go_sem]
  have hx1_0 : ((x.w.alloc (.cells #[.int .i64 (n : Int), .slice aa m ca] 112)).alloc (.cells #[.int .i64 0, .slice none 0 0, .slice none 0 0] 130)).cell? ⟨x.w.heap.size + 1, 0, none⟩ = some (.int .i64 0) := by simp [go_sem]
  have hx1_1 : ((x.w.alloc (.cells #[.int .i64 (n : Int), .slice aa m ca] 112)).alloc (.cells #[.int .i64 0, .slice none 0 0, .slice none 0 0] 130)).cell? ⟨x.w.heap.size + 1, 1, none⟩ = some (.slice none 0 0) := by simp [go_sem]
  have hx1_2 : ((x.w.alloc (.cells #[.int .i64 (n : Int), .slice aa m ca] 112)).alloc (.cells #[.int .i64 0, .slice none 0 0, .slice none 0 0] 130)).cell? ⟨x.w.heap.size + 1, 2, none⟩ = some (.slice none 0 0) := by simp [go_sem]
  have hx0_f : ∀ o, ((x.w.alloc (.cells #[.int .i64 (n : Int), .slice aa m ca] 112)).alloc (.cells #[.int .i64 0, .slice none 0 0, .slice none 0 0] 130)).frozen? ⟨x.w.heap.size, o, none⟩ = false := fun o => by simp [go_sem]
  have hx1_f : ∀ o, ((x.w.alloc (.cells #[.int .i64 (n : Int), .slice aa m ca] 112)).alloc (.cells #[.int .i64 0, .slice none 0 0, .slice none 0 0] 130)).frozen? ⟨x.w.heap.size + 1, o, none⟩ = false := fun o => by simp [go_sem]
  have hlt0 : x.w.heap.size + 1 < ((x.w.alloc (.cells #[.int .i64 (n : Int), .slice aa m ca] 112)).alloc (.cells #[.int .i64 0, .slice none 0 0, .slice none 0 0] 130)).heap.size := by simp
  have hst0 : ∃ zz : Since x.w, ((x.w.alloc (.cells #[.int .i64 (n : Int), .slice aa m ca] 112)).alloc (.cells #[.int .i64 0, .slice none 0 0, .slice none 0 0] 130)) = zz.w := IsSince.alloc (IsSince.alloc (IsSince.self _) _) _
  have hsz0 := x.b.size
  obtain ⟨y1, e2⟩ := IsSince.alloc (IsSince.alloc (IsSince.of x) (.cells #[.int .i64 (n : Int), .slice aa m ca] 112)) (.cells #[.int .i64 0, .slice none 0 0, .slice none 0 0] 130)
  rw [e2] at hx0_0 hx0_1 hx1_0 hx1_1 hx1_2 hx0_f hx1_f hlt0 hst0 ⊢
  (have hbx := (BoxIs.new x.w [.int .i64 (n : Int), .slice aa m ca] 112).up (.cells #[.int .i64 0, .slice none 0 0, .slice none 0 0] 130); have hbr := BoxIs.new (x.w.alloc (.cells #[.int .i64 (n : Int), .slice aa m ca] 112)) [.int .i64 0, .slice none 0 0, .slice none 0 0] 130; rw [show (x.w.alloc (.cells #[.int .i64 (n : Int), .slice aa m ca] 112)).heap.size = x.w.heap.size + 1 by simp] at hbr; rw [e2] at hbx hbr)
  clear e2 hst0
  generalize x.w.heap.size = bx at *
  have Hhx0_0 : ∀ q : Since y1.w, q.w.cell? ⟨bx, 0, none⟩ = some (.int .i64 (n : Int)) := fun q => Since.cell hx0_0 (by omega) q
  have Hhx0_1 : ∀ q : Since y1.w, q.w.cell? ⟨bx, 1, none⟩ = some (.slice aa m ca) := fun q => Since.cell hx0_1 (by omega) q
  have Hhx1_0 : ∀ q : Since y1.w, q.w.cell? ⟨bx + 1, 0, none⟩ = some (.int .i64 0) := fun q => Since.cell hx1_0 (by omega) q
  have Hhx1_1 : ∀ q : Since y1.w, q.w.cell? ⟨bx + 1, 1, none⟩ = some (.slice none 0 0) := fun q => Since.cell hx1_1 (by omega) q
  have Hhx1_2 : ∀ q : Since y1.w, q.w.cell? ⟨bx + 1, 2, none⟩ = some (.slice none 0 0) := fun q => Since.cell hx1_2 (by omega) q
  have Hhx0_f : ∀ (q : Since y1.w) (o : Nat), q.w.frozen? ⟨bx, o, none⟩ = false := fun q o => Since.free (hx0_f o) (by omega) q
  have Hhx1_f : ∀ (q : Since y1.w) (o : Nat), q.w.frozen? ⟨bx + 1, o, none⟩ = false := fun q o => Since.free (hx1_f o) (by omega) q
  have Hhxg := Lib.hid (And.intro hsz0 hlt0)
  clear hlt0 hsz0
  have hmk := fun q : World => make1_run sIntF rfl m (by omega) (by omega) q
  have HX := Lib.hid hbx
  have HR := Lib.hid hbr
  clear hbx hbr Hhx0_0 Hhx0_1 Hhx1_0 Hhx1_1 Hhx1_2 Hhx0_f Hhx1_f hx1_0 hx1_1 hx1_2 hx0_f hx1_f
  have k0 := fun w' (h : IsSince y1.w w') => IsSince.cell (Since.cell (HX.out.c 0 _ rfl) HX.out.lt) h
  have k1 := fun w' (h : IsSince y1.w w') => IsSince.cell (Since.cell (HX.out.c 1 _ rfl) HX.out.lt) h
  go_cut [8] (fun s8 wr => ∃ (gr gF : Nat) (y5 : Since y1.w), s8 = .pointer (some ⟨gr, 0, none⟩) ∧ wr = y5.w ∧ BoxIs y5.w gF ((List.replicate m 0).map (.int .i64)) ∧ BoxIs y5.w gr [.int .i64 (n : Int), .slice aa m ca, .slice (some ⟨gF, 0, none⟩) m m] ∧ gF ≠ gr ∧ y1.w.heap.size ≤ gF ∧ y1.w.heap.size ≤ gr)
  case first =>
    go_region_held3 (fun w' => IsSince y1.w w') (first | assumption | exact IsSince.drew' (IsSince.self _) | exact IsSince.alloc (by assumption) _ | exact IsSince.drew' (IsSince.alloc (IsSince.self _) _) | exact IsSince.drew' (IsSince.alloc (IsSince.alloc (IsSince.self _) _) _)) (fail)
    all_goals
      go_wp2_with fail
      go_meet
      rw [List.map_replicate, ← List.toArray_replicate]
      first
        | (obtain ⟨y5, h5, b1, b2⟩ := two_boxD y1.w (List.replicate m (Value.int .i64 0)) [.int .i64 (n : Int), .slice aa m ca, .slice (some ⟨y1.w.heap.size, 0, none⟩) m m] 3 130
           exact ⟨_, _, y5, rfl, h5, b1, b2, by omega, Nat.le_refl _, Nat.le_succ _⟩)
        | (obtain ⟨y5, h5, b1, b2⟩ := two_boxD y1.w [.int .i64 (n : Int), .slice aa m ca, .slice (some ⟨y1.w.heap.size + 1, 0, none⟩) m m] (List.replicate m (Value.int .i64 0)) 130 3
           exact ⟨_, _, y5, rfl, h5, b2, b1, by omega, Nat.le_succ _, Nat.le_refl _⟩)
  case rest =>
    obtain ⟨gr, gF, y5, rfl, rfl, hF5, hr5, hne, hgF, hgr⟩ := hcut
    have hR5 := HR.out.since y5
    have hbB : B.heap.size ≤ bx := Hhxg.out.1
    have hb1 : bx + 1 < y1.w.heap.size := Hhxg.out.2
    obtain ⟨z5, hz5⟩ := y1.trans y5
    rw [hz5] at hF5 hr5 hR5 ⊢
    clear hz5 y5 k0 k1 HX HR hmk hx0_0 hx0_1
    have HF5 := Lib.hid hF5; have HR5 := Lib.hid hR5; have Hr5 := Lib.hid hr5
    clear hF5 hR5 hr5
    go_upto_region 3 with fail
    go_loopw [9] (fun v9 wr => ∃ (F : List Int) (v : Int) (y : Since B), v9 = .int .i64 v ∧ wr = y.w ∧ BoxIs y.w gF (F.map (.int .i64)) ∧ F.length = m ∧ 0 ≤ v ∧ Flow n l (s : Int) (t : Int) (at0 F) v ∧ BoxIs y.w gr [.int .i64 (n : Int), .slice aa m ca, .slice (some ⟨gF, 0, none⟩) m m] ∧ BoxIs y.w (bx + 1) [.int .i64 0, .slice none 0 0, .slice none 0 0]) (fun v9 _ => (33554432 - intOf v9).toNat)
    case atStart => exact ⟨List.replicate m 0, 0, z5, rfl, rfl, HF5.out, by simp, Int.le_refl _, by rw [Hm.out]; exact flow_zero HG.out.ok _ _, Hr5.out, HR5.out⟩
    case round =>
      obtain ⟨F, v, y, rfl, rfl, hF, hFl, hv0, hFlow, hr, hR⟩ := hrel
      have HF := Lib.hid hF; have HFl := Lib.hid hFl; have HFlow := Lib.hid hFlow; have Hr := Lib.hid hr; have HR := Lib.hid hR
      clear hF hFl hFlow hr hR HF5 HR5 Hr5 z5
      have hE := freach_calls y.w (Since.self y.w) l F n s aa (some ⟨gF, 0, none⟩) ca m hs (by have := HG.out.n2; omega) (HA.out.to ⟨y, rfl⟩) HF.out.ints (HFl.out.trans Hm.out) HG.out.ok (fun i hi => by have h1 := HFlow.out.c i hi; have h2 := HG.out.c i hi; exact ⟨⟨h1.1, by omega⟩, h2⟩) (by rw [← Hm.out]; exact hl2)
      rw [← Hm.out, HFl.out] at hE
      have k0 := fun q : Since y.w => (Hr.out.since q).c 0 _ rfl
      have k1 := fun q : Since y.w => (Hr.out.since q).c 1 _ rfl
      have k2 := fun q : Since y.w => (Hr.out.since q).c 2 _ rfl
      have HE := Lib.hid hE
      clear hE
      change Code.wp _ _ _ _ (Since.self y.w).w
      go_upto_region 4 with (go_at_call 110; (with_reducible refine HE.out.mono ?_); rintro _ _ ⟨gS, L, y2, rfl, rfl, hgS, hS, hFd⟩)
      have HS := Lib.hid hS; have HFd := Lib.hid hFd
      have hc4 := (stp_cells hS (k := t) (by rw [hFd.len]; exact ht)).1
      clear hS hFd HE
      have htn : (t : Int) < (n : Int) := by omega
      have ht0 : (0 : Int) ≤ (t : Int) := by omega
      cases hk : (L.getD t default).kn
      · rw [hk] at hc4
        have HM := Lib.hid (HFd.out.most HG.out.ok HFlow.out hk)
        have r0 := (HR.out.since y2).c 0 _ rfl
        have r1 := (HR.out.since y2).c 1 _ rfl
        have r2 := (HR.out.since y2).c 2 _ rfl
        have rf := (HR.out.since y2).f
        go_wp2_with fail
        obtain ⟨z2, hz2⟩ := y.trans y2
        obtain ⟨z, hz, hb, _⟩ := (HR.out.since y2).stored (B := B) ⟨z2, hz2⟩ (by omega) [.int .i64 (n : Int), .slice aa m ca, .slice (some ⟨gF, 0, none⟩) m m] rfl
        simp only [World.setCells, Nat.reduceAdd] at hz
        rw [hz]
        have c0 := hb.c 0 _ rfl
        have c1 := hb.c 1 _ rfl
        have c2 := hb.c 2 _ rfl
        exact bodyPost_ret (v := .tuple #[.agg #[.int .i64 (n : Int), .slice aa m ca, .slice (some ⟨gF, 0, none⟩) m m], .int .i64 v]) (by simp [results, Tryd.results89, go_sem, c0, c1, c2]) rfl ⟨v, _, z, rfl, ⟨_, _, _, _, _, _, rfl⟩, rfl, HM.out⟩
      · rw [hk] at hc4
        have hgF' := HF.out.lt
        obtain ⟨z2, hz2⟩ := y.trans y2
        have hF2 := HF.out.since y2
        have hr2 := Hr.out.since y2
        have hR2 := HR.out.since y2
        have hS2 := HS.out
        rw [hz2] at hF2 hr2 hR2 hS2 hc4 ⊢
        have hP := push_calls B z2 l F n s t aa ca m gF gS L 65536 v ht hst (by have := HG.out.n2; omega) (by omega) (by omega) (by omega) hF2 hS2 (HFl.out.trans Hm.out) (by rw [← Hm.out]; exact hl2) HFd.out.t HFd.out.len hk HFlow.out (fun i hi => (HG.out.c i hi).1)
        rw [← Hm.out, HFl.out] at hP
        have HP := Lib.hid hP
        have HFlow' := Lib.hid (fun (F' : List Int) (d : Int) (h : Flow n l (s : Int) (t : Int) (at0 F') (v + d)) => h.small HG.out hs hst)
        have Hr2 := Lib.hid hr2; have HR2 := Lib.hid hR2
        have k0 := hr2.c 0 _ rfl
        have k1 := hr2.c 1 _ rfl
        have k2 := hr2.c 2 _ rfl
        clear hF2 hr2 hR2 hS2 hP HS HF Hr HR hz2 hgS
        go_wp2_with (go_at_call 111; (with_reducible refine HP.out.mono ?_); rintro _ _ ⟨d, F', y3, rfl, rfl, hd1, hd2, hF3, hFl3, hFlow3, hK3⟩; have hb3 := HFlow'.out F' d hFlow3; have ws : IntKind.i64.wrap (v + d) = v + d := IntWalk.i64_in _ (by omega); have HF3 := Lib.hid hF3; have HFl3 := Lib.hid hFl3; have HFlow3 := Lib.hid hFlow3; have HK3 := Lib.hid hK3; clear hF3 hFl3 hFlow3 hK3)
        go_roundw
        case rel => exact ⟨F', v + d, y3, rfl, rfl, HF3.out, HFl3.out, by omega, HFlow3.out, HK3.out _ _ (by omega) Hr2.out, HK3.out _ _ (by omega) HR2.out⟩
        case measure => simp [intOf]; omega
set_option linter.unusedSimpArgs false in
set_option maxRecDepth 100000 in
set_option maxHeartbeats 8000000 in
theorem most_calls (w : World) (x : Since w) (l : List Arc) (n s t : Nat) (aa : Option Addr) (ca : Nat) (hA : Els Arc.cs 4 w aa l) (hG : NetGood n l) (hs : s < n) (ht : t < n) (hst : t ≠ s) :
    Calls Tryd.prog 68 #[.agg #[.int .i64 (n : Int), .slice aa l.length ca], .int .i64 (s : Int), .int .i64 (t : Int)] x.w fun o w' => ∃ v : Int, (o = .returned (.tuple #[.int .i64 v, .int .i64 0]) ∧ IsMost n l (s : Int) (t : Int) v) ∧ ∃ y : Since w, w' = y.w := by
  have HA := Lib.hid hA
  have HG := Lib.hid hG
  clear hA hG
  go_enter Tryd.func68, Tryd.ntmps68
  go_upto_region 1 with fail
  have hb0_0 : ∀ y : Since (x.w.alloc (.cells #[.int .i64 (n : Int), .slice aa l.length ca] 112)), y.w.cell? ⟨x.w.heap.size, 0, none⟩ = some (.int .i64 (n : Int)) := fun y => Since.cell (by simp [go_sem]) (by first | (simp; done) | (simp; omega)) y
  have hb0_1 : ∀ y : Since (x.w.alloc (.cells #[.int .i64 (n : Int), .slice aa l.length ca] 112)), y.w.cell? ⟨x.w.heap.size, 1, none⟩ = some (.slice aa l.length ca) := fun y => Since.cell (by simp [go_sem]) (by first | (simp; done) | (simp; omega)) y
  have hf0 : ∀ (y : Since (x.w.alloc (.cells #[.int .i64 (n : Int), .slice aa l.length ca] 112))) (o : Nat), y.w.frozen? ⟨x.w.heap.size, o, none⟩ = false := fun y o => Since.free (by simp [go_sem]) (by first | (simp; done) | (simp; omega)) y
  have hWup : ∃ z : Since w, (x.w.alloc (.cells #[.int .i64 (n : Int), .slice aa l.length ca] 112)) = z.w := x.alloc _
  obtain ⟨y0, hy0⟩ := Since.refl (x.w.alloc (.cells #[.int .i64 (n : Int), .slice aa l.length ca] 112))
  have Hbx := Lib.hid (And.intro x.b.size (show x.w.heap.size + 1 = (x.w.alloc (.cells #[.int .i64 (n : Int), .slice aa l.length ca] 112)).heap.size from by simp))
  generalize hW : (x.w.alloc (.cells #[.int .i64 (n : Int), .slice aa l.length ca] 112)) = W at *
  clear hW
  generalize x.w.heap.size = bx at *
  have Hup := Lib.hid (Since.up hWup)
  rw [hy0]
  clear hy0
  replace HA := Lib.hid (HA.out.to hWup)
  clear hWup hf0
  go_upto_region 4 with (go_at_call 88; (with_reducible refine (ends_ok W _ aa ca n l HA.out HG.out s t hs ht hst).mono ?_); rintro _ _ ⟨rfl, z1, rfl⟩)
  have HE := Lib.hid (greatest_calls W z1 l n s t aa ca HA.out HG.out hs ht hst)
  go_wp2_with (go_at_call 89; (with_reducible refine HE.out.mono ?_); rintro _ _ ⟨v, u, y, rfl, ⟨a, b, c1, c2, c3, c4, rfl⟩, rfl, hm⟩; have HM := Lib.hid hm; clear hm)
  obtain ⟨z, hz⟩ := y.alloc (.cells #[.int .i64 (n : Int), .slice a c1 c2, .slice b c3 c4] 130)
  exact bodyPost_ret (v := .tuple #[.int .i64 v, .int .i64 0]) (by simp [results, Tryd.results68, go_sem]) rfl ⟨v, ⟨rfl, HM.out⟩, by rw [hz]; exact Hup.out z⟩
end Go.Proofs.YtdkcclngionihaaDoor
