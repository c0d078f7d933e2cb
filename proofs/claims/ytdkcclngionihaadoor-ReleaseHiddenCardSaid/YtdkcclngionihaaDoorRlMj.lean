/- Hiding cells, walked. -/
import Derived.Test.YtdkcclngionihaaDoorRlMi
set_option linter.all false
namespace Go.Proofs.YtdkcclngionihaaDoor
open Go.RowKit

theorem sBoolF : SliceOf Tryd.prog 32 4 (.bool false) 1 1 := SliceOf.mk' Tryd.underlying32 (by kernel_rfl) rfl (by decide)
theorem BoxIs.bools {w : World} {g : Nat} {F : List Bool} (h : BoxIs w g (F.map .bool)) : BlRow w (some ⟨g, 0, none⟩) F := by
  intro i hi
  refine ⟨g, 0, rfl, h.lt, ?_⟩
  rw [Nat.zero_add]
  refine h.c i _ ?_
  rw [List.getElem?_map, List.getElem?_eq_getElem hi]
  simp [bo, List.getD_eq_getElem?_getD, List.getElem?_eq_getElem hi]
theorem bo_set (h : List Bool) (k j : Nat) (b : Bool) (hk : k < h.length) : bo (h.set k b) j = if j = k then b else bo h j := by
  unfold bo
  rw [List.getD_eq_getElem?_getD, List.getD_eq_getElem?_getD, List.getElem?_set]
  by_cases e : k = j
  · subst e; rw [if_pos rfl, if_pos rfl, if_pos hk]; rfl
  · rw [if_neg e, if_neg (Ne.symm e)]
theorem bo_ext {h k : List Bool} (hl : h.length = k.length) (he : ∀ j, j < h.length → bo h j = bo k j) : h = k := by
  refine List.ext_getElem hl fun i h1 h2 => ?_
  have := he i h1
  unfold bo at this
  simpa [List.getD_eq_getElem?_getD, List.getElem?_eq_getElem h1, List.getElem?_eq_getElem h2] using this
theorem bo_map (f : Int → Bool) (l : List Int) (j : Nat) (hj : j < l.length) : bo (l.map f) j = f (at0 l j) := by
  unfold bo at0
  simp [List.getD_eq_getElem?_getD, List.getElem?_eq_getElem hj]
/-- a whole box is copied into another one -/
theorem copyB_run {w : World} {gd gs n : Nat} {vs us : List Value} (hd : BoxIs w gd vs) (hs : BoxIs w gs us) (hv : vs.length = n) (hu : us.length = n) (h1 : ∀ v ∈ us, v.oneCell' = true) (t ty e : TypeId) (z : Value) (bytes : Nat) (ht : SliceOf Tryd.prog t e z 1 bytes) :
    (Builtin.copy_ #[t, t] ty #[.slice (some ⟨gd, 0, none⟩) n n, .slice (some ⟨gs, 0, none⟩) n n]).run Tryd.prog w = .ok (goInt (n : Nat)) (w.setCells gd 0 us) := by
  obtain ⟨i, hi, hz, hsize, hby⟩ := ht.e
  have h := run_copyK (P := Tryd.prog) w t t ty e 1 gd 0 n n ⟨gs, 0, none⟩ n n us ht.t (by rw [hi]; simp [hsize]) (by rw [hu]; simp) (fun j v hv => by rw [Addr.add_lit, Nat.zero_add]; exact hs.c j v hv)
    (fun j hj => by
      have hj' : j < vs.length := by omega
      rw [Nat.zero_add, hd.c j _ (List.getElem?_eq_getElem hj')]; rfl) (fun j hj => hd.f _) h1
  rw [show Nat.min n n = n from Nat.min_self n] at h
  exact h
/-- how many cells of a box are not hidden -/
noncomputable def openF (w : World) (g m : Nat) : Nat := open Classical in ((List.range m).filter fun j => decide (w.cell? ⟨g, j, none⟩ = some (.bool false))).length
def cntF (h : List Bool) : Nat := ((List.range h.length).filter fun j => !bo h j).length
theorem openF_box {w : World} {g m : Nat} {h : List Bool} (hb : BoxIs w g (h.map .bool)) (hm : h.length = m) : openF w g m = cntF h := by
  unfold openF cntF
  rw [hm]
  congr 1
  refine List.filter_congr fun j hj => ?_
  rw [List.mem_range] at hj
  have := hb.c j (.bool (bo h j)) (by rw [List.getElem?_map, List.getElem?_eq_getElem (by omega)]; simp [bo, List.getD_eq_getElem?_getD, List.getElem?_eq_getElem (show j < h.length by omega)])
  rw [this]
  cases bo h j <;> simp
theorem filterS_le {p q : Nat → Bool} : ∀ (l : List Nat), (∀ j ∈ l, q j = true → p j = true) → (l.filter q).length ≤ (l.filter p).length
  | [], _ => Nat.le_refl _
  | a :: l, h => by
    have := filterS_le l fun j hj => h j (List.mem_cons_of_mem _ hj)
    have ha := h a (List.mem_cons_self ..)
    simp only [List.filter_cons]
    cases hq : q a
    · cases p a <;> simp <;> omega
    · rw [ha hq]; simp; omega
theorem filterS_lt {p q : Nat → Bool} {k : Nat} : ∀ (l : List Nat), (∀ j ∈ l, q j = true → p j = true) → k ∈ l → p k = true → q k = false → (l.filter q).length < (l.filter p).length
  | a :: l, h, hk, hp, hq => by
    have hl := filterS_le l fun j hj => h j (List.mem_cons_of_mem _ hj)
    have ha := h a (List.mem_cons_self ..)
    simp only [List.filter_cons]
    rcases List.mem_cons.1 hk with rfl | hk
    · rw [hp, hq]; simp; omega
    · have := filterS_lt l (fun j hj => h j (List.mem_cons_of_mem _ hj)) hk hp hq
      cases hq : q a
      · cases p a <;> simp <;> omega
      · rw [ha hq]; simp; omega
theorem cntF_set {h : List Bool} {k : Nat} (hk : k < h.length) (hb : bo h k = false) : cntF (h.set k true) < cntF h := by
  unfold cntF
  rw [List.length_set]
  refine filterS_lt (k := k) _ (fun j hj hq => ?_) (by simpa using hk) (by rw [hb]; rfl) (by rw [bo_set _ _ _ _ hk, if_pos rfl]; rfl)
  rw [bo_set _ _ _ _ hk] at hq
  by_cases e : j = k
  · rw [if_pos e] at hq; cases hq
  · rw [if_neg e] at hq; exact hq
theorem cntF_le (h : List Bool) : cntF h ≤ h.length := by
  have := List.length_filter_le (fun j => !bo h j) (List.range h.length)
  rw [List.length_range] at this
  exact this
theorem nextV_some {C i k : Nat} {h : List Bool} (hn : nextV C h i = some k) : k < h.length ∧ bo h k = false := by
  have key : ∀ p : Nat → Bool, fstP (fun k => !bo h k && p k) h.length = some k → k < h.length ∧ bo h k = false := fun p hp => by
    obtain ⟨h1, h2⟩ := fstP_mem hp
    refine ⟨h1, ?_⟩
    cases hb : bo h k
    · rfl
    · simp [hb] at h2
  rw [nextV_eq (i := i) rfl] at hn
  rcases h0 : fstP (fun k => !bo h k && fitV C i 0 k) h.length with _ | a
  · rw [h0, Option.none_or] at hn
    rcases h1 : fstP (fun k => !bo h k && fitV C i 1 k) h.length with _ | a
    · rw [h1, Option.none_or] at hn
      exact key _ hn
    · rw [h1, Option.some_or] at hn
      exact key _ (h1.trans hn)
  · rw [h0, Option.some_or, Option.some_or] at hn
    exact key _ (h0.trans hn)
theorem hideF_len {R C : Nat} {l : List Int} {width : Int} : ∀ (f : Nat) (h k : List Bool), hideF R C l width f h = some k → k.length = h.length
  | 0, _, _, e => by cases e
  | f + 1, h, k, e => by
    rw [hideF] at e
    cases hu : unsV R C l h width with
    | none => rw [hu] at e; simp at e; rw [← e]
    | some i =>
      rw [hu] at e
      dsimp only at e
      cases hn : nextV C h i with
      | none => rw [hn] at e; cases e
      | some j => rw [hn] at e; dsimp only at e; rw [hideF_len f _ _ e, List.length_set]
theorem hideV_len {R C : Nat} {l : List Int} {least width : Int} {h : List Bool} (e : hideV R C l least width = some h) : h.length = l.length := by
  rw [hideF_len _ _ _ e, List.length_map]
theorem hideF_step {R C : Nat} {l : List Int} {h : List Bool} {width : Int} {f i k : Nat} (hu : unsV R C l h width = some i) (hn : nextV C h i = some k) : hideF R C l width (f + 1) h = hideF R C l width f (h.set k true) := by
  rw [hideF, hu]; dsimp only; rw [hn]
theorem hideF_no {R C : Nat} {l : List Int} {h : List Bool} {width : Int} {f i : Nat} (hu : unsV R C l h width = some i) (hn : nextV C h i = none) : hideF R C l width (f + 1) h = none := by
  rw [hideF, hu]; dsimp only; rw [hn]
def badH (least width : Int) : Prop := least < 1 ∨ 1000000 < least ∨ width < 0 ∨ 65536 < width
noncomputable def hideE (R C : Nat) (l : List Int) (least width : Int) : Int := open Classical in if badH least width then 1 else if hideV R C l least width = none then 10 else 0
def HideRes (w : World) (R C : Nat) (l : List Int) (least width : Int) (o : Ending) (w' : World) : Prop :=
  ∃ (ah : Option Addr) (n ch : Nat) (y : Since w), o = .returned (.tuple #[.slice ah n ch, .int .i64 (hideE R C l least width)]) ∧ w' = y.w ∧ (hideE R C l least width = 0 → ∃ h, hideV R C l least width = some h ∧ h.length = l.length ∧ n = l.length ∧ BlRow y.w ah h ∧ n ≤ ch ∧ ∀ b, ah = some b → w.heap.size ≤ b.block)
theorem HideRes.bad {w : World} {R C : Nat} {l : List Int} {least width : Int} (h : badH least width) (y : Since w) : HideRes w R C l least width (.returned (.tuple #[.slice none 0 0, .int .i64 1])) y.w := by
  have e : hideE R C l least width = 1 := by unfold hideE; rw [if_pos h]
  exact ⟨none, 0, 0, y, by rw [e], rfl, fun h0 => by rw [e] at h0; cases h0⟩
theorem HideRes.no {w : World} {R C : Nat} {l : List Int} {least width : Int} (h : ¬ badH least width) (hn : hideV R C l least width = none) (y : Since w) : HideRes w R C l least width (.returned (.tuple #[.slice none 0 0, .int .i64 10])) y.w := by
  have e : hideE R C l least width = 10 := by unfold hideE; rw [if_neg h, if_pos hn]
  exact ⟨none, 0, 0, y, by rw [e], rfl, fun h0 => by rw [e] at h0; cases h0⟩
theorem HideRes.yes {w : World} {R C : Nat} {l : List Int} {least width : Int} (h : ¬ badH least width) {k : List Bool} (hn : hideV R C l least width = some k) (y : Since w) {g m : Nat} (hm : m = l.length) (hb : BoxIs y.w g (k.map .bool)) (hg : w.heap.size ≤ g) : HideRes w R C l least width (.returned (.tuple #[.slice (some ⟨g, 0, none⟩) m m, .int .i64 0])) y.w := by
  have e : hideE R C l least width = 0 := by unfold hideE; rw [if_neg h, if_neg (by rw [hn]; intro h; cases h)]
  exact ⟨_, m, m, y, by rw [e], rfl, fun _ => ⟨k, hn, hideV_len hn, hm, hb.bools, Nat.le_refl _, fun b e => by cases e; exact hg⟩⟩
theorem one_bools (l : List Bool) : ∀ v ∈ l.map Value.bool, v.oneCell' = true := by
  intro v hv
  obtain ⟨b, _, rfl⟩ := List.mem_map.1 hv
  rfl
set_option linter.unusedSimpArgs false in
set_option maxRecDepth 100000 in
set_option maxHeartbeats 8000000 in
theorem hide_calls (w : World) (x : Since w) (R C : Nat) (l : List Int) (least width : Int) (a : Option Addr) (c : Nat) (hL : IntRow w a l) (hG : SG R C l) :
    Calls Tryd.prog 31 #[.agg #[.int .i64 (R : Int), .int .i64 (C : Int), .slice a l.length c], .int .i64 least, .int .i64 width] x.w (HideRes w R C l least width) := by
  have HL := Lib.hid hL
  have HG := Lib.hid hG
  have HBad := Lib.hid (fun (h : badH least width) (y : Since w) => HideRes.bad (R := R) (C := C) (l := l) h y)
  have HNo := Lib.hid (fun (h : ¬ badH least width) (hn : hideV R C l least width = none) (y : Since w) => HideRes.no h hn y)
  have HYes := Lib.hid (fun (h : ¬ badH least width) (k : List Bool) (hn : hideV R C l least width = some k) (y : Since w) (g m : Nat) => HideRes.yes (w := w) h hn y (g := g) (m := m))
  have HD := Lib.hid (show hideV R C l least width = hideF R C l width (l.length + 1) (l.map (smallB least)) from rfl)
  generalize HideRes w R C l least width = PO at *
  generalize hideV R C l least width = HV at *
  have hm1 := hG.len
  obtain ⟨m, hm⟩ : ∃ m, m = l.length := ⟨_, rfl⟩
  have HC := Lib.hid (fun (w : World) (x : Since w) hL => scheck_calls w x R C l a c hL hG)
  have HU := Lib.hid (fun (w : World) (x : Since w) (h : List Bool) (ah : Option Addr) (ch : Nat) hL hH hh => unsf_calls w x R C l h width a ah c ch hL hH hG hh)
  have HX := Lib.hid (fun (w : World) (x : Since w) (h : List Bool) (ah : Option Addr) (ch i : Nat) hH hh hi => next_calls w x R C i m h a ah c ch hH hh hG.r.2 ⟨hG.c.1, hG.c.2⟩ (fun k hk => (hG.cell (i := k) (by omega)).1) (by omega) hi)
  rw [← hm] at HC HU
  rw [← hm]
  have hm64 : m ≤ 64 := by omega
  have Hm := Lib.hid hm
  clear hL hG hm hm1
  go_enter Tryd.func31, Tryd.ntmps31
  go_upto_region 1 with fail
  have hb0_0 : ∀ y : Since (x.w.alloc (.cells #[.int .i64 (R : Int), .int .i64 (C : Int), .slice a m c] 31)), y.w.cell? ⟨x.w.heap.size, 0, none⟩ = some (.int .i64 (R : Int)) := fun y => Since.cell (by simp [go_sem]) (by first | (simp; done) | (simp; omega)) y
  have hb0_1 : ∀ y : Since (x.w.alloc (.cells #[.int .i64 (R : Int), .int .i64 (C : Int), .slice a m c] 31)), y.w.cell? ⟨x.w.heap.size, 1, none⟩ = some (.int .i64 (C : Int)) := fun y => Since.cell (by simp [go_sem]) (by first | (simp; done) | (simp; omega)) y
  have hb0_2 : ∀ y : Since (x.w.alloc (.cells #[.int .i64 (R : Int), .int .i64 (C : Int), .slice a m c] 31)), y.w.cell? ⟨x.w.heap.size, 2, none⟩ = some (.slice a m c) := fun y => Since.cell (by simp [go_sem]) (by first | (simp; done) | (simp; omega)) y
  have hf0 : ∀ (y : Since (x.w.alloc (.cells #[.int .i64 (R : Int), .int .i64 (C : Int), .slice a m c] 31))) (o : Nat), y.w.frozen? ⟨x.w.heap.size, o, none⟩ = false := fun y o => Since.free (by simp [go_sem]) (by first | (simp; done) | (simp; omega)) y
  have hWup : ∃ z : Since w, (x.w.alloc (.cells #[.int .i64 (R : Int), .int .i64 (C : Int), .slice a m c] 31)) = z.w := x.alloc _
  obtain ⟨y0, hy0⟩ := Since.refl (x.w.alloc (.cells #[.int .i64 (R : Int), .int .i64 (C : Int), .slice a m c] 31))
  have Hbx := Lib.hid (And.intro x.b.size (show x.w.heap.size + 1 = (x.w.alloc (.cells #[.int .i64 (R : Int), .int .i64 (C : Int), .slice a m c] 31)).heap.size from by simp))
  generalize hW : (x.w.alloc (.cells #[.int .i64 (R : Int), .int .i64 (C : Int), .slice a m c] 31)) = W at *
  clear hW
  generalize x.w.heap.size = bx at *
  have Hup := Lib.hid (Since.up hWup)
  rw [hy0]
  clear hy0
  replace HL := Lib.hid (HL.out.to hWup)
  clear hWup hf0
  have H1 := Lib.hid (HC.out W y0 HL.out)
  go_upto_region 2 with (go_at_call 46; ((with_reducible refine H1.out.mono ?_); rintro _ _ ⟨rfl, y1, rfl⟩))
  clear H1 HC
  by_cases hbad : badH least width
  · have HB := Lib.hid (fun y : Since W => show PO (.returned (.tuple #[.slice none 0 0, .int .i64 1])) y.w from by obtain ⟨z, hz⟩ := Hup.out y; rw [hz]; exact HBad.out hbad z)
    have hd : (decide (least < 1) || decide (1000000 < least) || decide (width < 0) || decide (65536 < width)) = true := by unfold badH at hbad; simp only [Bool.or_eq_true, decide_eq_true_eq]; omega
    clear hbad HBad HNo HYes
    go_wp2_with fail
    all_goals exact HB.out y1
  · have HNo2 := Lib.hid (HNo.out hbad)
    have HYes2 := Lib.hid (HYes.out hbad)
    clear HBad HNo HYes
    obtain ⟨h1, h2, h3, h4⟩ : 1 ≤ least ∧ least ≤ 1000000 ∧ 0 ≤ width ∧ width ≤ 65536 := by unfold badH at hbad; omega
    clear hbad
    go_upto_region 8 with fail
    have hmk := fun q : World => make1_run sBoolF rfl m (by omega) (by omega) q
    go_upto_region 9 with fail
    obtain ⟨y2, hy2⟩ := y1.alloc (.cells (List.replicate m (Value.bool false)).toArray 4)
    have hb := BoxIs.new y1.w (List.replicate m (Value.bool false)) 4
    have hgW : W.heap.size ≤ y1.w.heap.size := y1.b.size
    rw [List.toArray_replicate] at hy2 hb
    rw [hy2] at hb ⊢
    have hb2 : BoxIs y2.w y1.w.heap.size ((List.replicate m false).map Value.bool) := by rw [List.map_replicate]; exact hb
    have HB := Lib.hid hb2
    clear hb hb2 hy2
    generalize y1.w.heap.size = gs at *
    go_upto_region 10 with fail
    go_loopw [51] (fun si wr => ∃ (k : Nat) (h : List Bool) (y : Since W), k ≤ m ∧ si = .int .i64 (k : Int) ∧ wr = y.w ∧ h.length = m ∧ BoxIs y.w gs (h.map .bool) ∧ ∀ j, j < k → bo h j = smallB least (at0 l j)) (fun si _ => m - (intOf si).toNat)
    case atStart => exact ⟨0, _, y2, by omega, rfl, rfl, by simp, HB.out, fun j hj => by omega⟩
    case round =>
      clear HB
      obtain ⟨k, h, y, hk, rfl, rfl, hl, hB, hs⟩ := hrel
      have HB := Lib.hid hB; have Hs := Lib.hid hs; have Hl := Lib.hid hl
      clear hB hs hl
      by_cases hlt : k < m
      · have hk0 : (0 : Int) ≤ (k : Int) := by omega
        have hkl : (k : Int) < (m : Int) := by omega
        obtain ⟨b1, o1, rfl, hb1, hc1'⟩ := HL.out k (by have := Hm.out; omega)
        have f0 : y.w.cell? ⟨b1, o1 + k, none⟩ = some (.int .i64 (at0 l k)) := Since.cell hc1' hb1 y
        clear hb1 hc1'
        have f1 := HB.out.c k (.bool (bo h k)) (by rw [List.getElem?_map, List.getElem?_eq_getElem (by have := Hl.out; omega)]; simp [bo, List.getD_eq_getElem?_getD, List.getElem?_eq_getElem (show k < h.length by have := Hl.out; omega)])
        have f2 := HB.out.f
        have HS := Lib.hid (show ∀ b : Bool, smallB least (at0 l k) = b → ∃ z : Since W, y.w.setCell ⟨gs, k, none⟩ (.bool b) = z.w ∧ (h.set k b).length = m ∧ BoxIs z.w gs ((h.set k b).map .bool) ∧ ∀ j, j < k + 1 → bo (h.set k b) j = smallB least (at0 l j) from fun b hb => by
          obtain ⟨z, hz⟩ := y.set ⟨gs, k, none⟩ hgW (.bool b)
          have := HB.out.setj (j := k) (by rw [List.length_map, Hl.out]; exact hlt) (.bool b)
          rw [hz] at this
          refine ⟨z, hz, by rw [List.length_set]; exact Hl.out, by rw [List.map_set]; exact this, fun j hj => ?_⟩
          rw [bo_set _ _ _ _ (by rw [Hl.out]; exact hlt)]
          by_cases e : j = k
          · rw [if_pos e, e, hb]
          · rw [if_neg e]; exact Hs.out j (by omega))
        have Hd := Lib.hid (show smallB least (at0 l k) = (decide (1 ≤ at0 l k) && decide (at0 l k < least)) from rfl)
        generalize at0 l k = e at *
        by_cases d1 : 1 ≤ e
        · by_cases d2 : e < least
          · obtain ⟨z, hz, hz2, hz3, hz4⟩ := HS.out true (by rw [Hd.out, decide_eq_true d1, decide_eq_true d2]; rfl)
            have H2 := Lib.hid hz2; have H3 := Lib.hid hz3; have H4 := Lib.hid hz4
            clear hz2 hz3 hz4 HS Hd HB Hs
            go_wp2_with fail
            (try rw [hz])
            go_roundw
            case rel => exact ⟨k + 1, _, z, by omega, by go_num, rfl, H2.out, H3.out, H4.out⟩
            case measure => simp [intOf] <;> omega
          · obtain ⟨z, hz, hz2, hz3, hz4⟩ := HS.out false (by rw [Hd.out, decide_eq_false d2, Bool.and_false])
            have H2 := Lib.hid hz2; have H3 := Lib.hid hz3; have H4 := Lib.hid hz4
            clear hz2 hz3 hz4 HS Hd HB Hs
            go_wp2_with fail
            (try rw [hz])
            go_roundw
            case rel => exact ⟨k + 1, _, z, by omega, by go_num, rfl, H2.out, H3.out, H4.out⟩
            case measure => simp [intOf] <;> omega
        · obtain ⟨z, hz, hz2, hz3, hz4⟩ := HS.out false (by rw [Hd.out, decide_eq_false d1, Bool.false_and])
          have H2 := Lib.hid hz2; have H3 := Lib.hid hz3; have H4 := Lib.hid hz4
          clear hz2 hz3 hz4 HS Hd HB Hs
          go_wp2_with fail
          (try rw [hz])
          go_roundw
          case rel => exact ⟨k + 1, _, z, by omega, by go_num, rfl, H2.out, H3.out, H4.out⟩
          case measure => simp [intOf] <;> omega
      · obtain rfl : k = m := by omega
        have HE := Lib.hid (show h = l.map (smallB least) from bo_ext (by rw [Hl.out, Hm.out, List.length_map]) fun j hj => by
          rw [bo_map _ _ _ (by have := Hl.out; have := Hm.out; omega)]
          exact Hs.out j (by have := Hl.out; omega))
        clear Hs
        go_upto_region 15 with fail
        obtain ⟨y3, hy3⟩ := y.alloc (.cells (List.replicate k (Value.bool false)).toArray 4)
        have hb := BoxIs.new y.w (List.replicate k (Value.bool false)) 4
        have hgh : W.heap.size ≤ y.w.heap.size := y.b.size
        have hb1 := HB.out.up (.cells (List.replicate k (Value.bool false)).toArray 4)
        have hne : gs ≠ y.w.heap.size := by have := HB.out.lt; omega
        rw [List.toArray_replicate] at hy3 hb hb1
        rw [hy3] at hb hb1 ⊢
        clear hy3 HB hmk
        generalize y.w.heap.size = gh at *
        have hcp := copyB_run (n := k) hb hb1 (by simp) (by rw [List.length_map]; exact Hl.out) (one_bools h) 32 3 4 (.bool false) 1 sBoolF
        obtain ⟨y4, h4, hb4, _⟩ := hb.stored (B := W) ⟨y3, rfl⟩ hgh (h.map .bool) (by simp [Hl.out])
        rw [h4] at hcp
        have HB4 := Lib.hid hb4
        clear hb hb1 h4 hb4 hne
        go_upto_region 16 with fail
        clear hcp
        have HH := Lib.hid (show HV = hideF R C l width (k + 1) h ∧ cntF h < k + 1 from ⟨by rw [HD.out, HE.out, Hm.out], by have := cntF_le h; have := Hl.out; omega⟩)
        have HEx := Lib.hid (show ∃ g : List Bool, HV = hideF R C l width (k + 1) g ∧ cntF g < k + 1 ∧ g.length = k ∧ BoxIs y4.w gh (g.map .bool) from ⟨h, HH.out.1, HH.out.2, Hl.out, HB4.out⟩)
        clear HH HB4 HE Hl HD h
        go_loopw [] (fun wr => ∃ (f : Nat) (h : List Bool) (y : Since W), wr = y.w ∧ h.length = k ∧ BoxIs y.w gh (h.map .bool) ∧ HV = hideF R C l width f h ∧ cntF h < f) (fun wr => openF wr gh k)
        case atStart => obtain ⟨g, h1, h2, h3, h4⟩ := HEx.out; exact ⟨_, g, y4, rfl, h3, h4, h1, h2⟩
        case round =>
          clear HEx
          obtain ⟨f, h, y, rfl, hl, hB, hf, hcnt⟩ := hrel
          have HB := Lib.hid hB; have Hf := Lib.hid hf; have Hl := Lib.hid hl; have Hc := Lib.hid hcnt
          clear hB hf hl hcnt
          obtain ⟨q0, hq0⟩ := Since.refl y.w
          rw [hq0]
          clear hq0
          replace hb0_0 := Since.cellTo ⟨y, rfl⟩ hb0_0
          replace hb0_1 := Since.cellTo ⟨y, rfl⟩ hb0_1
          replace hb0_2 := Since.cellTo ⟨y, rfl⟩ hb0_2
          have hU := HU.out y.w q0 h (some ⟨gh, 0, none⟩) k (HL.out.to ⟨y, rfl⟩) HB.out.bools Hl.out
          rw [Hl.out] at hU
          have H1 := Lib.hid hU
          clear hU
          have HPO := Lib.hid (fun (v : Value) (hv : ∀ z : Since w, BoxIs z.w gh (h.map .bool) → PO (.returned v) z.w) (y2 : Since y.w) => show PO (.returned v) y2.w from by
            obtain ⟨z, hz⟩ := y.trans y2
            obtain ⟨z2, hz2⟩ := Hup.out z
            have hb := HB.out.since y2
            rw [hz, hz2] at hb ⊢
            exact hv z2 hb)
          obtain ⟨f, rfl⟩ : ∃ f', f = f' + 1 := ⟨f - 1, by have := Hc.out; omega⟩
          cases hu : unsV R C l h width with
          | none =>
            have HF := Lib.hid (show HV = some h by rw [Hf.out, hideF, hu])
            rw [hu] at H1
            have HEnd := Lib.hid (HPO.out _ (fun z hb => HYes2.out h HF.out z gh k Hm.out hb (by have := Hbx.out; omega)))
            clear HF HNo2 HYes2 HU HX Hf Hc HPO
            go_wp2_with (go_at_call 52; ((with_reducible refine H1.out.mono ?_); rintro _ _ ⟨rfl, y2, rfl⟩; rw [show orNeg none = -1 from rfl]))
            exact HEnd.out y2
          | some i =>
            have hi := (fstP_mem hu).1
            rw [Hl.out] at hi
            rw [hu] at H1
            have hi0 : (0 : Int) ≤ (i : Int) := by omega
            have H2 := Lib.hid (fun z : Since y.w => by
              have := HX.out y.w z h (some ⟨gh, 0, none⟩) k i HB.out.bools Hl.out hi
              rw [Hl.out] at this
              exact this)
            cases hn : nextV C h i with
            | none =>
              have HF := Lib.hid (show HV = none by rw [Hf.out, hideF_no hu hn])
              rw [hn] at H2
              have HEnd := Lib.hid (HPO.out _ (fun z _ => HNo2.out HF.out z))
              clear HF HNo2 HYes2 HU HX Hf Hc HPO
              go_upto_region 17 with (go_at_call 52; ((with_reducible refine H1.out.mono ?_); rintro _ _ ⟨rfl, y2, rfl⟩; rw [show orNeg (some i) = (i : Int) from rfl]))
              go_wp2_with (go_at_call 53; ((with_reducible refine (H2.out _).mono ?_); rintro _ _ ⟨rfl, y3, rfl⟩; rw [show orNeg none = -1 from rfl]))
              exact HEnd.out y3
            | some q =>
              obtain ⟨hq, hbq⟩ := nextV_some hn
              rw [hn] at H2
              have HF := Lib.hid (show HV = hideF R C l width f (h.set q true) by rw [Hf.out, hideF_step hu hn])
              have HC2 := Lib.hid (show cntF (h.set q true) < cntF h from cntF_set hq hbq)
              have HSt := Lib.hid (fun y3 : Since y.w => show ∃ z2 : Since W, y3.w.setCell ⟨gh, q, none⟩ (.bool true) = z2.w ∧ BoxIs z2.w gh ((h.set q true).map .bool) ∧ openF z2.w gh k < openF q0.w gh k from by
                obtain ⟨z, hz⟩ := y.trans y3
                have hb := (HB.out.since y3).setj (j := q) (by rw [List.length_map]; exact hq) (.bool true)
                obtain ⟨z2, hz2⟩ := z.set ⟨gh, q, none⟩ hgh (.bool true)
                rw [hz, hz2, ← List.map_set] at hb
                rw [hz]
                exact ⟨z2, hz2, hb, by rw [openF_box hb (by rw [List.length_set]; exact Hl.out), openF_box (HB.out.since q0) Hl.out]; exact HC2.out⟩)
              have hqk : q < k := by have := Hl.out; omega
              have hq0 : (0 : Int) ≤ (q : Int) := by omega
              have hqi : (q : Int) < (k : Int) := by omega
              have f0 := fun y3 : Since y.w => (HB.out.since y3).c q (.bool (bo h q)) (by rw [List.getElem?_map, List.getElem?_eq_getElem hq]; simp [bo, List.getD_eq_getElem?_getD, List.getElem?_eq_getElem hq])
              have f1 := fun y3 : Since y.w => (HB.out.since y3).f
              clear HNo2 HYes2 HU HX Hf HPO
              go_upto_region 17 with (go_at_call 52; ((with_reducible refine H1.out.mono ?_); rintro _ _ ⟨rfl, y2, rfl⟩; rw [show orNeg (some i) = (i : Int) from rfl]))
              go_upto_region 20 with (go_at_call 53; ((with_reducible refine (H2.out _).mono ?_); rintro _ _ ⟨rfl, y3, rfl⟩; rw [show orNeg (some q) = (q : Int) from rfl]))
              obtain ⟨z2, hz2, hb2, hm2⟩ := HSt.out y3
              have HB2 := Lib.hid hb2; have HM2 := Lib.hid hm2
              clear hb2 hm2 HSt
              go_wp2_with fail
              (try rw [hz2])
              go_roundw
              case rel => exact ⟨f, h.set q true, z2, rfl, by rw [List.length_set]; exact Hl.out, HB2.out, HF.out, by have := HC2.out; have := Hc.out; omega⟩
              case measure => exact HM2.out
end Go.Proofs.YtdkcclngionihaaDoor
/- Hidden cells of the examples: plain mathematics. -/
namespace Go.Proofs.YtdkcclngionihaaDoor

theorem mostV_zero {n : Nat} {l : List Arc} {s t : Nat} (h : NetOk n l) (hs : s < n) (S : Int → Bool) (h1 : S (s : Int) = true) (h2 : S (t : Int) = false) (h3 : cutC l S = 0) : mostV n l (s : Int) (t : Int) = 0 :=
  mostV_eq h (nat_in hs) ⟨⟨_, flow_zero h _ _⟩, S, h1, h2, h3⟩
/-- a width of 0 hides the small cells alone -/
theorem hideV_zero {R C : Nat} {l : List Int} (hG : SG R C l) (least : Int) {width : Int} (hw : width ≤ 0) : hideV R C l least width = some (l.map (smallB least)) := by
  unfold hideV hideF
  have : unsV R C l (l.map (smallB least)) width = none := by
    unfold unsV
    refine fstP_none fun j hj => ?_
    have := hG.iv (l.map (smallB least)) (i := j) (by simpa using hj)
    unfold narrow
    rw [decide_eq_false (by omega), Bool.and_false]
  rw [this]
theorem narrow_zero {R C : Nat} {l : List Int} {h : List Bool} {width : Int} {i : Nat} (hz : 0 ≤ at0 l i) (hb : bo h i = true) (hg : gainV R C l h i = 0) (hl : lossV R C l h i = 0) (hw : 0 < width) : narrow R C l h width i = true := by
  unfold narrow hiV loV
  rw [if_pos hb, if_pos hb, hg, hl, hb, Bool.true_and]
  exact decide_eq_true (by omega)
/-- the table of the examples -/
abbrev exT4 : List Int := [0, 4, 0, 0]
theorem ex_good : SG 2 2 exT4 := ⟨by decide, by decide, rfl, by decide, by decide⟩
theorem ex_hide : hideV 2 2 exT4 5 1 = none := by
  have hG := ex_good
  have u0 : unsV 2 2 exT4 [false, true, false, false] 1 = some 1 := fstP_some (by decide)
    (narrow_zero (by decide) rfl (mostV_zero (s := 3) (t := 0) (hG.netOk _ _) (by decide) (fun k => decide (k = 3)) rfl rfl (by decide)) (mostV_zero (s := 0) (t := 3) (hG.netOk _ _) (by decide) (fun k => decide (k = 0)) rfl rfl (by decide)) (by decide))
    (fun j hj => by obtain rfl : j = 0 := by omega
                    rfl)
  have u1 : ∀ h : List Bool, bo h 0 = true → 0 < h.length → cutC (netN 2 2 exT4 h 0 4) (fun k => decide (k = 2)) = 0 → cutC (netN 2 2 exT4 h 0 4) (fun k => decide (k = 0) || decide (k = 3)) = 0 → unsV 2 2 exT4 h 1 = some 0 := fun h hb hl h1 h2 =>
    fstP_some hl (narrow_zero (by decide) hb (mostV_zero (s := 2) (t := 0) (hG.netOk _ _) (by decide) (fun k => decide (k = 2)) rfl rfl h1) (mostV_zero (s := 0) (t := 2) (hG.netOk _ _) (by decide) (fun k => decide (k = 0) || decide (k = 3)) rfl rfl h2) (by decide)) (fun j hj => by omega)
  show hideF 2 2 exT4 1 5 [false, true, false, false] = none
  rw [hideF_step u0 (k := 0) (by decide)]
  show hideF 2 2 exT4 1 4 [true, true, false, false] = none
  rw [hideF_step (u1 _ rfl (by decide) (by decide) (by decide)) (k := 2) (by decide)]
  show hideF 2 2 exT4 1 3 [true, true, true, false] = none
  rw [hideF_step (u1 _ rfl (by decide) (by decide) (by decide)) (k := 3) (by decide)]
  show hideF 2 2 exT4 1 2 [true, true, true, true] = none
  exact hideF_no (u1 _ rfl (by decide) (by decide) (by decide)) (by decide)
end Go.Proofs.YtdkcclngionihaaDoor
/- Releases, the program: the true table. -/
namespace Go.Proofs.YtdkcclngionihaaDoor
open Go.RowKit

/-- the error of a release's table, and the table -/
def rlE (zs : List Int) (size : Int) (R : List Ride) (f t each : Int) : Int := if tabE zs size R f t each ≠ 0 then tabE zs size R f t each else if each = 0 then 1 else 0
def rlT (zs : List Int) (size : Int) (R : List Ride) (f t each : Int) : Tab := if rlE zs size R f t each = 0 then tabV zs size R f t each else tab0
theorem tabres_no {w : World} {e : Int} (y : Since w) : TabRes w tab0 e (.returned (.tuple #[.agg #[.int .i64 0, .int .i64 0, .slice none 0 0], .int .i64 e])) y.w :=
  ⟨none, 0, y, rfl, rfl, row_nil' _, Nat.le_refl _, fun b h => (by cases h), fun b h => (by cases h)⟩
set_option linter.unusedSimpArgs false in
set_option maxRecDepth 100000 in
set_option maxHeartbeats 8000000 in
theorem rltable_calls (w : World) (x : Since w) (az : Option Addr) (zs : List Int) (cz : Nat) (size : Int) (a : Option Addr) (R : List Ride) (c : Nat) (f t each : Int) (hz : IntRow w az zs) (hzl : zs.length ≤ 9223372036854775807) (h : RideRow w a R) (hl : R.length ≤ 9223372036854775807) (hI : ∀ r ∈ R, r.fp ≤ 9223372036854775807 ∧ r.pl ≤ 9223372036854775807) :
    Calls Tryd.prog 30 #[.slice az zs.length cz, .int .i64 size, .slice a R.length c, .agg #[.int .i64 f, .int .i64 t], .int .i64 each] x.w (TabRes w (rlT zs size R f t each) (rlE zs size R f t each)) := by
  have HZ := Lib.hid hz
  have HR := Lib.hid h
  have HC := Lib.hid (fun (W : World) (y : Since W) hz h => table_calls W y az zs cz size a R c f t each hz hzl h hl hI)
  have HE := Lib.hid (show rlE zs size R f t each = if tabE zs size R f t each ≠ 0 then tabE zs size R f t each else if each = 0 then 1 else 0 from rfl)
  have HT := Lib.hid (show rlT zs size R f t each = if rlE zs size R f t each = 0 then tabV zs size R f t each else tab0 from rfl)
  generalize rlE zs size R f t each = E at *
  generalize rlT zs size R f t each = T at *
  generalize tabE zs size R f t each = E2 at *
  generalize tabV zs size R f t each = T2 at *
  generalize zs.length = nz at *
  generalize R.length = nr at *
  clear hz h hl hzl hI
  go_enter Tryd.func30, Tryd.ntmps30
  go_upto_region 1 with fail
  have hb0_0 : ∀ y : Since ((x.w.alloc (.cells #[.int .i64 f, .int .i64 t] 25)).alloc (.cells #[.int .i64 0, .int .i64 0, .slice none 0 0] 31)), y.w.cell? ⟨x.w.heap.size, 0, none⟩ = some (.int .i64 f) := fun y => Since.cell (by simp [go_sem]) (by first | (simp; done) | (simp; omega)) y
  have hb0_1 : ∀ y : Since ((x.w.alloc (.cells #[.int .i64 f, .int .i64 t] 25)).alloc (.cells #[.int .i64 0, .int .i64 0, .slice none 0 0] 31)), y.w.cell? ⟨x.w.heap.size, 1, none⟩ = some (.int .i64 t) := fun y => Since.cell (by simp [go_sem]) (by first | (simp; done) | (simp; omega)) y
  have hf0 : ∀ (y : Since ((x.w.alloc (.cells #[.int .i64 f, .int .i64 t] 25)).alloc (.cells #[.int .i64 0, .int .i64 0, .slice none 0 0] 31))) (o : Nat), y.w.frozen? ⟨x.w.heap.size, o, none⟩ = false := fun y o => Since.free (by simp [go_sem]) (by first | (simp; done) | (simp; omega)) y
  have hb1_0 : ∀ y : Since ((x.w.alloc (.cells #[.int .i64 f, .int .i64 t] 25)).alloc (.cells #[.int .i64 0, .int .i64 0, .slice none 0 0] 31)), y.w.cell? ⟨x.w.heap.size + 1, 0, none⟩ = some (.int .i64 0) := fun y => Since.cell (by simp [go_sem]) (by first | (simp; done) | (simp; omega)) y
  have hb1_1 : ∀ y : Since ((x.w.alloc (.cells #[.int .i64 f, .int .i64 t] 25)).alloc (.cells #[.int .i64 0, .int .i64 0, .slice none 0 0] 31)), y.w.cell? ⟨x.w.heap.size + 1, 1, none⟩ = some (.int .i64 0) := fun y => Since.cell (by simp [go_sem]) (by first | (simp; done) | (simp; omega)) y
  have hb1_2 : ∀ y : Since ((x.w.alloc (.cells #[.int .i64 f, .int .i64 t] 25)).alloc (.cells #[.int .i64 0, .int .i64 0, .slice none 0 0] 31)), y.w.cell? ⟨x.w.heap.size + 1, 2, none⟩ = some (.slice none 0 0) := fun y => Since.cell (by simp [go_sem]) (by first | (simp; done) | (simp; omega)) y
  have hf1 : ∀ (y : Since ((x.w.alloc (.cells #[.int .i64 f, .int .i64 t] 25)).alloc (.cells #[.int .i64 0, .int .i64 0, .slice none 0 0] 31))) (o : Nat), y.w.frozen? ⟨x.w.heap.size + 1, o, none⟩ = false := fun y o => Since.free (by simp [go_sem]) (by first | (simp; done) | (simp; omega)) y
  have hWup : ∃ z : Since w, ((x.w.alloc (.cells #[.int .i64 f, .int .i64 t] 25)).alloc (.cells #[.int .i64 0, .int .i64 0, .slice none 0 0] 31)) = z.w := Since.allocs x [.cells #[.int .i64 f, .int .i64 t] 25, .cells #[.int .i64 0, .int .i64 0, .slice none 0 0] 31]
  obtain ⟨y0, hy0⟩ := Since.refl ((x.w.alloc (.cells #[.int .i64 f, .int .i64 t] 25)).alloc (.cells #[.int .i64 0, .int .i64 0, .slice none 0 0] 31))
  have Hbx := Lib.hid (And.intro x.b.size (show x.w.heap.size + 2 = ((x.w.alloc (.cells #[.int .i64 f, .int .i64 t] 25)).alloc (.cells #[.int .i64 0, .int .i64 0, .slice none 0 0] 31)).heap.size from by simp))
  generalize hW : ((x.w.alloc (.cells #[.int .i64 f, .int .i64 t] 25)).alloc (.cells #[.int .i64 0, .int .i64 0, .slice none 0 0] 31)) = W at *
  clear hW
  generalize x.w.heap.size = bx at *
  have Hup := Lib.hid (Since.up hWup)
  rw [hy0]
  clear hy0
  replace HZ := Lib.hid (HZ.out.to hWup)
  replace HR := Lib.hid (HR.out.to hWup)
  clear hWup hf0
  have H1 := Lib.hid (HC.out W y0 HZ.out HR.out)
  clear HC
  go_upto_region 2 with (go_at_call 21; ((with_reducible refine H1.out.mono ?_); rintro _ _ ⟨a1, c1, y1, rfl, rfl, r1, r2, r3, r4⟩))
  have HR1 := Lib.hid r1; have HR2 := Lib.hid r2; have HR3 := Lib.hid r3; have HR4 := Lib.hid r4
  clear r1 r2 r3 r4 H1 HZ HR
  have hx0 : (y1.w.alloc (.cells #[.int .i64 T2.r, .int .i64 T2.c, .slice a1 T2.l.length c1] 31)).cell? ⟨y1.w.heap.size, 0, none⟩ = some (.int .i64 T2.r) := by simp [go_sem]
  have hx1 : (y1.w.alloc (.cells #[.int .i64 T2.r, .int .i64 T2.c, .slice a1 T2.l.length c1] 31)).cell? ⟨y1.w.heap.size, 1, none⟩ = some (.int .i64 T2.c) := by simp [go_sem]
  have hx2 : (y1.w.alloc (.cells #[.int .i64 T2.r, .int .i64 T2.c, .slice a1 T2.l.length c1] 31)).cell? ⟨y1.w.heap.size, 2, none⟩ = some (.slice a1 T2.l.length c1) := by simp [go_sem]
  have hxf : ∀ o, (y1.w.alloc (.cells #[.int .i64 T2.r, .int .i64 T2.c, .slice a1 T2.l.length c1] 31)).frozen? ⟨y1.w.heap.size, o, none⟩ = false := fun o => by simp [go_sem]
  have hlt0 : y1.w.heap.size < (y1.w.alloc (.cells #[.int .i64 T2.r, .int .i64 T2.c, .slice a1 T2.l.length c1] 31)).heap.size := by simp
  have hst0 : ∃ zz : Since y1.w, (y1.w.alloc (.cells #[.int .i64 T2.r, .int .i64 T2.c, .slice a1 T2.l.length c1] 31)) = zz.w := IsSince.alloc (IsSince.self _) _
  have hsz0 := y1.b.size
  obtain ⟨y2, e2⟩ := IsSince.alloc (IsSince.of y1) (.cells #[.int .i64 T2.r, .int .i64 T2.c, .slice a1 T2.l.length c1] 31)
  rw [e2] at hx0 hx1 hx2 hxf hlt0 hst0 ⊢
  (replace HR1 := Lib.hid (HR1.out.to hst0); replace HR4 := Lib.hid (fun b hb => (by obtain ⟨g, e, h4⟩ := HR4.out b hb; exact ⟨g, e, h4.to hst0⟩) : ∀ b, a1 = some b → ∃ g, b = ⟨g, 0, none⟩ ∧ Nums _ g T2.l.length (at0 T2.l)))
  clear e2 hst0
  generalize y1.w.heap.size = gt at *
  have Hhx0 : ∀ q : Since y2.w, q.w.cell? ⟨gt, 0, none⟩ = some (.int .i64 T2.r) := fun q => Since.cell hx0 (by omega) q
  have Hhx1 : ∀ q : Since y2.w, q.w.cell? ⟨gt, 1, none⟩ = some (.int .i64 T2.c) := fun q => Since.cell hx1 (by omega) q
  have Hhx2 : ∀ q : Since y2.w, q.w.cell? ⟨gt, 2, none⟩ = some (.slice a1 T2.l.length c1) := fun q => Since.cell hx2 (by omega) q
  have Hhxf : ∀ (q : Since y2.w) (o : Nat), q.w.frozen? ⟨gt, o, none⟩ = false := fun q o => Since.free (hxf o) (by omega) q
  have Hhxg := Lib.hid (And.intro hsz0 hlt0)
  clear hlt0 hsz0
  by_cases h1 : E2 = 0
  · by_cases h2 : each = 0
    · have hE : E = 1 := by rw [HE.out, if_neg (by simpa using h1), if_pos h2]
      have hT : T = tab0 := by rw [HT.out, if_neg (by rw [hE]; decide)]
      have HP := Lib.hid (fun y : Since w => show TabRes w T E (.returned (.tuple #[.agg #[.int .i64 0, .int .i64 0, .slice none 0 0], .int .i64 1])) y.w from by rw [hE, hT]; exact tabres_no y)
      clear hE hT HE HT
      go_wp2_with fail
      have hsm : ∀ j, j < 3 → (y2.w.cell? ⟨bx + 1, j, none⟩).isSome = true := fun j hj => by
        match j, hj with
        | 0, _ => rw [hb1_0 y2]; rfl
        | 1, _ => rw [hb1_1 y2]; rfl
        | 2, _ => rw [hb1_2 y2]; rfl
      obtain ⟨Z, hz, hc⟩ := set_many y2 (g := bx + 1) [.int .i64 0, .int .i64 0, .slice none 0 0] hsm (Hup.out y2) (by have := Hbx.out; omega)
      simp only [World.setCells, Nat.reduceAdd] at hz
      rw [hz]
      have hc0 := hc 0 _ rfl
      have hc1 := hc 1 _ rfl
      have hc2 := hc 2 _ rfl
      exact bodyPost_ret (v := .tuple #[.agg #[.int .i64 0, .int .i64 0, .slice none 0 0], .int .i64 1]) (by simp [results, Tryd.results30, go_sem, hc0, hc1, hc2]) rfl (HP.out Z)
    · have hE : E = 0 := by rw [HE.out, if_neg (by simpa using h1), if_neg h2]
      have hT : T = T2 := by rw [HT.out, if_pos hE]
      have HEQ := Lib.hid (And.intro hE hT)
      clear hE hT HE HT
      go_wp2_with fail
      have hg : ∀ b, a1 = some b → b.block ≠ bx + 1 := fun b hb => by have := HR3.out b hb; have := Hbx.out; omega
      have s1 := ((HR1.out.set ⟨bx + 1, 0, none⟩ (.int .i64 T2.r) hg).set ⟨bx + 1, 1, none⟩ (.int .i64 T2.c) hg).set ⟨bx + 1, 2, none⟩ (.slice a1 T2.l.length c1) hg
      have s4 : ∀ b, a1 = some b → ∃ g, b = ⟨g, 0, none⟩ ∧ Nums (((y2.w.setCell ⟨bx + 1, 0, none⟩ (.int .i64 T2.r)).setCell ⟨bx + 1, 1, none⟩ (.int .i64 T2.c)).setCell ⟨bx + 1, 2, none⟩ (.slice a1 T2.l.length c1)) g T2.l.length (at0 T2.l) := fun b hb => by
        obtain ⟨g, e, h4⟩ := HR4.out b hb
        have hne : bx + 1 ≠ g := by have := hg b hb; rw [e] at this; exact Ne.symm this
        exact ⟨g, e, ((h4.setOther ⟨bx + 1, 0, none⟩ hne _).setOther ⟨bx + 1, 1, none⟩ hne _).setOther ⟨bx + 1, 2, none⟩ hne _⟩
      have HS1 := Lib.hid s1; have HS4 := Lib.hid s4
      clear s1 s4 hg
      have hsm : ∀ j, j < 3 → (y2.w.cell? ⟨bx + 1, j, none⟩).isSome = true := fun j hj => by
        match j, hj with
        | 0, _ => rw [hb1_0 y2]; rfl
        | 1, _ => rw [hb1_1 y2]; rfl
        | 2, _ => rw [hb1_2 y2]; rfl
      obtain ⟨Z, hz, hc⟩ := set_many y2 (g := bx + 1) [.int .i64 T2.r, .int .i64 T2.c, .slice a1 T2.l.length c1] hsm (Hup.out y2) (by have := Hbx.out; omega)
      simp only [World.setCells, Nat.reduceAdd] at hz
      rw [hz]
      have hc0 := hc 0 _ rfl
      have hc1 := hc 1 _ rfl
      have hc2 := hc 2 _ rfl
      exact bodyPost_ret (v := .tuple #[.agg #[.int .i64 T2.r, .int .i64 T2.c, .slice a1 T2.l.length c1], .int .i64 0]) (by simp [results, Tryd.results30, go_sem, hc0, hc1, hc2]) rfl (by
        rw [HEQ.out.1, HEQ.out.2]
        exact ⟨a1, c1, Z, rfl, rfl, hz ▸ HS1.out, HR2.out, fun b hb => by have := HR3.out b hb; have := Hbx.out; omega, hz ▸ HS4.out⟩)
  · have hE : E = E2 := by rw [HE.out, if_pos h1]
    have hT : T = tab0 := by rw [HT.out, if_neg (by rw [hE]; exact h1)]
    have HP := Lib.hid (fun y : Since w => show TabRes w T E (.returned (.tuple #[.agg #[.int .i64 0, .int .i64 0, .slice none 0 0], .int .i64 E2])) y.w from by rw [hE, hT]; exact tabres_no y)
    clear hE hT HE HT
    go_wp2_with fail
    have hsm : ∀ j, j < 3 → (y2.w.cell? ⟨bx + 1, j, none⟩).isSome = true := fun j hj => by
      match j, hj with
      | 0, _ => rw [hb1_0 y2]; rfl
      | 1, _ => rw [hb1_1 y2]; rfl
      | 2, _ => rw [hb1_2 y2]; rfl
    obtain ⟨Z, hz, hc⟩ := set_many y2 (g := bx + 1) [.int .i64 0, .int .i64 0, .slice none 0 0] hsm (Hup.out y2) (by have := Hbx.out; omega)
    simp only [World.setCells, Nat.reduceAdd] at hz
    rw [hz]
    have hc0 := hc 0 _ rfl
    have hc1 := hc 1 _ rfl
    have hc2 := hc 2 _ rfl
    exact bodyPost_ret (v := .tuple #[.agg #[.int .i64 0, .int .i64 0, .slice none 0 0], .int .i64 E2]) (by simp [results, Tryd.results30, go_sem, hc0, hc1, hc2]) rfl (HP.out Z)
end Go.Proofs.YtdkcclngionihaaDoor
/- Releases, the program: sums of rows and columns, walked. -/
namespace Go.Proofs.YtdkcclngionihaaDoor
open Go.RowKit

theorem cntL_few (R : List Ride) (each f t : Int) : (cntL R each f t).length ≤ R.length := by
  rw [cntL_eq]; exact List.length_filter_le _ _
theorem at0_map (f : Nat → Int) (n i : Nat) (hi : i < n) : at0 ((List.range n).map f) i = f i := by
  unfold at0
  simp [List.getD_eq_getElem?_getD, hi]
theorem sumF_const (c : Int) : ∀ n, sumF (fun _ => c) n = c * (n : Int)
  | 0 => by simp [sumF]
  | n + 1 => by simp only [sumF]; rw [sumF_const c n, Int.natCast_add, Int.mul_add]; simp
theorem tab_good {zs : List Int} {size : Int} {R : List Ride} {f t each : Int} (h : tabE zs size R f t each = 0) (hl : R.length ≤ 1024) :
    ∃ n : Nat, size = (n : Int) ∧ tabV zs size R f t each = ⟨n, n, cells zs size (cntL R each f t)⟩ ∧ SG n n (cells zs size (cntL R each f t)) := by
  have hs : ¬ (size < 1 ∨ 8 < size ∨ f < 0 ∨ t < f ∨ 4294944000 < t) := fun hb => by
    unfold tabE at h; rw [if_pos hb] at h; cases h
  have hV : tabV zs size R f t each = ⟨size, size, cells zs size (cntL R each f t)⟩ := if_pos h
  obtain ⟨n, rfl⟩ : ∃ n : Nat, size = (n : Int) := ⟨size.toNat, by omega⟩
  have hn : (cells zs (n : Int) (cntL R each f t)).length = n * n := by
    unfold cells
    rw [List.length_map, List.length_range, ← Int.natCast_mul, Int.toNat_natCast]
  have hc : ∀ i, i < n * n → at0 (cells zs (n : Int) (cntL R each f t)) i = celN zs (n : Int) (cntL R each f t) i := fun i hi => by
    unfold cells
    rw [at0_map _ _ _ (by rw [← Int.natCast_mul, Int.toNat_natCast]; exact hi)]
  have hb : ∀ i, i < n * n → 0 ≤ at0 (cells zs (n : Int) (cntL R each f t)) i ∧ at0 (cells zs (n : Int) (cntL R each f t)) i ≤ 1024 := fun i hi => by
    rw [hc i hi]
    have h1 := celN_range zs (n : Int) (cntL R each f t) i
    have h2 := cntL_few R each f t
    omega
  refine ⟨n, rfl, hV, ⟨by omega, by omega⟩, ⟨by omega, by omega⟩, hn, fun i hi => (hb i (by omega)).1, ?_⟩
  rw [hn]
  have h3 := sumF_le (f := at0 (cells zs (n : Int) (cntL R each f t))) (g := fun _ => 1024) (n * n) (fun i hi => (hb i hi).2)
  rw [sumF_const] at h3
  have h4 : n * n ≤ 8 * 8 := Nat.mul_le_mul (by omega) (by omega)
  omega
/-- the sums of the first k cells -/
def rowF (C : Nat) (l : List Int) (k r : Nat) : Int := sumF (fun i => if i / C = r then at0 l i else 0) k
def colF (C : Nat) (l : List Int) (k c : Nat) : Int := sumF (fun i => if i % C = c then at0 l i else 0) k
def rowL (R C : Nat) (l : List Int) (k : Nat) : List Int := (List.range R).map (rowF C l k)
def colL (C : Nat) (l : List Int) (k : Nat) : List Int := (List.range C).map (colF C l k)
theorem list_bump {n q : Nat} {f g : Nat → Int} (_hq : q < n) (v : Int) (hv : g q = v) (ho : ∀ r, r < n → r ≠ q → g r = f r) : ((List.range n).map f).set q v = (List.range n).map g := by
  refine List.ext_getElem (by simp) fun i h1 h2 => ?_
  have hi : i < n := by simpa using h2
  rw [List.getElem_set]
  by_cases e : q = i
  · subst e; rw [if_pos rfl]; simp [hv]
  · rw [if_neg e]; simp [ho i hi (Ne.symm e)]
theorem rowL_step {R C : Nat} {l : List Int} {k : Nat} (hk : k / C < R) : (rowL R C l k).set (k / C) (at0 (rowL R C l k) (k / C) + at0 l k) = rowL R C l (k + 1) := by
  unfold rowL
  rw [at0_map _ _ _ hk]
  refine list_bump hk _ ?_ fun r hr hne => ?_
  · unfold rowF; simp only [sumF]; rw [if_pos trivial]
  · unfold rowF; simp only [sumF]; rw [if_neg (Ne.symm hne)]; omega
theorem colL_step {C : Nat} {l : List Int} {k : Nat} (hk : k % C < C) : (colL C l k).set (k % C) (at0 (colL C l k) (k % C) + at0 l k) = colL C l (k + 1) := by
  unfold colL
  rw [at0_map _ _ _ hk]
  refine list_bump hk _ ?_ fun r hr hne => ?_
  · unfold colF; simp only [sumF]; rw [if_pos trivial]
  · unfold colF; simp only [sumF]; rw [if_neg (Ne.symm hne)]; omega
theorem part_in {l : List Int} (hz : ∀ i, i < l.length → 0 ≤ at0 l i) (hs : sumF (at0 l) l.length ≤ 65536) (p : Nat → Prop) [DecidablePred p] {k : Nat} (hk : k ≤ l.length) : 0 ≤ sumF (fun i => if p i then at0 l i else 0) k ∧ sumF (fun i => if p i then at0 l i else 0) k ≤ 65536 := by
  constructor
  · have := sumF_le (f := fun _ => 0) (g := fun i => if p i then at0 l i else 0) k (fun i hi => by have := hz i (by omega); show (0 : Int) ≤ _; split <;> omega)
    rwa [sumF_zero] at this
  · have h1 := sumF_le (f := fun i => if p i then at0 l i else 0) (g := at0 l) k (fun i hi => by have := hz i (by omega); show _ ≤ _; split <;> omega)
    have h2 := (sumF_mono l.length hz k hk).2
    omega
theorem BoxIs.atI {w : World} {g : Nat} {F : List Int} (h : BoxIs w g (F.map (.int .i64))) {i : Nat} (hi : i < F.length) : w.cell? ⟨g, i, none⟩ = some (.int .i64 (at0 F i)) :=
  h.c i _ (by rw [List.getElem?_map, List.getElem?_eq_getElem hi]; simp [at0, List.getD_eq_getElem?_getD, List.getElem?_eq_getElem hi])
theorem BoxIs.setI {w : World} {g : Nat} {F : List Int} (h : BoxIs w g (F.map (.int .i64))) {i : Nat} (hi : i < F.length) (v : Int) : BoxIs (w.setCell ⟨g, i, none⟩ (.int .i64 v)) g ((F.set i v).map (.int .i64)) := by
  rw [List.map_set]
  exact h.setj (by rw [List.length_map]; exact hi) _
/-- what Exact has in memory -/
structure XS (w : World) (gt gr gL gR gC : Nat) (tv rv : List Value) (m : Nat) (cf : Nat → Int) (rows cols : List Int) (ah : Option Addr) (h : List Bool) : Prop where
  t : BoxIs w gt tv
  r : BoxIs w gr rv
  l : Nums w gL m cf
  a : BoxIs w gR (rows.map (.int .i64))
  b : BoxIs w gC (cols.map (.int .i64))
  h : BlRow w ah h
/-- where it lies -/
structure XD (B : World) (gt gr gL gR gC : Nat) (ah : Option Addr) : Prop where
  b : B.heap.size ≤ gL ∧ B.heap.size ≤ gR ∧ B.heap.size ≤ gC
  t : gt ≠ gL ∧ gt ≠ gR ∧ gt ≠ gC
  r : gr ≠ gL ∧ gr ≠ gR ∧ gr ≠ gC
  n : gL ≠ gR ∧ gL ≠ gC ∧ gR ≠ gC
  h : ∀ b, ah = some b → b.block ≠ gL ∧ b.block ≠ gR ∧ b.block ≠ gC
section
variable {w : World} {gt gr gL gR gC : Nat} {tv rv : List Value} {m : Nat} {cf : Nat → Int} {rows cols : List Int} {ah : Option Addr} {h : List Bool}
theorem XS.to {W : World} (s : XS w gt gr gL gR gC tv rv m cf rows cols ah h) (hW : ∃ z : Since w, W = z.w) : XS W gt gr gL gR gC tv rv m cf rows cols ah h :=
  ⟨s.t.to hW, s.r.to hW, s.l.to hW, s.a.to hW, s.b.to hW, s.h.to hW⟩
theorem XS.setR {B : World} (s : XS w gt gr gL gR gC tv rv m cf rows cols ah h) (d : XD B gt gr gL gR gC ah) {q : Nat} (hq : q < rows.length) (v : Int) : XS (w.setCell ⟨gR, q, none⟩ (.int .i64 v)) gt gr gL gR gC tv rv m cf (rows.set q v) cols ah h :=
  ⟨s.t.far _ _ d.t.2.1, s.r.far _ _ d.r.2.1, s.l.setOther _ (Ne.symm d.n.1) _, s.a.setI hq v, s.b.far _ _ (Ne.symm d.n.2.2), s.h.set _ _ fun b hb => (d.h b hb).2.1⟩
theorem XS.setC {B : World} (s : XS w gt gr gL gR gC tv rv m cf rows cols ah h) (d : XD B gt gr gL gR gC ah) {q : Nat} (hq : q < cols.length) (v : Int) : XS (w.setCell ⟨gC, q, none⟩ (.int .i64 v)) gt gr gL gR gC tv rv m cf rows (cols.set q v) ah h :=
  ⟨s.t.far _ _ d.t.2.2, s.r.far _ _ d.r.2.2, s.l.setOther _ (Ne.symm d.n.2.1) _, s.a.far _ _ d.n.2.2, s.b.setI hq v, s.h.set _ _ fun b hb => (d.h b hb).2.2⟩
theorem XS.setL {B : World} (s : XS w gt gr gL gR gC tv rv m cf rows cols ah h) (d : XD B gt gr gL gR gC ah) {q : Nat} (hq : q < m) (v : Int) {cf' : Nat → Int} (hv : cf' q = v) (ho : ∀ j, j < m → j ≠ q → cf' j = cf j) : XS (w.setCell ⟨gL, q, none⟩ (.int .i64 v)) gt gr gL gR gC tv rv m cf' rows cols ah h :=
  ⟨s.t.far _ _ d.t.1, s.r.far _ _ d.r.1, s.l.set hq v hv ho, s.a.far _ _ (Ne.symm d.n.1), s.b.far _ _ (Ne.symm d.n.2.1), s.h.set _ _ fun b hb => (d.h b hb).1⟩
end
set_option linter.unusedSimpArgs false in
set_option maxRecDepth 100000 in
set_option maxHeartbeats 8000000 in
theorem count_calls (B : World) (x : Since B) (n : Nat) (i : Nat) (gt gr gL gR gC m : Nat) (u0 u1 u2 u3 u4 u5 u6 u9 : Value) (cL : Nat) (cf : Nat → Int) (rows cols : List Int) (ah : Option Addr) (h : List Bool)
    (hs : XS x.w gt gr gL gR gC [.int .i64 (n : Int), .int .i64 (n : Int), .slice (some ⟨gL, 0, none⟩) m cL] [u0, u1, u2, u3, u4, u5, u6, .slice (some ⟨gR, 0, none⟩) n n, .slice (some ⟨gC, 0, none⟩) n n, u9] m cf rows cols ah h) (hd : XD B gt gr gL gR gC ah)
    (hi : i < m) (hn : 1 ≤ n ∧ n ≤ 8) (hq : i / n < n) (hr : rows.length = n) (hc : cols.length = n) (h1 : 0 ≤ cf i ∧ cf i ≤ 65536) (h2 : ∀ k, k < n → 0 ≤ at0 rows k ∧ at0 rows k ≤ 65536) (h3 : ∀ k, k < n → 0 ≤ at0 cols k ∧ at0 cols k ≤ 65536) :
    Calls Tryd.prog 32 #[.int .i64 (i : Int), .pointer (some ⟨gr, 0, none⟩), .pointer (some ⟨gt, 0, none⟩)] x.w fun o w' => ∃ y : Since B, o = .returned (.tuple #[]) ∧ w' = y.w ∧ XS y.w gt gr gL gR gC [.int .i64 (n : Int), .int .i64 (n : Int), .slice (some ⟨gL, 0, none⟩) m cL] [u0, u1, u2, u3, u4, u5, u6, .slice (some ⟨gR, 0, none⟩) n n, .slice (some ⟨gC, 0, none⟩) n n, u9] m cf (rows.set (i / n) (at0 rows (i / n) + cf i)) (cols.set (i % n) (at0 cols (i % n) + cf i)) ah h := by
  have hq2 : i % n < n := Nat.mod_lt _ (by omega)
  have e1 : (i : Int) / (n : Int) = ((i / n : Nat) : Int) := (Int.natCast_ediv _ _).symm
  have e2 : (i : Int) % (n : Int) = ((i % n : Nat) : Int) := (Int.natCast_emod _ _).symm
  have e3 : Int.tmod (i : Int) (n : Int) = ((i % n : Nat) : Int) := (Int.tmod_eq_emod_of_nonneg (by omega)).trans e2
  have Hs := Lib.hid hs
  have Hd := Lib.hid hd
  have b2 := h2 _ hq
  have b3 := h3 _ hq2
  have Hr := Lib.hid (show i / n < rows.length by omega)
  have Hc := Lib.hid (show i % n < cols.length by omega)
  have HgR := Lib.hid hd.b.2.1
  have HgC := Lib.hid hd.b.2.2
  clear hs hd h2 h3 hr hc
  obtain ⟨q, hqe⟩ : ∃ q, q = i / n := ⟨_, rfl⟩
  obtain ⟨p, hpe⟩ : ∃ p, p = i % n := ⟨_, rfl⟩
  simp only [← hqe, ← hpe] at *
  clear hqe hpe
  have hi0 : (0 : Int) ≤ (i : Int) := by omega
  have him : (i : Int) < (m : Int) := by omega
  have hq0 : (0 : Int) ≤ (q : Int) := by omega
  have hqn : (q : Int) < (n : Int) := by omega
  have hp0 : (0 : Int) ≤ (p : Int) := by omega
  have hpn : (p : Int) < (n : Int) := by omega
  have hnz : ¬ n = 0 := by omega
  have wq : IntKind.i64.wrap (q : Int) = (q : Int) := IntWalk.i64_in _ (by omega)
  have wp' : IntKind.i64.wrap (p : Int) = (p : Int) := IntWalk.i64_in _ (by omega)
  go_enter Tryd.func32, Tryd.ntmps32
  have HX := Lib.hid Hs.out
  have ws : IntKind.i64.wrap (at0 rows q + cf i) = at0 rows q + cf i := IntWalk.i64_in _ (by omega)
  have ws2 : IntKind.i64.wrap (at0 cols p + cf i) = at0 cols p + cf i := IntWalk.i64_in _ (by omega)
  have i7 := fun w' (h : IsSince x.w w') => IsSince.cell (Since.cell (HX.out.r.c 7 _ rfl) HX.out.r.lt) h
  have j1 := fun w' (h : IsSince x.w w') => IsSince.cell (Since.cell (HX.out.t.c 1 _ rfl) HX.out.t.lt) h
  have j2 := fun w' (h : IsSince x.w w') => IsSince.cell (Since.cell (HX.out.t.c 2 _ rfl) HX.out.t.lt) h
  have l0 := fun w' (h : IsSince x.w w') => IsSince.cell (Since.cell (HX.out.l.c i hi) HX.out.l.lt) h
  have g0 := fun w' (h : IsSince x.w w') => IsSince.cell (Since.cell (HX.out.a.atI Hr.out) HX.out.a.lt) h
  have q1 : x.w.drew.cell? ⟨gR, q, none⟩ = some (.int .i64 (at0 rows q)) := HX.out.a.atI Hr.out
  have qf : x.w.drew.frozen? ⟨gR, q, none⟩ = false := HX.out.a.f q
  go_upto_region 0 with fail
  refine wp_region_M (fun w' => IsSince x.w w') 15 (by kernel_rfl) (IsSince.drew' (IsSince.self _)) (fun hS => ?_)
  refine wpAnyM_takeU (i := 0) (v := ?_) rfl (by kernel_rfl) (by kernel_rfl) (by kernel_rfl) (by kernel_rfl) (fun _ _ _ h => h) hS (Or.inl ⟨by rfl, ?_⟩) ?_
  rotate_left
  · (intro w hSw; (try dsimp only at hSw); go_split_ands; go_simp; try (with_reducible rfl))
  (try simp only [Act.put, List.setIfInBounds_toArray, List.set_cons_zero, List.set_cons_succ])
  refine wpAnyM_takeU (i := 1) (v := ?_) rfl (by kernel_rfl) (by kernel_rfl) (by kernel_rfl) (by kernel_rfl) (fun _ _ _ h => h) hS (Or.inl ⟨by rfl, ?_⟩) ?_
  rotate_left
  · (intro w hSw; (try dsimp only at hSw); go_split_ands; go_simp; try (with_reducible rfl))
  (try simp only [Act.put, List.setIfInBounds_toArray, List.set_cons_zero, List.set_cons_succ])
  refine wpAnyM_takeU (i := 2) (v := ?_) rfl (by kernel_rfl) (by kernel_rfl) (by kernel_rfl) (by kernel_rfl) (fun _ _ _ h => h) hS (Or.inl ⟨by rfl, ?_⟩) ?_
  rotate_left
  · (intro w hSw; (try dsimp only at hSw); go_split_ands; go_simp; try (with_reducible rfl))
  (try simp only [Act.put, List.setIfInBounds_toArray, List.set_cons_zero, List.set_cons_succ])
  refine wpAnyM_takeU (i := 3) (v := ?_) rfl (by kernel_rfl) (by kernel_rfl) (by kernel_rfl) (by kernel_rfl) (fun _ _ _ h => h) hS (Or.inl ⟨by rfl, ?_⟩) ?_
  rotate_left
  · (intro w hSw; (try dsimp only at hSw); go_split_ands; go_simp; try (with_reducible rfl))
  (try simp only [Act.put, List.setIfInBounds_toArray, List.set_cons_zero, List.set_cons_succ])
  refine wpAnyM_takeU (i := 4) (v := ?_) rfl (by kernel_rfl) (by kernel_rfl) (by kernel_rfl) (by kernel_rfl) (fun _ _ _ h => h) hS (Or.inl ⟨by rfl, ?_⟩) ?_
  rotate_left
  · (intro w hSw; (try dsimp only at hSw); go_split_ands; go_simp; try (with_reducible rfl))
  (try simp only [Act.put, List.setIfInBounds_toArray, List.set_cons_zero, List.set_cons_succ])
  refine wpAnyM_takeU (i := 5) (v := ?_) rfl (by kernel_rfl) (by kernel_rfl) (by kernel_rfl) (by kernel_rfl) (fun _ _ _ h => h) hS (Or.inl ⟨by rfl, ?_⟩) ?_
  rotate_left
  · (intro w hSw; (try dsimp only at hSw); go_split_ands; go_simp; try (with_reducible rfl))
  (try simp only [Act.put, List.setIfInBounds_toArray, List.set_cons_zero, List.set_cons_succ])
  refine wpAnyM_takeU (i := 6) (v := ?_) rfl (by kernel_rfl) (by kernel_rfl) (by kernel_rfl) (by kernel_rfl) (fun _ _ _ h => h) hS (Or.inl ⟨by rfl, ?_⟩) ?_
  rotate_left
  · (intro w hSw; (try dsimp only at hSw); go_split_ands; go_simp; try (with_reducible rfl))
  (try simp only [Act.put, List.setIfInBounds_toArray, List.set_cons_zero, List.set_cons_succ])
  refine wpAnyM_takeU (i := 7) (v := ?_) rfl (by kernel_rfl) (by kernel_rfl) (by kernel_rfl) (by kernel_rfl) (fun _ _ _ h => h) hS (Or.inl ⟨by rfl, ?_⟩) ?_
  rotate_left
  · (intro w hSw; (try dsimp only at hSw); go_split_ands; go_simp; try (with_reducible rfl))
  (try simp only [Act.put, List.setIfInBounds_toArray, List.set_cons_zero, List.set_cons_succ])
  refine wpAnyM_takeU (i := 8) (v := ?_) rfl (by kernel_rfl) (by kernel_rfl) (by kernel_rfl) (by kernel_rfl) (fun _ _ _ h => h) hS (Or.inl ⟨by rfl, ?_⟩) ?_
  rotate_left
  · (intro w hSw; (try dsimp only at hSw); go_split_ands; go_simp; try (with_reducible rfl))
  (try simp only [Act.put, List.setIfInBounds_toArray, List.set_cons_zero, List.set_cons_succ])
  refine wpAnyM_takeU (i := 9) (v := ?_) rfl (by kernel_rfl) (by kernel_rfl) (by kernel_rfl) (by kernel_rfl) (fun _ _ _ h => h) hS (Or.inl ⟨by rfl, ?_⟩) ?_
  rotate_left
  · (intro w hSw; (try dsimp only at hSw); go_split_ands; go_simp; try (with_reducible rfl))
  (try simp only [Act.put, List.setIfInBounds_toArray, List.set_cons_zero, List.set_cons_succ])
  refine wpAnyM_takeU (i := 10) (v := ?_) rfl (by kernel_rfl) (by kernel_rfl) (by kernel_rfl) (by kernel_rfl) (fun _ _ _ h => h) hS (Or.inl ⟨by rfl, ?_⟩) ?_
  rotate_left
  · (intro w hSw; (try dsimp only at hSw); go_split_ands; go_simp; try (with_reducible rfl))
  (try simp only [Act.put, List.setIfInBounds_toArray, List.set_cons_zero, List.set_cons_succ])
  refine wpAnyM_takeU (i := 11) (v := ?_) rfl (by kernel_rfl) (by kernel_rfl) (by kernel_rfl) (by kernel_rfl) (fun _ _ _ h => h) hS (Or.inl ⟨by rfl, ?_⟩) ?_
  rotate_left
  · (intro w hSw; (try dsimp only at hSw); go_split_ands; go_simp; try (with_reducible rfl))
  (try simp only [Act.put, List.setIfInBounds_toArray, List.set_cons_zero, List.set_cons_succ])
  refine wpAnyM_takeU (i := 12) (v := ?_) rfl (by kernel_rfl) (by kernel_rfl) (by kernel_rfl) (by kernel_rfl) (fun _ _ _ h => h) hS (Or.inl ⟨by rfl, ?_⟩) ?_
  rotate_left
  · (intro w hSw; (try dsimp only at hSw); go_split_ands; go_simp; try (with_reducible rfl))
  (try simp only [Act.put, List.setIfInBounds_toArray, List.set_cons_zero, List.set_cons_succ])
  refine wpAnyM_takeU (i := 13) (v := ?_) rfl (by kernel_rfl) (by kernel_rfl) (by kernel_rfl) (by kernel_rfl) (fun _ _ _ h => h) hS (Or.inl ⟨by rfl, ?_⟩) ?_
  rotate_left
  · (intro w hSw; (try dsimp only at hSw); go_split_ands; go_simp; try (with_reducible rfl))
  (try simp only [Act.put, List.setIfInBounds_toArray, List.set_cons_zero, List.set_cons_succ])
  refine wpAnyM_takeU (i := 14) (v := ?_) rfl (by kernel_rfl) (by kernel_rfl) (by kernel_rfl) (by kernel_rfl) (fun _ _ _ h => h) hS (Or.inl ⟨by rfl, ?_⟩) ?_
  rotate_left
  · (intro w hSw; (try dsimp only at hSw); go_split_ands; go_simp; try (with_reducible rfl))
  (try simp only [Act.put, List.setIfInBounds_toArray, List.set_cons_zero, List.set_cons_succ])
  refine wpAnyM_one (i := 15) (by kernel_rfl) rfl (fun K hK => ?_)
  go_simp
  refine hK.out _ _ (Or.inl rfl) (fun _ => ?_)
  clear hK K hS
  (try simp only [Act.put, List.setIfInBounds_toArray, List.set_cons_zero, List.set_cons_succ])
  refine wpAnyM_done (by kernel_rfl) ?_
  clear i7 j1 j2 l0 g0 q1 qf
  obtain ⟨y, hy⟩ : ∃ y : Since B, (x.w.setCell ⟨gR, q, none⟩ (.int .i64 (at0 rows q + cf i))).drew = y.w := IsSince.drew' (IsSince.set (IsSince.of x) _ HgR.out _)
  have hx := (HX.out.setR Hd.out Hr.out (at0 rows q + cf i)).to (IsSince.drew' (IsSince.self _))
  rw [hy] at hx ⊢
  clear hy HX
  have HX := Lib.hid hx
  clear hx
  go_upto_region 1 with fail
  have i8 := fun w' (h : IsSince y.w w') => IsSince.cell (Since.cell (HX.out.r.c 8 _ rfl) HX.out.r.lt) h
  have j1 := fun w' (h : IsSince y.w w') => IsSince.cell (Since.cell (HX.out.t.c 1 _ rfl) HX.out.t.lt) h
  have j2 := fun w' (h : IsSince y.w w') => IsSince.cell (Since.cell (HX.out.t.c 2 _ rfl) HX.out.t.lt) h
  have l0 := fun w' (h : IsSince y.w w') => IsSince.cell (Since.cell (HX.out.l.c i hi) HX.out.l.lt) h
  have g0 := fun w' (h : IsSince y.w w') => IsSince.cell (Since.cell (HX.out.b.atI Hc.out) HX.out.b.lt) h
  have q1 : y.w.drew.cell? ⟨gC, p, none⟩ = some (.int .i64 (at0 cols p)) := HX.out.b.atI Hc.out
  have qf : y.w.drew.frozen? ⟨gC, p, none⟩ = false := HX.out.b.f p
  refine wp_region_M (fun w' => IsSince y.w w') 15 (by kernel_rfl) (IsSince.drew' (IsSince.self _)) (fun hS => ?_)
  refine wpAnyM_takeU (i := 0) (v := ?_) rfl (by kernel_rfl) (by kernel_rfl) (by kernel_rfl) (by kernel_rfl) (fun _ _ _ h => h) hS (Or.inl ⟨by rfl, ?_⟩) ?_
  rotate_left
  · (intro w hSw; (try dsimp only at hSw); go_split_ands; go_simp; try (with_reducible rfl))
  (try simp only [Act.put, List.setIfInBounds_toArray, List.set_cons_zero, List.set_cons_succ])
  refine wpAnyM_takeU (i := 1) (v := ?_) rfl (by kernel_rfl) (by kernel_rfl) (by kernel_rfl) (by kernel_rfl) (fun _ _ _ h => h) hS (Or.inl ⟨by rfl, ?_⟩) ?_
  rotate_left
  · (intro w hSw; (try dsimp only at hSw); go_split_ands; go_simp; try (with_reducible rfl))
  (try simp only [Act.put, List.setIfInBounds_toArray, List.set_cons_zero, List.set_cons_succ])
  refine wpAnyM_takeU (i := 2) (v := ?_) rfl (by kernel_rfl) (by kernel_rfl) (by kernel_rfl) (by kernel_rfl) (fun _ _ _ h => h) hS (Or.inl ⟨by rfl, ?_⟩) ?_
  rotate_left
  · (intro w hSw; (try dsimp only at hSw); go_split_ands; go_simp; try (with_reducible rfl))
  (try simp only [Act.put, List.setIfInBounds_toArray, List.set_cons_zero, List.set_cons_succ])
  refine wpAnyM_takeU (i := 3) (v := ?_) rfl (by kernel_rfl) (by kernel_rfl) (by kernel_rfl) (by kernel_rfl) (fun _ _ _ h => h) hS (Or.inl ⟨by rfl, ?_⟩) ?_
  rotate_left
  · (intro w hSw; (try dsimp only at hSw); go_split_ands; go_simp; try (with_reducible rfl))
  (try simp only [Act.put, List.setIfInBounds_toArray, List.set_cons_zero, List.set_cons_succ])
  refine wpAnyM_takeU (i := 4) (v := ?_) rfl (by kernel_rfl) (by kernel_rfl) (by kernel_rfl) (by kernel_rfl) (fun _ _ _ h => h) hS (Or.inl ⟨by rfl, ?_⟩) ?_
  rotate_left
  · (intro w hSw; (try dsimp only at hSw); go_split_ands; go_simp; try (with_reducible rfl))
  (try simp only [Act.put, List.setIfInBounds_toArray, List.set_cons_zero, List.set_cons_succ])
  refine wpAnyM_takeU (i := 5) (v := ?_) rfl (by kernel_rfl) (by kernel_rfl) (by kernel_rfl) (by kernel_rfl) (fun _ _ _ h => h) hS (Or.inl ⟨by rfl, ?_⟩) ?_
  rotate_left
  · (intro w hSw; (try dsimp only at hSw); go_split_ands; go_simp; try (with_reducible rfl))
  (try simp only [Act.put, List.setIfInBounds_toArray, List.set_cons_zero, List.set_cons_succ])
  refine wpAnyM_takeU (i := 6) (v := ?_) rfl (by kernel_rfl) (by kernel_rfl) (by kernel_rfl) (by kernel_rfl) (fun _ _ _ h => h) hS (Or.inl ⟨by rfl, ?_⟩) ?_
  rotate_left
  · (intro w hSw; (try dsimp only at hSw); go_split_ands; go_simp; try (with_reducible rfl))
  (try simp only [Act.put, List.setIfInBounds_toArray, List.set_cons_zero, List.set_cons_succ])
  refine wpAnyM_takeU (i := 7) (v := ?_) rfl (by kernel_rfl) (by kernel_rfl) (by kernel_rfl) (by kernel_rfl) (fun _ _ _ h => h) hS (Or.inl ⟨by rfl, ?_⟩) ?_
  rotate_left
  · (intro w hSw; (try dsimp only at hSw); go_split_ands; go_simp; try (with_reducible rfl))
  (try simp only [Act.put, List.setIfInBounds_toArray, List.set_cons_zero, List.set_cons_succ])
  refine wpAnyM_takeU (i := 8) (v := ?_) rfl (by kernel_rfl) (by kernel_rfl) (by kernel_rfl) (by kernel_rfl) (fun _ _ _ h => h) hS (Or.inl ⟨by rfl, ?_⟩) ?_
  rotate_left
  · (intro w hSw; (try dsimp only at hSw); go_split_ands; go_simp; try (with_reducible rfl))
  (try simp only [Act.put, List.setIfInBounds_toArray, List.set_cons_zero, List.set_cons_succ])
  refine wpAnyM_takeU (i := 9) (v := ?_) rfl (by kernel_rfl) (by kernel_rfl) (by kernel_rfl) (by kernel_rfl) (fun _ _ _ h => h) hS (Or.inl ⟨by rfl, ?_⟩) ?_
  rotate_left
  · (intro w hSw; (try dsimp only at hSw); go_split_ands; go_simp; try (with_reducible rfl))
  (try simp only [Act.put, List.setIfInBounds_toArray, List.set_cons_zero, List.set_cons_succ])
  refine wpAnyM_takeU (i := 10) (v := ?_) rfl (by kernel_rfl) (by kernel_rfl) (by kernel_rfl) (by kernel_rfl) (fun _ _ _ h => h) hS (Or.inl ⟨by rfl, ?_⟩) ?_
  rotate_left
  · (intro w hSw; (try dsimp only at hSw); go_split_ands; go_simp; try (with_reducible rfl))
  (try simp only [Act.put, List.setIfInBounds_toArray, List.set_cons_zero, List.set_cons_succ])
  refine wpAnyM_takeU (i := 11) (v := ?_) rfl (by kernel_rfl) (by kernel_rfl) (by kernel_rfl) (by kernel_rfl) (fun _ _ _ h => h) hS (Or.inl ⟨by rfl, ?_⟩) ?_
  rotate_left
  · (intro w hSw; (try dsimp only at hSw); go_split_ands; go_simp; try (with_reducible rfl))
  (try simp only [Act.put, List.setIfInBounds_toArray, List.set_cons_zero, List.set_cons_succ])
  refine wpAnyM_takeU (i := 12) (v := ?_) rfl (by kernel_rfl) (by kernel_rfl) (by kernel_rfl) (by kernel_rfl) (fun _ _ _ h => h) hS (Or.inl ⟨by rfl, ?_⟩) ?_
  rotate_left
  · (intro w hSw; (try dsimp only at hSw); go_split_ands; go_simp; try (with_reducible rfl))
  (try simp only [Act.put, List.setIfInBounds_toArray, List.set_cons_zero, List.set_cons_succ])
  refine wpAnyM_takeU (i := 13) (v := ?_) rfl (by kernel_rfl) (by kernel_rfl) (by kernel_rfl) (by kernel_rfl) (fun _ _ _ h => h) hS (Or.inl ⟨by rfl, ?_⟩) ?_
  rotate_left
  · (intro w hSw; (try dsimp only at hSw); go_split_ands; go_simp; try (with_reducible rfl))
  (try simp only [Act.put, List.setIfInBounds_toArray, List.set_cons_zero, List.set_cons_succ])
  refine wpAnyM_takeU (i := 14) (v := ?_) rfl (by kernel_rfl) (by kernel_rfl) (by kernel_rfl) (by kernel_rfl) (fun _ _ _ h => h) hS (Or.inl ⟨by rfl, ?_⟩) ?_
  rotate_left
  · (intro w hSw; (try dsimp only at hSw); go_split_ands; go_simp; try (with_reducible rfl))
  (try simp only [Act.put, List.setIfInBounds_toArray, List.set_cons_zero, List.set_cons_succ])
  refine wpAnyM_one (i := 15) (by kernel_rfl) rfl (fun K hK => ?_)
  go_simp
  refine hK.out _ _ (Or.inl rfl) (fun _ => ?_)
  clear hK K hS
  (try simp only [Act.put, List.setIfInBounds_toArray, List.set_cons_zero, List.set_cons_succ])
  refine wpAnyM_done (by kernel_rfl) ?_
  clear i8 j1 j2 l0 g0 q1 qf
  obtain ⟨z, hz⟩ : ∃ z : Since B, (y.w.setCell ⟨gC, p, none⟩ (.int .i64 (at0 cols p + cf i))).drew = z.w := IsSince.drew' (IsSince.set (IsSince.of y) _ HgC.out _)
  have hx := (HX.out.setC Hd.out Hc.out (at0 cols p + cf i)).to (IsSince.drew' (IsSince.self _))
  rw [hz] at hx ⊢
  clear hz HX
  have HX := Lib.hid hx
  clear hx
  go_wp2_with fail
  refine bodyPost_end (v := .tuple #[]) (by simp [results, Tryd.results32, go_sem]) rfl ?_
  exact (by first | exact ⟨rfl, z, rfl, HX.out⟩ | exact ⟨z, rfl, rfl, HX.out⟩)
end Go.Proofs.YtdkcclngionihaaDoor
/- Releases, the program: Exact, walked. -/
namespace Go.Proofs.YtdkcclngionihaaDoor
open Go.RowKit

/-- a release -/
structure Rel where
  f : Int
  t : Int
  each : Int
  r : Int
  c : Int
  cells : List Int
  hid : List Bool
  rows : List Int
  cols : List Int
  ws : List Int
def rel0 : Rel := ⟨0, 0, 0, 0, 0, [], [], [], [], []⟩
def RelRes (w : World) (E : Rel) (e : Int) (o : Ending) (w' : World) : Prop :=
  ∃ (a1 a2 a3 a4 a5 : Option Addr) (c1 c2 c3 c4 c5 : Nat) (y : Since w), o = .returned (.tuple #[.agg #[.int .i64 E.f, .int .i64 E.t, .int .i64 E.each, .int .i64 E.r, .int .i64 E.c, .slice a1 E.cells.length c1, .slice a2 E.hid.length c2, .slice a3 E.rows.length c3, .slice a4 E.cols.length c4, .slice a5 E.ws.length c5], .int .i64 e]) ∧ w' = y.w ∧ IntRow y.w a1 E.cells ∧ BlRow y.w a2 E.hid ∧ IntRow y.w a3 E.rows ∧ IntRow y.w a4 E.cols ∧ IntRow y.w a5 E.ws ∧ ∀ b, a1 = some b ∨ a2 = some b ∨ a3 = some b ∨ a4 = some b ∨ a5 = some b → w.heap.size ≤ b.block
theorem relres_no {w : World} {e : Int} (y : Since w) : RelRes w rel0 e (.returned (.tuple #[.agg #[.int .i64 0, .int .i64 0, .int .i64 0, .int .i64 0, .int .i64 0, .slice none 0 0, .slice none 0 0, .slice none 0 0, .slice none 0 0, .slice none 0 0], .int .i64 e])) y.w :=
  ⟨none, none, none, none, none, 0, 0, 0, 0, 0, y, rfl, rfl, row_nil' _, fun i hi => (by cases hi), row_nil' _, row_nil' _, row_nil' _, fun b hb => by rcases hb with h | h | h | h | h <;> cases h⟩
/-- what is published of the cells -/
def hidL (l : List Int) (h : List Bool) : List Int := (List.range l.length).map fun i => if bo h i = true then 0 else at0 l i
noncomputable def exE (zs : List Int) (size : Int) (R : List Ride) (f t each least width : Int) : Int := if rlE zs size R f t each ≠ 0 then rlE zs size R f t each else hideE size.toNat size.toNat (rlT zs size R f t each).l least width
noncomputable def exR (zs : List Int) (size : Int) (R : List Ride) (f t each least width : Int) : Rel := if exE zs size R f t each least width = 0 then
    match hideV size.toNat size.toNat (rlT zs size R f t each).l least width with
    | some h => ⟨f, t, each, size, size, hidL (rlT zs size R f t each).l h, h, rowL size.toNat size.toNat (rlT zs size R f t each).l (rlT zs size R f t each).l.length, colL size.toNat (rlT zs size R f t each).l (rlT zs size R f t each).l.length, []⟩
    | none => rel0
  else rel0
theorem rl_good {zs : List Int} {size : Int} {R : List Ride} {f t each : Int} (h : rlE zs size R f t each = 0) (hl : R.length ≤ 1024) :
    ∃ (n : Nat) (l : List Int), size = (n : Int) ∧ rlT zs size R f t each = ⟨n, n, l⟩ ∧ SG n n l := by
  have ht : tabE zs size R f t each = 0 := by
    unfold rlE at h
    by_cases h0 : tabE zs size R f t each = 0
    · exact h0
    · rw [if_pos h0] at h; exact absurd h h0
  obtain ⟨n, hn, hV, hG⟩ := tab_good ht hl
  refine ⟨n, _, hn, ?_, hG⟩
  unfold rlT; rw [if_pos h, hV]
/-- three new boxes in a statement that draws -/
theorem three_boxD (w : World) (vs us ts : List Value) (T U V : TypeId) : ∃ y : Since w, (((w.alloc (.cells vs.toArray T)).alloc (.cells us.toArray U)).alloc (.cells ts.toArray V)).drew = y.w ∧ BoxIs y.w w.heap.size vs ∧ BoxIs y.w (w.heap.size + 1) us ∧ BoxIs y.w (w.heap.size + 2) ts := by
  obtain ⟨y, hy⟩ : IsSince w (((w.alloc (.cells vs.toArray T)).alloc (.cells us.toArray U)).alloc (.cells ts.toArray V)).drew := IsSince.drew' (IsSince.alloc (IsSince.alloc (IsSince.alloc (IsSince.self _) _) _) _)
  have b1 := (((BoxIs.new w vs T).up (.cells us.toArray U)).up (.cells ts.toArray V)).drew
  have b2 := ((BoxIs.new (w.alloc (.cells vs.toArray T)) us U).up (.cells ts.toArray V)).drew
  have b3 := (BoxIs.new ((w.alloc (.cells vs.toArray T)).alloc (.cells us.toArray U)) ts V).drew
  rw [show (w.alloc (.cells vs.toArray T)).heap.size = w.heap.size + 1 by simp] at b2
  rw [show ((w.alloc (.cells vs.toArray T)).alloc (.cells us.toArray U)).heap.size = w.heap.size + 2 by simp] at b3
  exact ⟨y, hy, hy ▸ b1, hy ▸ b2, hy ▸ b3⟩
section
variable {w : World} {gt gr gL gR gC : Nat} {tv rv : List Value} {m : Nat} {cf : Nat → Int} {rows cols : List Int} {ah : Option Addr} {h : List Bool}
theorem XS.sets {g : Nat} (hg : gt ≠ g ∧ gr ≠ g ∧ gL ≠ g ∧ gR ≠ g ∧ gC ≠ g ∧ ∀ b, ah = some b → b.block ≠ g) : ∀ (vs : List Value) (o : Nat) (w : World), XS w gt gr gL gR gC tv rv m cf rows cols ah h → XS (w.setCells g o vs) gt gr gL gR gC tv rv m cf rows cols ah h
  | [], _, _, s => s
  | v :: vs, o, w, s => XS.sets hg vs (o + 1) (w.setCell ⟨g, o, none⟩ v) ⟨s.t.far _ _ hg.1, s.r.far _ _ hg.2.1, s.l.setOther _ (Ne.symm hg.2.2.1) _, s.a.far _ _ hg.2.2.2.1, s.b.far _ _ hg.2.2.2.2.1, s.h.set _ _ hg.2.2.2.2.2⟩
theorem XS.congr (s : XS w gt gr gL gR gC tv rv m cf rows cols ah h) {cf' : Nat → Int} {rows' cols' : List Int} (h1 : ∀ j, j < m → cf j = cf' j) (h2 : rows = rows') (h3 : cols = cols') : XS w gt gr gL gR gC tv rv m cf' rows' cols' ah h := by
  subst h2; subst h3
  exact ⟨s.t, s.r, s.l.congr h1, s.a, s.b, s.h⟩
end
theorem rowL_zero (R C : Nat) (l : List Int) : List.replicate R 0 = rowL R C l 0 := by
  refine List.ext_getElem (by simp [rowL]) fun i h1 h2 => ?_
  simp [rowL, rowF, sumF]
theorem colL_zero (C : Nat) (l : List Int) : List.replicate C 0 = colL C l 0 := by
  refine List.ext_getElem (by simp [colL]) fun i h1 h2 => ?_
  simp [colL, colF, sumF]
theorem rowL_len (R C : Nat) (l : List Int) (k : Nat) : (rowL R C l k).length = R := by simp [rowL]
theorem colL_len (C : Nat) (l : List Int) (k : Nat) : (colL C l k).length = C := by simp [colL]
theorem hidL_len (l : List Int) (h : List Bool) : (hidL l h).length = l.length := by simp [hidL]
/-- the published cells behind k of them -/
def cfK (l : List Int) (h : List Bool) (k j : Nat) : Int := if j < k ∧ bo h j = true then 0 else at0 l j
theorem cfK_self (l : List Int) (h : List Bool) (k : Nat) : cfK l h k k = at0 l k := by unfold cfK; rw [if_neg (by omega)]
theorem cfK_hid {l : List Int} {h : List Bool} {k : Nat} (hb : bo h k = true) : cfK l h (k + 1) k = 0 := by unfold cfK; rw [if_pos ⟨by omega, hb⟩]
theorem cfK_ne (l : List Int) (h : List Bool) {k j : Nat} (hj : j ≠ k) : cfK l h (k + 1) j = cfK l h k j := by
  unfold cfK
  by_cases h1 : j < k
  · simp [h1, show j < k + 1 by omega]
  · simp [h1, show ¬ j < k + 1 by omega]
theorem cfK_show {l : List Int} {h : List Bool} {k : Nat} (hb : bo h k = false) (j : Nat) : cfK l h k j = cfK l h (k + 1) j := by
  by_cases e : j = k
  · subst e; unfold cfK; rw [if_neg (by omega), if_neg (by rw [hb]; simp)]
  · exact (cfK_ne l h e).symm
theorem exact_res {w : World} {f t each : Int} {n : Nat} {l : List Int} {h : List Bool} {gt gr gL gR gC c1 ch : Nat} {tv rv : List Value} {ah : Option Addr} (Z : Since w) (hl : h.length = l.length) (hfr : w.heap.size ≤ gL ∧ w.heap.size ≤ gR ∧ w.heap.size ≤ gC ∧ ∀ b, ah = some b → w.heap.size ≤ b.block) (s : XS Z.w gt gr gL gR gC tv rv l.length (cfK l h l.length) (rowL n n l l.length) (colL n l l.length) ah h) :
    RelRes w ⟨f, t, each, n, n, hidL l h, h, rowL n n l l.length, colL n l l.length, []⟩ 0 (.returned (.tuple #[.agg #[.int .i64 f, .int .i64 t, .int .i64 each, .int .i64 (n : Int), .int .i64 (n : Int), .slice (some ⟨gL, 0, none⟩) l.length c1, .slice ah l.length ch, .slice (some ⟨gR, 0, none⟩) n n, .slice (some ⟨gC, 0, none⟩) n n, .slice none 0 0], .int .i64 0])) Z.w := by
  refine ⟨some ⟨gL, 0, none⟩, ah, some ⟨gR, 0, none⟩, some ⟨gC, 0, none⟩, none, c1, ch, n, n, 0, Z, ?_, rfl, ?_, s.h, s.a.ints, s.b.ints, row_nil' _, fun b hb => by
    rcases hb with h | h | h | h | h
    · cases h; exact hfr.1
    · exact hfr.2.2.2 b h
    · cases h; exact hfr.2.1
    · cases h; exact hfr.2.2.1
    · cases h⟩
  · simp only [hidL_len, rowL_len, colL_len, hl]; rfl
  · exact nums_row (s.l.congr (f' := fun i => if bo h i = true then 0 else at0 l i) fun j hj => by unfold cfK; simp [hj]) _ rfl
set_option linter.unusedSimpArgs false in
set_option maxRecDepth 100000 in
set_option maxHeartbeats 16000000 in
theorem exact_calls (w : World) (x : Since w) (az : Option Addr) (zs : List Int) (cz : Nat) (size : Int) (a : Option Addr) (R : List Ride) (c : Nat) (f t each least width : Int) (hz : IntRow w az zs) (hzl : zs.length ≤ 9223372036854775807) (h : RideRow w a R) (hl : R.length ≤ 1024) (hI : ∀ r ∈ R, r.fp ≤ 9223372036854775807 ∧ r.pl ≤ 9223372036854775807) :
    Calls Tryd.prog 12 #[.slice az zs.length cz, .int .i64 size, .slice a R.length c, .agg #[.int .i64 f, .int .i64 t], .int .i64 each, .int .i64 least, .int .i64 width] x.w (RelRes w (exR zs size R f t each least width) (exE zs size R f t each least width)) := by
  have HZ := Lib.hid hz
  have HR := Lib.hid h
  have HC := Lib.hid (fun (W : World) (y : Since W) hz h => rltable_calls W y az zs cz size a R c f t each hz hzl h (by omega) hI)
  have HG := Lib.hid (fun h => rl_good (zs := zs) (size := size) (R := R) (f := f) (t := t) (each := each) h hl)
  have HE := Lib.hid (show exE zs size R f t each least width = if rlE zs size R f t each ≠ 0 then rlE zs size R f t each else hideE size.toNat size.toNat (rlT zs size R f t each).l least width from rfl)
  have HT := Lib.hid (show exR zs size R f t each least width = if exE zs size R f t each least width = 0 then
    match hideV size.toNat size.toNat (rlT zs size R f t each).l least width with
    | some h => ⟨f, t, each, size, size, hidL (rlT zs size R f t each).l h, h, rowL size.toNat size.toNat (rlT zs size R f t each).l (rlT zs size R f t each).l.length, colL size.toNat (rlT zs size R f t each).l (rlT zs size R f t each).l.length, []⟩
    | none => rel0
  else rel0 from rfl)
  generalize exE zs size R f t each least width = E at *
  generalize exR zs size R f t each least width = X at *
  generalize rlE zs size R f t each = E2 at *
  generalize rlT zs size R f t each = T2 at *
  generalize zs.length = nz at *
  generalize R.length = nr at *
  clear hz h hl hzl hI
  go_enter Tryd.func12, Tryd.ntmps12
  go_upto_region 1 with fail
  have hb0_0 : ∀ y : Since ((x.w.alloc (.cells #[.int .i64 f, .int .i64 t] 25)).alloc (.cells #[.int .i64 0, .int .i64 0, .int .i64 0, .int .i64 0, .int .i64 0, .slice none 0 0, .slice none 0 0, .slice none 0 0, .slice none 0 0, .slice none 0 0] 36)), y.w.cell? ⟨x.w.heap.size, 0, none⟩ = some (.int .i64 f) := fun y => Since.cell (by simp [go_sem]) (by first | (simp; done) | (simp; omega)) y
  have hb0_1 : ∀ y : Since ((x.w.alloc (.cells #[.int .i64 f, .int .i64 t] 25)).alloc (.cells #[.int .i64 0, .int .i64 0, .int .i64 0, .int .i64 0, .int .i64 0, .slice none 0 0, .slice none 0 0, .slice none 0 0, .slice none 0 0, .slice none 0 0] 36)), y.w.cell? ⟨x.w.heap.size, 1, none⟩ = some (.int .i64 t) := fun y => Since.cell (by simp [go_sem]) (by first | (simp; done) | (simp; omega)) y
  have hf0 : ∀ (y : Since ((x.w.alloc (.cells #[.int .i64 f, .int .i64 t] 25)).alloc (.cells #[.int .i64 0, .int .i64 0, .int .i64 0, .int .i64 0, .int .i64 0, .slice none 0 0, .slice none 0 0, .slice none 0 0, .slice none 0 0, .slice none 0 0] 36))) (o : Nat), y.w.frozen? ⟨x.w.heap.size, o, none⟩ = false := fun y o => Since.free (by simp [go_sem]) (by first | (simp; done) | (simp; omega)) y
  have hb1_0 : ∀ y : Since ((x.w.alloc (.cells #[.int .i64 f, .int .i64 t] 25)).alloc (.cells #[.int .i64 0, .int .i64 0, .int .i64 0, .int .i64 0, .int .i64 0, .slice none 0 0, .slice none 0 0, .slice none 0 0, .slice none 0 0, .slice none 0 0] 36)), y.w.cell? ⟨x.w.heap.size + 1, 0, none⟩ = some (.int .i64 0) := fun y => Since.cell (by simp [go_sem]) (by first | (simp; done) | (simp; omega)) y
  have hb1_1 : ∀ y : Since ((x.w.alloc (.cells #[.int .i64 f, .int .i64 t] 25)).alloc (.cells #[.int .i64 0, .int .i64 0, .int .i64 0, .int .i64 0, .int .i64 0, .slice none 0 0, .slice none 0 0, .slice none 0 0, .slice none 0 0, .slice none 0 0] 36)), y.w.cell? ⟨x.w.heap.size + 1, 1, none⟩ = some (.int .i64 0) := fun y => Since.cell (by simp [go_sem]) (by first | (simp; done) | (simp; omega)) y
  have hb1_2 : ∀ y : Since ((x.w.alloc (.cells #[.int .i64 f, .int .i64 t] 25)).alloc (.cells #[.int .i64 0, .int .i64 0, .int .i64 0, .int .i64 0, .int .i64 0, .slice none 0 0, .slice none 0 0, .slice none 0 0, .slice none 0 0, .slice none 0 0] 36)), y.w.cell? ⟨x.w.heap.size + 1, 2, none⟩ = some (.int .i64 0) := fun y => Since.cell (by simp [go_sem]) (by first | (simp; done) | (simp; omega)) y
  have hb1_3 : ∀ y : Since ((x.w.alloc (.cells #[.int .i64 f, .int .i64 t] 25)).alloc (.cells #[.int .i64 0, .int .i64 0, .int .i64 0, .int .i64 0, .int .i64 0, .slice none 0 0, .slice none 0 0, .slice none 0 0, .slice none 0 0, .slice none 0 0] 36)), y.w.cell? ⟨x.w.heap.size + 1, 3, none⟩ = some (.int .i64 0) := fun y => Since.cell (by simp [go_sem]) (by first | (simp; done) | (simp; omega)) y
  have hb1_4 : ∀ y : Since ((x.w.alloc (.cells #[.int .i64 f, .int .i64 t] 25)).alloc (.cells #[.int .i64 0, .int .i64 0, .int .i64 0, .int .i64 0, .int .i64 0, .slice none 0 0, .slice none 0 0, .slice none 0 0, .slice none 0 0, .slice none 0 0] 36)), y.w.cell? ⟨x.w.heap.size + 1, 4, none⟩ = some (.int .i64 0) := fun y => Since.cell (by simp [go_sem]) (by first | (simp; done) | (simp; omega)) y
  have hb1_5 : ∀ y : Since ((x.w.alloc (.cells #[.int .i64 f, .int .i64 t] 25)).alloc (.cells #[.int .i64 0, .int .i64 0, .int .i64 0, .int .i64 0, .int .i64 0, .slice none 0 0, .slice none 0 0, .slice none 0 0, .slice none 0 0, .slice none 0 0] 36)), y.w.cell? ⟨x.w.heap.size + 1, 5, none⟩ = some (.slice none 0 0) := fun y => Since.cell (by simp [go_sem]) (by first | (simp; done) | (simp; omega)) y
  have hb1_6 : ∀ y : Since ((x.w.alloc (.cells #[.int .i64 f, .int .i64 t] 25)).alloc (.cells #[.int .i64 0, .int .i64 0, .int .i64 0, .int .i64 0, .int .i64 0, .slice none 0 0, .slice none 0 0, .slice none 0 0, .slice none 0 0, .slice none 0 0] 36)), y.w.cell? ⟨x.w.heap.size + 1, 6, none⟩ = some (.slice none 0 0) := fun y => Since.cell (by simp [go_sem]) (by first | (simp; done) | (simp; omega)) y
  have hb1_7 : ∀ y : Since ((x.w.alloc (.cells #[.int .i64 f, .int .i64 t] 25)).alloc (.cells #[.int .i64 0, .int .i64 0, .int .i64 0, .int .i64 0, .int .i64 0, .slice none 0 0, .slice none 0 0, .slice none 0 0, .slice none 0 0, .slice none 0 0] 36)), y.w.cell? ⟨x.w.heap.size + 1, 7, none⟩ = some (.slice none 0 0) := fun y => Since.cell (by simp [go_sem]) (by first | (simp; done) | (simp; omega)) y
  have hb1_8 : ∀ y : Since ((x.w.alloc (.cells #[.int .i64 f, .int .i64 t] 25)).alloc (.cells #[.int .i64 0, .int .i64 0, .int .i64 0, .int .i64 0, .int .i64 0, .slice none 0 0, .slice none 0 0, .slice none 0 0, .slice none 0 0, .slice none 0 0] 36)), y.w.cell? ⟨x.w.heap.size + 1, 8, none⟩ = some (.slice none 0 0) := fun y => Since.cell (by simp [go_sem]) (by first | (simp; done) | (simp; omega)) y
  have hb1_9 : ∀ y : Since ((x.w.alloc (.cells #[.int .i64 f, .int .i64 t] 25)).alloc (.cells #[.int .i64 0, .int .i64 0, .int .i64 0, .int .i64 0, .int .i64 0, .slice none 0 0, .slice none 0 0, .slice none 0 0, .slice none 0 0, .slice none 0 0] 36)), y.w.cell? ⟨x.w.heap.size + 1, 9, none⟩ = some (.slice none 0 0) := fun y => Since.cell (by simp [go_sem]) (by first | (simp; done) | (simp; omega)) y
  have hf1 : ∀ (y : Since ((x.w.alloc (.cells #[.int .i64 f, .int .i64 t] 25)).alloc (.cells #[.int .i64 0, .int .i64 0, .int .i64 0, .int .i64 0, .int .i64 0, .slice none 0 0, .slice none 0 0, .slice none 0 0, .slice none 0 0, .slice none 0 0] 36))) (o : Nat), y.w.frozen? ⟨x.w.heap.size + 1, o, none⟩ = false := fun y o => Since.free (by simp [go_sem]) (by first | (simp; done) | (simp; omega)) y
  have hWup : ∃ z : Since w, ((x.w.alloc (.cells #[.int .i64 f, .int .i64 t] 25)).alloc (.cells #[.int .i64 0, .int .i64 0, .int .i64 0, .int .i64 0, .int .i64 0, .slice none 0 0, .slice none 0 0, .slice none 0 0, .slice none 0 0, .slice none 0 0] 36)) = z.w := Since.allocs x [.cells #[.int .i64 f, .int .i64 t] 25, .cells #[.int .i64 0, .int .i64 0, .int .i64 0, .int .i64 0, .int .i64 0, .slice none 0 0, .slice none 0 0, .slice none 0 0, .slice none 0 0, .slice none 0 0] 36]
  obtain ⟨y0, hy0⟩ := Since.refl ((x.w.alloc (.cells #[.int .i64 f, .int .i64 t] 25)).alloc (.cells #[.int .i64 0, .int .i64 0, .int .i64 0, .int .i64 0, .int .i64 0, .slice none 0 0, .slice none 0 0, .slice none 0 0, .slice none 0 0, .slice none 0 0] 36))
  have Hbx := Lib.hid (And.intro x.b.size (show x.w.heap.size + 2 = ((x.w.alloc (.cells #[.int .i64 f, .int .i64 t] 25)).alloc (.cells #[.int .i64 0, .int .i64 0, .int .i64 0, .int .i64 0, .int .i64 0, .slice none 0 0, .slice none 0 0, .slice none 0 0, .slice none 0 0, .slice none 0 0] 36)).heap.size from by simp))
  generalize hW : ((x.w.alloc (.cells #[.int .i64 f, .int .i64 t] 25)).alloc (.cells #[.int .i64 0, .int .i64 0, .int .i64 0, .int .i64 0, .int .i64 0, .slice none 0 0, .slice none 0 0, .slice none 0 0, .slice none 0 0, .slice none 0 0] 36)) = W at *
  clear hW
  generalize x.w.heap.size = bx at *
  have Hup := Lib.hid (Since.up hWup)
  rw [hy0]
  clear hy0
  replace HZ := Lib.hid (HZ.out.to hWup)
  replace HR := Lib.hid (HR.out.to hWup)
  clear hWup hf0
  have H1 := Lib.hid (HC.out W y0 HZ.out HR.out)
  clear HC
  by_cases h1 : E2 = 0
  · obtain ⟨n, l, rfl, rfl, hG⟩ := HG.out h1
    have HGd := Lib.hid hG
    have hm1 := hG.len
    have hn1 : 1 ≤ n ∧ n ≤ 8 := hG.r
    have hmn : l.length = n * n := hG.n
    have hm0 : 0 < l.length := by rw [hmn]; exact Nat.mul_pos (by omega) (by omega)
    rw [if_neg (by simpa using h1), Int.toNat_natCast] at HE
    rw [Int.toNat_natCast] at HT
    dsimp only at HE HT
    have Hmn := Lib.hid hmn
    clear hG HG hmn
    rw [h1] at H1
    go_upto_region 2 with (go_at_call 30; ((with_reducible refine H1.out.mono ?_); rintro _ _ ⟨a1, c1, y1, rfl, rfl, r1, r2, r3, r4⟩))
    have HR1 := Lib.hid (show IntRow y1.w a1 l from r1)
    have HR3 := Lib.hid (show ∀ b, a1 = some b → W.heap.size ≤ b.block from r3)
    have HR4 := Lib.hid (show ∀ b, a1 = some b → ∃ g, b = ⟨g, 0, none⟩ ∧ Nums y1.w g l.length (at0 l) from r4)
    clear r1 r2 r3 r4 H1 HZ HR
    obtain ⟨b0, o0, ha1, _, _⟩ := HR1.out 0 hm0
    obtain ⟨gL, hgL, hNL⟩ := HR4.out _ ha1
    rw [hgL] at ha1
    subst ha1
    have hgW : W.heap.size ≤ gL := HR3.out _ rfl
    clear hgL
    have HNL := Lib.hid hNL
    clear hNL HR4 HR3
    have hx0 : (y1.w.alloc (.cells #[.int .i64 (n : Int), .int .i64 (n : Int), .slice (some ⟨gL, 0, none⟩) l.length c1] 31)).cell? ⟨y1.w.heap.size, 0, none⟩ = some (.int .i64 (n : Int)) := by simp [go_sem]
    have hx1 : (y1.w.alloc (.cells #[.int .i64 (n : Int), .int .i64 (n : Int), .slice (some ⟨gL, 0, none⟩) l.length c1] 31)).cell? ⟨y1.w.heap.size, 1, none⟩ = some (.int .i64 (n : Int)) := by simp [go_sem]
    have hx2 : (y1.w.alloc (.cells #[.int .i64 (n : Int), .int .i64 (n : Int), .slice (some ⟨gL, 0, none⟩) l.length c1] 31)).cell? ⟨y1.w.heap.size, 2, none⟩ = some (.slice (some ⟨gL, 0, none⟩) l.length c1) := by simp [go_sem]
    have hxf : ∀ o, (y1.w.alloc (.cells #[.int .i64 (n : Int), .int .i64 (n : Int), .slice (some ⟨gL, 0, none⟩) l.length c1] 31)).frozen? ⟨y1.w.heap.size, o, none⟩ = false := fun o => by simp [go_sem]
    have hlt0 : y1.w.heap.size < (y1.w.alloc (.cells #[.int .i64 (n : Int), .int .i64 (n : Int), .slice (some ⟨gL, 0, none⟩) l.length c1] 31)).heap.size := by simp
    have hst0 : ∃ zz : Since y1.w, (y1.w.alloc (.cells #[.int .i64 (n : Int), .int .i64 (n : Int), .slice (some ⟨gL, 0, none⟩) l.length c1] 31)) = zz.w := IsSince.alloc (IsSince.self _) _
    have hsz0 := y1.b.size
    obtain ⟨y2, e2⟩ := IsSince.alloc (IsSince.of y1) (.cells #[.int .i64 (n : Int), .int .i64 (n : Int), .slice (some ⟨gL, 0, none⟩) l.length c1] 31)
    rw [e2] at hx0 hx1 hx2 hxf hlt0 hst0 ⊢
    (replace HR1 := Lib.hid (HR1.out.to hst0); have hNL2 := HNL.out.to hst0; have hBT := BoxIs.new y1.w [.int .i64 (n : Int), .int .i64 (n : Int), .slice (some ⟨gL, 0, none⟩) l.length c1] 31; rw [e2] at hBT; have hLt : gL < y1.w.heap.size := HNL.out.lt)
    clear e2 hst0
    generalize y1.w.heap.size = gt at *
    have Hhx0 : ∀ q : Since y2.w, q.w.cell? ⟨gt, 0, none⟩ = some (.int .i64 (n : Int)) := fun q => Since.cell hx0 (by omega) q
    have Hhx1 : ∀ q : Since y2.w, q.w.cell? ⟨gt, 1, none⟩ = some (.int .i64 (n : Int)) := fun q => Since.cell hx1 (by omega) q
    have Hhx2 : ∀ q : Since y2.w, q.w.cell? ⟨gt, 2, none⟩ = some (.slice (some ⟨gL, 0, none⟩) l.length c1) := fun q => Since.cell hx2 (by omega) q
    have Hhxf : ∀ (q : Since y2.w) (o : Nat), q.w.frozen? ⟨gt, o, none⟩ = false := fun q o => Since.free (hxf o) (by omega) q
    have Hhxg := Lib.hid (And.intro hsz0 hlt0)
    clear hlt0 hsz0
    have HNL2 := Lib.hid hNL2; have HBT := Lib.hid hBT
    clear hNL2 hBT HNL Hhx0 Hhx1 Hhx2 Hhxf hx0 hx1 hx2 hxf
    have hgLt : gL ≠ gt := by omega
    have hgWt : W.heap.size ≤ gt := Hhxg.out.1
    obtain ⟨q2, hq0⟩ := Since.refl y2.w
    rw [hq0]
    clear hq0
    have HH := Lib.hid (hide_calls y2.w q2 n n l least width (some ⟨gL, 0, none⟩) c1 HR1.out HGd.out)
    have k0 := fun q : Since y2.w => (HBT.out.since q).c 0 _ rfl
    have k1 := fun q : Since y2.w => (HBT.out.since q).c 1 _ rfl
    have k2 := fun q : Since y2.w => (HBT.out.since q).c 2 _ rfl
    have HE2 := Lib.hid (show hideE n n l least width ≠ 0 → E = hideE n n l least width ∧ X = rel0 from fun hne => ⟨HE.out, by rw [HT.out, if_neg (by rw [HE.out]; exact hne)]⟩)
    have HE3 := Lib.hid (show ∀ h, hideE n n l least width = 0 → hideV n n l least width = some h → E = 0 ∧ X = ⟨f, t, each, n, n, hidL l h, h, rowL n n l l.length, colL n l l.length, []⟩ from fun h h0 hv => ⟨HE.out.trans h0, by rw [HT.out, if_pos (HE.out.trans h0), hv]⟩)
    clear HE HT
    go_upto_region 5 with (go_at_call 31; ((with_reducible refine HH.out.mono ?_); rintro _ _ ⟨ah, nh, ch, y3, rfl, rfl, hh⟩))
    have HHH := Lib.hid hh
    clear hh HH HR1 h1 Hhxg
    replace k0 := k0 y3
    replace k1 := k1 y3
    replace k2 := k2 y3
    have HN3 := Lib.hid (HNL2.out.since y3)
    have HBT3 := Lib.hid (HBT.out.since y3)
    have hlt2 := HBT.out.lt
    have hsz3 := y3.b.size
    obtain ⟨z3, h3⟩ := y2.trans y3
    have H3 := Lib.hid h3
    clear h3
    by_cases hE0 : hideE n n l least width = 0
    · obtain ⟨h, hv, hl2, rfl, hBl, hcap, hfresh⟩ := HHH.out hE0
      have HEX := Lib.hid (HE3.out h hE0 hv)
      have HBl := Lib.hid hBl; have Hfresh := Lib.hid hfresh; have Hl2 := Lib.hid hl2
      clear HE2 HE3 HHH hBl hfresh hcap hl2 hv
      rw [hE0]
      go_upto_region 7 with fail
      have w0 := Since.cellTo ⟨z3, H3.out⟩ hb0_0
      have w1 := Since.cellTo ⟨z3, H3.out⟩ hb0_1
      have i0 := fun w' (h : IsSince y3.w w') => IsSince.cell w0 h
      have i1 := fun w' (h : IsSince y3.w w') => IsSince.cell w1 h
      have j0 := fun w' (h : IsSince y3.w w') => IsSince.cell (Since.cell (HBT3.out.c 0 _ rfl) HBT3.out.lt) h
      have j1 := fun w' (h : IsSince y3.w w') => IsSince.cell (Since.cell (HBT3.out.c 1 _ rfl) HBT3.out.lt) h
      have j2 := fun w' (h : IsSince y3.w w') => IsSince.cell (Since.cell (HBT3.out.c 2 _ rfl) HBT3.out.lt) h
      have hmk := fun q : World => make1_run sIntF rfl n (by omega) (by omega) q
      clear w0 w1 k0 k1 k2
      go_cut [19] (fun s19 wr => ∃ (gr gR gC : Nat) (y5 : Since y3.w), s19 = .pointer (some ⟨gr, 0, none⟩) ∧ wr = y5.w ∧ BoxIs y5.w gR ((List.replicate n 0).map (.int .i64)) ∧ BoxIs y5.w gC ((List.replicate n 0).map (.int .i64)) ∧ BoxIs y5.w gr [.int .i64 f, .int .i64 t, .int .i64 each, .int .i64 (n : Int), .int .i64 (n : Int), .slice (some ⟨gL, 0, none⟩) l.length c1, .slice ah l.length ch, .slice (some ⟨gR, 0, none⟩) n n, .slice (some ⟨gC, 0, none⟩) n n, .slice none 0 0] ∧ gR ≠ gC ∧ gR ≠ gr ∧ gC ≠ gr ∧ y3.w.heap.size ≤ gR ∧ y3.w.heap.size ≤ gC ∧ y3.w.heap.size ≤ gr)
      case first =>
        go_region_held3 (fun w' => IsSince y3.w w') (first | assumption | exact IsSince.drew' (IsSince.self _) | exact IsSince.alloc (by assumption) _ | exact IsSince.drew' (IsSince.alloc (IsSince.self _) _) | exact IsSince.drew' (IsSince.alloc (IsSince.alloc (IsSince.self _) _) _) | exact IsSince.drew' (IsSince.alloc (IsSince.alloc (IsSince.alloc (IsSince.self _) _) _) _)) (fail)
        all_goals (go_wp2_with fail)
        all_goals go_meet
        all_goals (rw [List.map_replicate, ← List.toArray_replicate])
        all_goals
        -- SIX
        first
          | (obtain ⟨y5, h5, b1, b2, b3⟩ := three_boxD y3.w (List.replicate n (Value.int .i64 0)) (List.replicate n (Value.int .i64 0)) [.int .i64 f, .int .i64 t, .int .i64 each, .int .i64 (n : Int), .int .i64 (n : Int), .slice (some ⟨gL, 0, none⟩) l.length c1, .slice ah l.length ch, .slice (some ⟨y3.w.heap.size, 0, none⟩) n n, .slice (some ⟨y3.w.heap.size + 1, 0, none⟩) n n, .slice none 0 0] 3 3 36
             exact ⟨_, _, _, y5, rfl, h5, b1, b2, b3, by omega, by omega, by omega, by omega, by omega, by omega⟩)
          | (obtain ⟨y5, h5, b1, b2, b3⟩ := three_boxD y3.w (List.replicate n (Value.int .i64 0)) [.int .i64 f, .int .i64 t, .int .i64 each, .int .i64 (n : Int), .int .i64 (n : Int), .slice (some ⟨gL, 0, none⟩) l.length c1, .slice ah l.length ch, .slice (some ⟨y3.w.heap.size, 0, none⟩) n n, .slice (some ⟨y3.w.heap.size + 2, 0, none⟩) n n, .slice none 0 0] (List.replicate n (Value.int .i64 0)) 3 36 3
             exact ⟨_, _, _, y5, rfl, h5, b1, b3, b2, by omega, by omega, by omega, by omega, by omega, by omega⟩)
          | (obtain ⟨y5, h5, b1, b2, b3⟩ := three_boxD y3.w (List.replicate n (Value.int .i64 0)) (List.replicate n (Value.int .i64 0)) [.int .i64 f, .int .i64 t, .int .i64 each, .int .i64 (n : Int), .int .i64 (n : Int), .slice (some ⟨gL, 0, none⟩) l.length c1, .slice ah l.length ch, .slice (some ⟨y3.w.heap.size + 1, 0, none⟩) n n, .slice (some ⟨y3.w.heap.size, 0, none⟩) n n, .slice none 0 0] 3 3 36
             exact ⟨_, _, _, y5, rfl, h5, b2, b1, b3, by omega, by omega, by omega, by omega, by omega, by omega⟩)
          | (obtain ⟨y5, h5, b1, b2, b3⟩ := three_boxD y3.w (List.replicate n (Value.int .i64 0)) [.int .i64 f, .int .i64 t, .int .i64 each, .int .i64 (n : Int), .int .i64 (n : Int), .slice (some ⟨gL, 0, none⟩) l.length c1, .slice ah l.length ch, .slice (some ⟨y3.w.heap.size + 2, 0, none⟩) n n, .slice (some ⟨y3.w.heap.size, 0, none⟩) n n, .slice none 0 0] (List.replicate n (Value.int .i64 0)) 3 36 3
             exact ⟨_, _, _, y5, rfl, h5, b3, b1, b2, by omega, by omega, by omega, by omega, by omega, by omega⟩)
          | (obtain ⟨y5, h5, b1, b2, b3⟩ := three_boxD y3.w [.int .i64 f, .int .i64 t, .int .i64 each, .int .i64 (n : Int), .int .i64 (n : Int), .slice (some ⟨gL, 0, none⟩) l.length c1, .slice ah l.length ch, .slice (some ⟨y3.w.heap.size + 1, 0, none⟩) n n, .slice (some ⟨y3.w.heap.size + 2, 0, none⟩) n n, .slice none 0 0] (List.replicate n (Value.int .i64 0)) (List.replicate n (Value.int .i64 0)) 36 3 3
             exact ⟨_, _, _, y5, rfl, h5, b2, b3, b1, by omega, by omega, by omega, by omega, by omega, by omega⟩)
          | (obtain ⟨y5, h5, b1, b2, b3⟩ := three_boxD y3.w [.int .i64 f, .int .i64 t, .int .i64 each, .int .i64 (n : Int), .int .i64 (n : Int), .slice (some ⟨gL, 0, none⟩) l.length c1, .slice ah l.length ch, .slice (some ⟨y3.w.heap.size + 2, 0, none⟩) n n, .slice (some ⟨y3.w.heap.size + 1, 0, none⟩) n n, .slice none 0 0] (List.replicate n (Value.int .i64 0)) (List.replicate n (Value.int .i64 0)) 36 3 3
             exact ⟨_, _, _, y5, rfl, h5, b3, b2, b1, by omega, by omega, by omega, by omega, by omega, by omega⟩)
        -- END SIX
      case rest =>
        obtain ⟨gr, gR, gC, y5, rfl, rfl, hR5, hC5, hr5, hne1, hne2, hne3, hgR, hgC, hgr⟩ := hcut
        obtain ⟨y6, h6⟩ := y3.trans y5
        obtain ⟨z6, h7⟩ := y2.trans y6
        have hh0 : ∀ b, ah = some b → b.block < y3.w.heap.size := fun b hb => by
          obtain ⟨b3, o3, h8, h9, _⟩ := HBl.out 0 (by rw [Hl2.out]; exact hm0)
          rw [h8] at hb; cases hb; exact h9
        have hs2 := y2.b.size
        have HXD := Lib.hid (show XD W gt gr gL gR gC ah from ⟨⟨hgW, by omega, by omega⟩, ⟨Ne.symm hgLt, by omega, by omega⟩, ⟨by omega, Ne.symm hne2, Ne.symm hne3⟩, ⟨by omega, by omega, hne1⟩, fun b hb => by
          have h1 := Hfresh.out b hb
          have h2 := hh0 b hb
          exact ⟨by omega, by omega, by omega⟩⟩)
        have hXS : XS y5.w gt gr gL gR gC [.int .i64 (n : Int), .int .i64 (n : Int), .slice (some ⟨gL, 0, none⟩) l.length c1] [.int .i64 f, .int .i64 t, .int .i64 each, .int .i64 (n : Int), .int .i64 (n : Int), .slice (some ⟨gL, 0, none⟩) l.length c1, .slice ah l.length ch, .slice (some ⟨gR, 0, none⟩) n n, .slice (some ⟨gC, 0, none⟩) n n, .slice none 0 0] l.length (at0 l) (List.replicate n 0) (List.replicate n 0) ah h :=
          ⟨HBT3.out.since y5, hr5, HN3.out.since y5, hR5, hC5, Since.row HBl.out y5⟩
        rw [h6, h7] at hXS ⊢
        have HXS := Lib.hid (hXS.congr (cf' := cfK l h 0) (fun j _ => by unfold cfK; rw [if_neg (by omega)]) (rowL_zero n n l) (colL_zero n l))
        have hgo : gt ≠ bx + 1 ∧ gr ≠ bx + 1 ∧ gL ≠ bx + 1 ∧ gR ≠ bx + 1 ∧ gC ≠ bx + 1 ∧ ∀ b, ah = some b → b.block ≠ bx + 1 := by
          have h1 := Hbx.out
          have h2 := HXD.out.b
          exact ⟨by omega, by omega, by omega, by omega, by omega, fun b hb => by have := Hfresh.out b hb; omega⟩
        have Hgo := Lib.hid hgo
        have Hfr := Lib.hid (show w.heap.size ≤ gL ∧ w.heap.size ≤ gR ∧ w.heap.size ≤ gC ∧ ∀ b, ah = some b → w.heap.size ≤ b.block from ⟨by have := Hbx.out; omega, by have := Hbx.out; omega, by have := Hbx.out; omega, fun b hb => by have h1 := Hfresh.out b hb; have := Hbx.out; omega⟩)
        have HCc := Lib.hid (fun k (hk : k < l.length) => HGd.out.cell (i := k) hk)
        have HCs := Lib.hid (fun (p : Nat → Prop) [DecidablePred p] k (hk : k ≤ l.length) => part_in HGd.out.z HGd.out.s p hk)
        clear hXS h6 h7 y6 y5 hR5 hC5 hr5 hne1 hne2 hne3 hgR hgC hgr hh0 hs2 hgo HNL2 HBT HN3 HBT3 HBl H3 i0 i1 j0 j1 j2 hmk Hmn HGd hsz3 hlt2 Hfresh hE0
        go_upto_region 9 with fail
        have x2 := HXS.out.t.c 2 _ rfl
        go_upto_region 10 with fail
        clear x2
        go_loopw [61] (fun si wr => ∃ (k : Nat) (y : Since W), k ≤ l.length ∧ si = .int .i64 (k : Int) ∧ wr = y.w ∧ XS y.w gt gr gL gR gC [.int .i64 (n : Int), .int .i64 (n : Int), .slice (some ⟨gL, 0, none⟩) l.length c1] [.int .i64 f, .int .i64 t, .int .i64 each, .int .i64 (n : Int), .int .i64 (n : Int), .slice (some ⟨gL, 0, none⟩) l.length c1, .slice ah l.length ch, .slice (some ⟨gR, 0, none⟩) n n, .slice (some ⟨gC, 0, none⟩) n n, .slice none 0 0] l.length (cfK l h k) (rowL n n l k) (colL n l k) ah h) (fun si _ => l.length - (intOf si).toNat)
        case atStart => exact ⟨0, z6, by omega, rfl, rfl, HXS.out⟩
        case round =>
          clear HXS
          obtain ⟨k, y, hk, rfl, rfl, hX⟩ := hrel
          have HX := Lib.hid hX
          clear hX
          by_cases hlt : k < l.length
          · have hk0 : (0 : Int) ≤ (k : Int) := by omega
            have hkl : (k : Int) < (l.length : Int) := by omega
            obtain ⟨g1, g2, g3, g4⟩ := HCc.out k hlt
            have HCnt := Lib.hid (count_calls W y n k gt gr gL gR gC l.length _ _ _ _ _ _ _ _ c1 (cfK l h k) (rowL n n l k) (colL n l k) ah h HX.out HXD.out hlt hn1 g1 (rowL_len _ _ _ _) (colL_len _ _ _) (by rw [cfK_self]; exact ⟨g3, g4⟩) (fun r hr => by unfold rowL; rw [at0_map _ _ _ hr]; exact HCs.out (fun i => i / n = r) k (by omega)) (fun c hc => by unfold colL; rw [at0_map _ _ _ hc]; exact HCs.out (fun i => i % n = c) k (by omega)))
            clear HX
            go_upto_region 13 with (go_at_call 32; ((with_reducible refine HCnt.out.mono ?_); rintro _ _ ⟨y2, rfl, rfl, hX2⟩))
            clear HCnt
            have HX2 := Lib.hid (hX2.congr (rows' := rowL n n l (k + 1)) (cols' := colL n l (k + 1)) (fun j _ => rfl) (by rw [cfK_self]; exact rowL_step g1) (by rw [cfK_self]; exact colL_step g2))
            clear hX2
            obtain ⟨b2, o2, rfl, hb2, hc2'⟩ := HX2.out.h k (by rw [Hl2.out]; exact hlt)
            have hc2 : y2.w.cell? ⟨b2, o2 + k, none⟩ = some (.bool (bo h k)) := hc2'
            clear hc2' hb2
            cases hb : bo h k
            · rw [hb] at hc2
              have HX3 := Lib.hid (HX2.out.congr (fun j _ => cfK_show hb j) rfl rfl)
              clear HX2
              go_wp2_with fail
              go_roundw
              case rel => exact ⟨k + 1, y2, by omega, by go_num, rfl, HX3.out⟩
              case measure => simp [intOf] <;> omega
            · rw [hb] at hc2
              have HX3 := Lib.hid (HX2.out.setL HXD.out hlt 0 (cf' := cfK l h (k + 1)) (cfK_hid hb) (fun j _ hj => cfK_ne l h hj))
              have r5 := HX2.out.r.c 5 _ rfl
              have l0 := HX2.out.l.c k hlt
              have lf := HX2.out.l.f k hlt
              clear HX2
              obtain ⟨z, hz⟩ := y2.set ⟨gL, k, none⟩ HXD.out.b.1 (.int .i64 0)
              have hX4 := HX3.out
              rw [hz] at hX4
              have HX4 := Lib.hid hX4
              have Hz := Lib.hid hz
              clear hX4 HX3 hz
              go_wp2_with fail
              rw [Hz.out]
              go_roundw
              case rel => exact ⟨k + 1, z, by omega, by go_num, rfl, HX4.out⟩
              case measure => simp [intOf] <;> omega
          · obtain rfl : k = l.length := by omega
            have HPO := Lib.hid (fun (Z : Since w) s => by rw [HEX.out.1, HEX.out.2]; exact exact_res (f := f) (t := t) (each := each) (c1 := c1) (ch := ch) Z Hl2.out Hfr.out s : ∀ (Z : Since w), XS Z.w gt gr gL gR gC [.int .i64 (n : Int), .int .i64 (n : Int), .slice (some ⟨gL, 0, none⟩) l.length c1] [.int .i64 f, .int .i64 t, .int .i64 each, .int .i64 (n : Int), .int .i64 (n : Int), .slice (some ⟨gL, 0, none⟩) l.length c1, .slice ah l.length ch, .slice (some ⟨gR, 0, none⟩) n n, .slice (some ⟨gC, 0, none⟩) n n, .slice none 0 0] l.length (cfK l h l.length) (rowL n n l l.length) (colL n l l.length) ah h → RelRes w X E (.returned (.tuple #[.agg #[.int .i64 f, .int .i64 t, .int .i64 each, .int .i64 (n : Int), .int .i64 (n : Int), .slice (some ⟨gL, 0, none⟩) l.length c1, .slice ah l.length ch, .slice (some ⟨gR, 0, none⟩) n n, .slice (some ⟨gC, 0, none⟩) n n, .slice none 0 0], .int .i64 0])) Z.w)
            have r0 := HX.out.r.c 0 _ rfl
            have r1 := HX.out.r.c 1 _ rfl
            have r2 := HX.out.r.c 2 _ rfl
            have r3 := HX.out.r.c 3 _ rfl
            have r4 := HX.out.r.c 4 _ rfl
            have r5 := HX.out.r.c 5 _ rfl
            have r6 := HX.out.r.c 6 _ rfl
            have r7 := HX.out.r.c 7 _ rfl
            have r8 := HX.out.r.c 8 _ rfl
            have r9 := HX.out.r.c 9 _ rfl
            clear HEX HCs HCc
            go_wp2_with fail
            have hsm : ∀ j, j < 10 → (y.w.cell? ⟨bx + 1, j, none⟩).isSome = true := fun j hj => by
              match j, hj with
              | 0, _ => rw [hb1_0 y]; rfl
              | 1, _ => rw [hb1_1 y]; rfl
              | 2, _ => rw [hb1_2 y]; rfl
              | 3, _ => rw [hb1_3 y]; rfl
              | 4, _ => rw [hb1_4 y]; rfl
              | 5, _ => rw [hb1_5 y]; rfl
              | 6, _ => rw [hb1_6 y]; rfl
              | 7, _ => rw [hb1_7 y]; rfl
              | 8, _ => rw [hb1_8 y]; rfl
              | 9, _ => rw [hb1_9 y]; rfl
            obtain ⟨Z, hz, hc⟩ := set_many y (g := bx + 1) [.int .i64 f, .int .i64 t, .int .i64 each, .int .i64 (n : Int), .int .i64 (n : Int), .slice (some ⟨gL, 0, none⟩) l.length c1, .slice ah l.length ch, .slice (some ⟨gR, 0, none⟩) n n, .slice (some ⟨gC, 0, none⟩) n n, .slice none 0 0] hsm (Hup.out y) (by have := Hbx.out; omega)
            have hXZ := XS.sets Hgo.out [.int .i64 f, .int .i64 t, .int .i64 each, .int .i64 (n : Int), .int .i64 (n : Int), .slice (some ⟨gL, 0, none⟩) l.length c1, .slice ah l.length ch, .slice (some ⟨gR, 0, none⟩) n n, .slice (some ⟨gC, 0, none⟩) n n, .slice none 0 0] 0 y.w HX.out
            rw [hz] at hXZ
            simp only [World.setCells, Nat.reduceAdd] at hz
            rw [hz]
            have HPZ := Lib.hid (HPO.out Z hXZ)
            clear hXZ HPO HX hz
            have hc0 := hc 0 _ rfl
            have hc1 := hc 1 _ rfl
            have hc2 := hc 2 _ rfl
            have hc3 := hc 3 _ rfl
            have hc4 := hc 4 _ rfl
            have hc5 := hc 5 _ rfl
            have hc6 := hc 6 _ rfl
            have hc7 := hc 7 _ rfl
            have hc8 := hc 8 _ rfl
            have hc9 := hc 9 _ rfl
            exact bodyPost_ret (v := .tuple #[.agg #[.int .i64 f, .int .i64 t, .int .i64 each, .int .i64 (n : Int), .int .i64 (n : Int), .slice (some ⟨gL, 0, none⟩) l.length c1, .slice ah l.length ch, .slice (some ⟨gR, 0, none⟩) n n, .slice (some ⟨gC, 0, none⟩) n n, .slice none 0 0], .int .i64 0]) (by simp [results, Tryd.results12, go_sem, hc0, hc1, hc2, hc3, hc4, hc5, hc6, hc7, hc8, hc9]) rfl HPZ.out
    · obtain ⟨e1, e2⟩ := HE2.out hE0
      have HP := Lib.hid (fun y : Since w => show RelRes w X E (.returned (.tuple #[.agg #[.int .i64 0, .int .i64 0, .int .i64 0, .int .i64 0, .int .i64 0, .slice none 0 0, .slice none 0 0, .slice none 0 0, .slice none 0 0, .slice none 0 0], .int .i64 (hideE n n l least width)])) y.w from by rw [e1, e2]; exact relres_no y)
      clear e1 e2 HE2 HE3 HHH HNL2 HBT HN3 HBT3
      generalize hideE n n l least width = E4 at *
      rw [H3.out]
      go_wp2_with fail
      have hsm : ∀ j, j < 10 → (z3.w.cell? ⟨bx + 1, j, none⟩).isSome = true := fun j hj => by
        match j, hj with
        | 0, _ => rw [hb1_0 z3]; rfl
        | 1, _ => rw [hb1_1 z3]; rfl
        | 2, _ => rw [hb1_2 z3]; rfl
        | 3, _ => rw [hb1_3 z3]; rfl
        | 4, _ => rw [hb1_4 z3]; rfl
        | 5, _ => rw [hb1_5 z3]; rfl
        | 6, _ => rw [hb1_6 z3]; rfl
        | 7, _ => rw [hb1_7 z3]; rfl
        | 8, _ => rw [hb1_8 z3]; rfl
        | 9, _ => rw [hb1_9 z3]; rfl
      obtain ⟨Z, hz, hc⟩ := set_many z3 (g := bx + 1) [.int .i64 0, .int .i64 0, .int .i64 0, .int .i64 0, .int .i64 0, .slice none 0 0, .slice none 0 0, .slice none 0 0, .slice none 0 0, .slice none 0 0] hsm (Hup.out z3) (by have := Hbx.out; omega)
      simp only [World.setCells, Nat.reduceAdd] at hz
      rw [hz]
      have hc0 := hc 0 _ rfl
      have hc1 := hc 1 _ rfl
      have hc2 := hc 2 _ rfl
      have hc3 := hc 3 _ rfl
      have hc4 := hc 4 _ rfl
      have hc5 := hc 5 _ rfl
      have hc6 := hc 6 _ rfl
      have hc7 := hc 7 _ rfl
      have hc8 := hc 8 _ rfl
      have hc9 := hc 9 _ rfl
      exact bodyPost_ret (v := .tuple #[.agg #[.int .i64 0, .int .i64 0, .int .i64 0, .int .i64 0, .int .i64 0, .slice none 0 0, .slice none 0 0, .slice none 0 0, .slice none 0 0, .slice none 0 0], .int .i64 E4]) (by simp [results, Tryd.results12, go_sem, hc0, hc1, hc2, hc3, hc4, hc5, hc6, hc7, hc8, hc9]) rfl (HP.out Z)
  · have hE : E = E2 := by rw [HE.out, if_pos h1]
    have hX : X = rel0 := by rw [HT.out, if_neg (by rw [hE]; exact h1)]
    have HP := Lib.hid (fun y : Since w => show RelRes w X E (.returned (.tuple #[.agg #[.int .i64 0, .int .i64 0, .int .i64 0, .int .i64 0, .int .i64 0, .slice none 0 0, .slice none 0 0, .slice none 0 0, .slice none 0 0, .slice none 0 0], .int .i64 E2])) y.w from by rw [hE, hX]; exact relres_no y)
    clear hE hX HE HT HG
    go_upto_region 2 with (go_at_call 30; ((with_reducible refine H1.out.mono ?_); rintro _ _ ⟨a1, c1, y1, rfl, rfl, r1, r2, r3, r4⟩))
    clear r1 r2 r3 r4
    have hx0 : (y1.w.alloc (.cells #[.int .i64 T2.r, .int .i64 T2.c, .slice a1 T2.l.length c1] 31)).cell? ⟨y1.w.heap.size, 0, none⟩ = some (.int .i64 T2.r) := by simp [go_sem]
    have hx1 : (y1.w.alloc (.cells #[.int .i64 T2.r, .int .i64 T2.c, .slice a1 T2.l.length c1] 31)).cell? ⟨y1.w.heap.size, 1, none⟩ = some (.int .i64 T2.c) := by simp [go_sem]
    have hx2 : (y1.w.alloc (.cells #[.int .i64 T2.r, .int .i64 T2.c, .slice a1 T2.l.length c1] 31)).cell? ⟨y1.w.heap.size, 2, none⟩ = some (.slice a1 T2.l.length c1) := by simp [go_sem]
    have hxf : ∀ o, (y1.w.alloc (.cells #[.int .i64 T2.r, .int .i64 T2.c, .slice a1 T2.l.length c1] 31)).frozen? ⟨y1.w.heap.size, o, none⟩ = false := fun o => by simp [go_sem]
    have hlt0 : y1.w.heap.size < (y1.w.alloc (.cells #[.int .i64 T2.r, .int .i64 T2.c, .slice a1 T2.l.length c1] 31)).heap.size := by simp
    have hst0 : ∃ zz : Since y1.w, (y1.w.alloc (.cells #[.int .i64 T2.r, .int .i64 T2.c, .slice a1 T2.l.length c1] 31)) = zz.w := IsSince.alloc (IsSince.self _) _
    have hsz0 := y1.b.size
    obtain ⟨y2, e2⟩ := IsSince.alloc (IsSince.of y1) (.cells #[.int .i64 T2.r, .int .i64 T2.c, .slice a1 T2.l.length c1] 31)
    rw [e2] at hx0 hx1 hx2 hxf hlt0 hst0 ⊢
    skip
    clear e2 hst0
    generalize y1.w.heap.size = gt at *
    have Hhx0 : ∀ q : Since y2.w, q.w.cell? ⟨gt, 0, none⟩ = some (.int .i64 T2.r) := fun q => Since.cell hx0 (by omega) q
    have Hhx1 : ∀ q : Since y2.w, q.w.cell? ⟨gt, 1, none⟩ = some (.int .i64 T2.c) := fun q => Since.cell hx1 (by omega) q
    have Hhx2 : ∀ q : Since y2.w, q.w.cell? ⟨gt, 2, none⟩ = some (.slice a1 T2.l.length c1) := fun q => Since.cell hx2 (by omega) q
    have Hhxf : ∀ (q : Since y2.w) (o : Nat), q.w.frozen? ⟨gt, o, none⟩ = false := fun q o => Since.free (hxf o) (by omega) q
    have Hhxg := Lib.hid (And.intro hsz0 hlt0)
    clear hlt0 hsz0
    go_wp2_with fail
    have hsm : ∀ j, j < 10 → (y2.w.cell? ⟨bx + 1, j, none⟩).isSome = true := fun j hj => by
      match j, hj with
      | 0, _ => rw [hb1_0 y2]; rfl
      | 1, _ => rw [hb1_1 y2]; rfl
      | 2, _ => rw [hb1_2 y2]; rfl
      | 3, _ => rw [hb1_3 y2]; rfl
      | 4, _ => rw [hb1_4 y2]; rfl
      | 5, _ => rw [hb1_5 y2]; rfl
      | 6, _ => rw [hb1_6 y2]; rfl
      | 7, _ => rw [hb1_7 y2]; rfl
      | 8, _ => rw [hb1_8 y2]; rfl
      | 9, _ => rw [hb1_9 y2]; rfl
    obtain ⟨Z, hz, hc⟩ := set_many y2 (g := bx + 1) [.int .i64 0, .int .i64 0, .int .i64 0, .int .i64 0, .int .i64 0, .slice none 0 0, .slice none 0 0, .slice none 0 0, .slice none 0 0, .slice none 0 0] hsm (Hup.out y2) (by have := Hbx.out; omega)
    simp only [World.setCells, Nat.reduceAdd] at hz
    rw [hz]
    have hc0 := hc 0 _ rfl
    have hc1 := hc 1 _ rfl
    have hc2 := hc 2 _ rfl
    have hc3 := hc 3 _ rfl
    have hc4 := hc 4 _ rfl
    have hc5 := hc 5 _ rfl
    have hc6 := hc 6 _ rfl
    have hc7 := hc 7 _ rfl
    have hc8 := hc 8 _ rfl
    have hc9 := hc 9 _ rfl
    exact bodyPost_ret (v := .tuple #[.agg #[.int .i64 0, .int .i64 0, .int .i64 0, .int .i64 0, .int .i64 0, .slice none 0 0, .slice none 0 0, .slice none 0 0, .slice none 0 0, .slice none 0 0], .int .i64 E2]) (by simp [results, Tryd.results12, go_sem, hc0, hc1, hc2, hc3, hc4, hc5, hc6, hc7, hc8, hc9]) rfl (HP.out Z)
end Go.Proofs.YtdkcclngionihaaDoor
/- Releases: weights of noise, plain; lists compared by the reference, walked. -/
namespace Go.Proofs.YtdkcclngionihaaDoor
open Go.RowKit

theorem chk_inv {t : Tab} (h : chkE t = 0) : (1 ≤ t.r ∧ t.r ≤ 8) ∧ (1 ≤ t.c ∧ t.c ≤ 8) ∧ (t.l.length : Int) = t.r * t.c ∧ ∀ i, i < t.l.length → -1000000 ≤ at0 t.l i ∧ at0 t.l i ≤ 1000000 := by
  unfold chkE at h
  by_cases h1 : t.r < 1 ∨ 8 < t.r ∨ t.c < 1 ∨ 8 < t.c
  · rw [if_pos h1] at h; cases h
  · rw [if_neg h1] at h
    by_cases h2 : (t.l.length : Int) ≠ t.r * t.c
    · rw [if_pos h2] at h; cases h
    · rw [if_neg h2] at h
      by_cases h3 : t.l.any (fun n => decide (n < -1000000) || decide (1000000 < n)) = true
      · rw [if_pos h3] at h; cases h
      · refine ⟨by omega, by omega, by omega, fun i hi => ?_⟩
        have h4 : at0 t.l i ∈ t.l := by
          unfold at0
          rw [List.getD_eq_getElem?_getD, List.getElem?_eq_getElem hi]
          exact List.getElem_mem hi
        by_cases h5 : at0 t.l i < -1000000 ∨ 1000000 < at0 t.l i
        · exact absurd (List.any_eq_true.2 ⟨_, h4, by simpa using h5⟩) h3
        · omega
theorem chk_len64 {t : Tab} (h : chkE t = 0) : t.l.length ≤ 64 := by
  obtain ⟨h1, h2, h3, _⟩ := chk_inv h
  have h4 : t.r * t.c ≤ 8 * 8 := Int.mul_le_mul h1.2 h2.2 (by omega) (by decide)
  omega
noncomputable def chE (A T : Tab) (N : List Int) : Int := if chkE A ≠ 0 then chkE A else if chkE T ≠ 0 then chkE T else if A.r ≠ T.r ∨ A.c ≠ T.c then 3 else check N
noncomputable def chL (A T : Tab) (N : List Int) : List Int := (List.range T.l.length).map fun i => weight N (at0 A.l i - at0 T.l i)
noncomputable def chV (A T : Tab) (N : List Int) : List Int := open Classical in if chE A T N = 0 then chL A T N else []
/-- weights of the call's own and an error -/
def ChRes (w : World) (L : List Int) (e : Int) (o : Ending) (w' : World) : Prop := ∃ (a : Option Addr) (c : Nat) (y : Since w), o = .returned (.tuple #[.slice a L.length c, .int .i64 e]) ∧ w' = y.w ∧ IntRow y.w a L
theorem chres_no {w : World} {A T : Tab} {N : List Int} {e : Int} (h : chE A T N = e) (he : e ≠ 0) (y : Since w) : ChRes w (chV A T N) (chE A T N) (.returned (.tuple #[.slice none 0 0, .int .i64 e])) y.w := by
  have : chV A T N = [] := by unfold chV; rw [if_neg (by rw [h]; exact he)]
  rw [this, h]
  exact ⟨none, 0, y, rfl, rfl, row_nil' _⟩
theorem chres_yes {w : World} {A T : Tab} {N : List Int} (h : chE A T N = 0) (y : Since w) {g n : Nat} {L : List Int} (hL : L = chL A T N) (hn : L.length = n) (hb : BoxIs y.w g (L.map (.int .i64))) : ChRes w (chV A T N) (chE A T N) (.returned (.tuple #[.slice (some ⟨g, 0, none⟩) n n, .int .i64 0])) y.w := by
  have : chV A T N = chL A T N := by unfold chV; rw [if_pos h]
  rw [this, h, ← hL]
  exact ⟨_, n, y, by rw [hn], rfl, hb.ints⟩
theorem at0_extS {l m : List Int} (hl : l.length = m.length) (h : ∀ i, i < l.length → at0 l i = at0 m i) : l = m := by
  apply List.ext_getElem hl
  intro i h1 h2
  have := h i h1
  unfold at0 at this
  simpa [List.getD_eq_getElem?_getD, h1, h2] using this

set_option maxHeartbeats 1000000 in
theorem rints_calls (w : World) (x : Since w) (a b : Option Addr) (l m : List Int) (c d : Nat) (hl : l.length ≤ 9223372036854775807) (hm : m.length ≤ 9223372036854775807) (hr : IntRow w a l) (hr' : IntRow w b m) :
    Calls Tryd.prog 18 #[.slice a l.length c, .slice b m.length d] x.w fun e w' => e = .returned (.bool (decide (l = m))) ∧ ∃ y : Since w, w' = y.w := by
  by_cases hlen : l.length = m.length
  · have hne : ((l.length : Int) != (m.length : Int)) = false := by simp; omega
    have hle : l.length ≤ m.length := by omega
    have Hlen := Lib.hid hlen; clear hlen
    go_enter Tryd.func18, Tryd.ntmps18
    go_wp2_with fail
    go_loopw [5] (fun i wr => ∃ k : Nat, k ≤ l.length ∧ i = .int .i64 k ∧ (∀ j, j < k → at0 l j = at0 m j) ∧ ∃ y : Since w, wr = y.w) (fun i _ => l.length - (intOf i).toNat)
    case atStart => exact ⟨0, by omega, rfl, fun j hj => by omega, _, rfl⟩
    case round =>
      obtain ⟨k, hk, rfl, hok, y, rfl⟩ := hrel
      have Hok := Lib.hid hok; clear hok
      by_cases hlt : k < l.length
      · obtain ⟨b1, off1, rfl, _, _⟩ := hr k hlt
        obtain ⟨b2, off2, rfl, _, _⟩ := hr' k (by omega)
        have hcell : ∀ y : Since w, y.w.cell? ⟨b1, off1 + k, none⟩ = some (.int .i64 (at0 l k)) := Since.at hr k hlt
        have hcell' : ∀ y : Since w, y.w.cell? ⟨b2, off2 + k, none⟩ = some (.int .i64 (at0 m k)) := Since.at hr' k (by omega)
        have hk0 : (0 : Int) ≤ (k : Int) := by omega
        have hkl : (k : Int) < (l.length : Int) := by omega
        have hkm : (k : Int) < (m.length : Int) := by omega
        clear hr hr'
        by_cases he : at0 l k = at0 m k
        · have hb : (at0 l k != at0 m k) = false := by simpa using he
          have He := Lib.hid he; clear he
          go_wp2_with fail
          refine wp_region_since (by kernel_rfl) (by kernel_rfl) ?_
          repeat (go_big_quiet_step (fail))
          refine wpQuiet_nil ?_
          rintro _ ⟨y, rfl⟩
          go_wp2_with fail
          go_roundw
          case rel => exact ⟨k + 1, by omega, by go_num, fun j hj => by
            by_cases hjk : j < k
            · exact Hok.out j hjk
            · obtain rfl : j = k := by omega
              exact He.out, _, rfl⟩
          case measure => simp [intOf]; omega
        · have hb : (at0 l k != at0 m k) = true := by simpa using he
          have hno : decide (l = m) = false := decide_eq_false fun h => he (by rw [h])
          have He := Lib.hid he; clear he
          go_wp2_with fail
          refine wp_region_since (by kernel_rfl) (by kernel_rfl) ?_
          repeat (go_big_quiet_step (fail))
          refine wpQuiet_nil ?_
          rintro _ ⟨y, rfl⟩
          go_wp2_with fail
          go_ret
          exact ⟨ret_bool hno.symm, _, rfl⟩
      · have hyes : decide (l = m) = true := decide_eq_true (at0_extS Hlen.out fun i hi => Hok.out i (by omega))
        go_wp2_with fail
        go_ret
        exact ⟨ret_bool hyes.symm, _, rfl⟩
  · have hne : ((l.length : Int) != (m.length : Int)) = true := by simp; omega
    have hno : decide (l = m) = false := decide_eq_false fun h => hlen (by rw [h])
    have Hlen := Lib.hid hlen; clear hlen
    go_enter Tryd.func18, Tryd.ntmps18
    go_wp2_with fail
    go_ret
    exact ⟨ret_bool hno.symm, _, rfl⟩
end Go.Proofs.YtdkcclngionihaaDoor
