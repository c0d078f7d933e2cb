/- Trips between zones, the program: Table. -/
import Derived.Test.YtdkcclngionihaaDoorRlMh
import Derived.IntWalk
import Derived.Test.YtdkcclngionihaaDoorRows
set_option linter.all false
namespace Go.Proofs.YtdkcclngionihaaDoor
open Go.RowKit Go.ChangeMaps

/-- a table of the call's own and an error -/
def TabRes (w : World) (T : Tab) (e : Int) (o : Ending) (w' : World) : Prop :=
  ∃ (a : Option Addr) (c : Nat) (y : Since w), o = .returned (.tuple #[.agg #[.int .i64 T.r, .int .i64 T.c, .slice a T.l.length c], .int .i64 e]) ∧ w' = y.w ∧ IntRow y.w a T.l ∧ T.l.length ≤ c ∧ (∀ b, a = some b → w.heap.size ≤ b.block) ∧ (∀ b, a = some b → ∃ g, b = ⟨g, 0, none⟩ ∧ Nums y.w g T.l.length (at0 T.l))
theorem row_nil' (w : World) : IntRow w none [] := fun i hi => by simp at hi
/-- what the rounds keep -/
structure TbAt (w : World) (g gc gt n N : Nat) (size : Int) (b : Nat → Bool) (f : Nat → Int) : Prop where
  bl : Bls w g n b
  cl : Nums w gc N f
  bx : BoxIs w gt [.int .i64 size, .int .i64 size, .slice (some ⟨gc, 0, none⟩) N N]
theorem TbAt.to {w W : World} {g gc gt n N : Nat} {size : Int} {b : Nat → Bool} {f : Nat → Int} (h : TbAt w g gc gt n N size b f) (hW : ∃ z : Since w, W = z.w) : TbAt W g gc gt n N size b f := ⟨h.bl.to hW, h.cl.to hW, h.bx.to hW⟩
theorem BoxIs.setNe {w : World} {g : Nat} {vs : List Value} (h : BoxIs w g vs) (p : Addr) (u : Value) (hne : g ≠ p.block) : BoxIs (w.setCell p u) g vs := by
  refine ⟨by simpa [World.setCell] using h.lt, fun j v hv => ?_, fun o => by rw [World.frozen?_setCell]; exact h.f o⟩
  rw [World.cell?_of_block (w := w) (a := ⟨g, j, none⟩) (Below.heap_setCell w p u g hne)]
  exact h.c j v hv
theorem Bls.setNe {w : World} {g n : Nat} {f : Nat → Bool} (h : Bls w g n f) (p : Addr) (u : Value) (hne : p.block ≠ g) : Bls (w.setCell p u) g n f := h.setOther p hne u
theorem sm_f {b : Bool} (h : false = !b) : b = true := by
  cases b
  · cases h
  · rfl
theorem sm_t {b : Bool} (h : true = !b) : ¬ b = true := by
  cases b
  · simp
  · cases h
theorem nums_vals {w : World} {g N : Nat} {f : Nat → Int} (h : Nums w g N f) (m : Nat) (hm : m = N) : Nums w g ((List.range m).map f).length (at0 ((List.range m).map f)) := by
  subst hm
  rw [List.length_map, List.length_range]
  refine h.congr fun j hj => ?_
  simp [at0, List.getD_eq_getElem?_getD, hj]
theorem nums_row {w : World} {g N : Nat} {f : Nat → Int} (h : Nums w g N f) (m : Nat) (hm : m = N) : IntRow w (some ⟨g, 0, none⟩) ((List.range m).map f) := by
  subst hm
  intro i hi
  have hi' : i < m := by simpa using hi
  refine ⟨g, 0, rfl, h.lt, ?_⟩
  rw [Nat.zero_add, h.c i hi']
  simp [at0, List.getD_eq_getElem?_getD, hi']
theorem cP_no {R : List Ride} {each f t : Int} {e : Ride} (h : cP R each f t e = false) : ctd R each e = false ∨ (ctd R each e = true ∧ e.s0 < f) ∨ (ctd R each e = true ∧ ¬ e.s0 < f ∧ t ≤ e.s0) ∨ (ctd R each e = true ∧ ¬ e.s0 < f ∧ ¬ t ≤ e.s0 ∧ (e.wh != 1) = true ∧ (e.wh != 2) = true) := by
  unfold cP inT at h
  cases hc : ctd R each e
  · exact Or.inl rfl
  · rw [hc] at h
    simp at h
    by_cases h1 : e.s0 < f
    · exact Or.inr (Or.inl ⟨rfl, h1⟩)
    · by_cases h2 : t ≤ e.s0
      · exact Or.inr (Or.inr (Or.inl ⟨rfl, h1, h2⟩))
      · have := h (by omega) (by omega)
        exact Or.inr (Or.inr (Or.inr ⟨rfl, h1, h2, by simpa using this.1, by simpa using this.2⟩))
theorem cP_yes {R : List Ride} {each f t : Int} {e : Ride} (h : cP R each f t e = true) : ctd R each e = true ∧ ¬ e.s0 < f ∧ ¬ t ≤ e.s0 ∧ (e.wh = 1 ∨ (¬ e.wh = 1 ∧ e.wh = 2)) := by
  unfold cP inT at h
  simp at h
  obtain ⟨h1, ⟨h2, h3⟩, h4⟩ := h
  exact ⟨h1, by omega, by omega, by omega⟩
set_option maxRecDepth 100000 in
set_option maxHeartbeats 16000000 in
theorem table_calls (w : World) (x : Since w) (az : Option Addr) (zs : List Int) (cz : Nat) (size : Int) (a : Option Addr) (R : List Ride) (c : Nat) (f t each : Int) (hz : IntRow w az zs) (hzl : zs.length ≤ 9223372036854775807) (h : RideRow w a R) (hl : R.length ≤ 9223372036854775807) (hI : ∀ r ∈ R, r.fp ≤ 9223372036854775807 ∧ r.pl ≤ 9223372036854775807) :
    Calls Tryd.prog 21 #[.slice az zs.length cz, .int .i64 size, .slice a R.length c, .agg #[.int .i64 f, .int .i64 t], .int .i64 each] x.w (TabRes w (tabV zs size R f t each) (tabE zs size R f t each)) := by
  have HZ := Lib.hid hz
  have HR := Lib.hid h
  have HI := Lib.hid hI
  have Hno := Lib.hid (fun (e : Int) (he : tabE zs size R f t each = e) (hne : e ≠ 0) (y : Since w) => show TabRes w (tabV zs size R f t each) (tabE zs size R f t each) (.returned (.tuple #[.agg #[.int .i64 0, .int .i64 0, .slice none 0 0], .int .i64 e])) y.w from by
    subst he
    have : tabV zs size R f t each = tab0 := if_neg hne
    rw [this]
    exact ⟨none, 0, y, rfl, rfl, row_nil' _, Nat.le_refl _, fun b hb => (by cases hb), fun b hb => by cases hb⟩)
  have Hyes := Lib.hid (fun (he : tabE zs size R f t each = 0) (l : List Int) (hl : l = cells zs size (cntL R each f t)) (a' : Option Addr) (n c' : Nat) (hn : l.length = n) (y : Since w) (hv : ∀ b, a' = some b → ∃ g, b = ⟨g, 0, none⟩ ∧ Nums y.w g l.length (at0 l)) (hr : IntRow y.w a' l) (hc : n ≤ c') (ha : ∀ b, a' = some b → w.heap.size ≤ b.block) => show TabRes w (tabV zs size R f t each) (tabE zs size R f t each) (.returned (.tuple #[.agg #[.int .i64 size, .int .i64 size, .slice a' n c'], .int .i64 0])) y.w from by
    have : tabV zs size R f t each = ⟨size, size, cells zs size (cntL R each f t)⟩ := if_pos he
    rw [this, he]
    subst hl
    subst hn
    exact ⟨a', c', y, rfl, rfl, hr, hc, ha, hv⟩)
  generalize TabRes w (tabV zs size R f t each) (tabE zs size R f t each) = PO at *
  clear hz h hI
  by_cases hv : size < 1 ∨ 8 < size ∨ f < 0 ∨ t < f ∨ 4294944000 < t
  case pos =>
    have HB := Lib.hid (Hno.out 1 (if_pos hv) (by decide))
    rcases (by omega : size < 1 ∨ (¬ size < 1 ∧ 8 < size) ∨ (¬ size < 1 ∧ ¬ 8 < size ∧ f < 0) ∨ (¬ size < 1 ∧ ¬ 8 < size ∧ ¬ f < 0 ∧ t < f) ∨ (¬ size < 1 ∧ ¬ 8 < size ∧ ¬ f < 0 ∧ ¬ t < f ∧ 4294944000 < t)) with h1 | ⟨h1, h2⟩ | ⟨h1, h2, h3⟩ | ⟨h1, h2, h3, h4⟩ | ⟨h1, h2, h3, h4, h5⟩
    all_goals
      clear hv Hno Hyes
      go_enter Tryd.func21, Tryd.ntmps21
      go_upto_region 1 with fail
      have hb0_0 : ∀ y : Since ((x.w.alloc (.cells #[.int .i64 f, .int .i64 t] 25)).alloc (.cells #[.int .i64 0, .int .i64 0, .slice none 0 0] 31)), y.w.cell? ⟨x.w.heap.size, 0, none⟩ = some (.int .i64 f) := fun y => Since.cell (by simp [go_sem]) (by first | (simp; done) | (simp; omega)) y
      have hb0_1 : ∀ y : Since ((x.w.alloc (.cells #[.int .i64 f, .int .i64 t] 25)).alloc (.cells #[.int .i64 0, .int .i64 0, .slice none 0 0] 31)), y.w.cell? ⟨x.w.heap.size, 1, none⟩ = some (.int .i64 t) := fun y => Since.cell (by simp [go_sem]) (by first | (simp; done) | (simp; omega)) y
      have hf0 : ∀ (y : Since ((x.w.alloc (.cells #[.int .i64 f, .int .i64 t] 25)).alloc (.cells #[.int .i64 0, .int .i64 0, .slice none 0 0] 31))) (o : Nat), y.w.frozen? ⟨x.w.heap.size, o, none⟩ = false := fun y o => Since.free (by simp [go_sem]) (by first | (simp; done) | (simp; omega)) y
      have hb1_0 : ∀ y : Since ((x.w.alloc (.cells #[.int .i64 f, .int .i64 t] 25)).alloc (.cells #[.int .i64 0, .int .i64 0, .slice none 0 0] 31)), y.w.cell? ⟨x.w.heap.size + 1, 0, none⟩ = some (.int .i64 0) := fun y => Since.cell (by simp [go_sem]) (by first | (simp; done) | (simp; omega)) y
      have hb1_1 : ∀ y : Since ((x.w.alloc (.cells #[.int .i64 f, .int .i64 t] 25)).alloc (.cells #[.int .i64 0, .int .i64 0, .slice none 0 0] 31)), y.w.cell? ⟨x.w.heap.size + 1, 1, none⟩ = some (.int .i64 0) := fun y => Since.cell (by simp [go_sem]) (by first | (simp; done) | (simp; omega)) y
      have hb1_2 : ∀ y : Since ((x.w.alloc (.cells #[.int .i64 f, .int .i64 t] 25)).alloc (.cells #[.int .i64 0, .int .i64 0, .slice none 0 0] 31)), y.w.cell? ⟨x.w.heap.size + 1, 2, none⟩ = some (.slice none 0 0) := fun y => Since.cell (by simp [go_sem]) (by first | (simp; done) | (simp; omega)) y
      have hf1 : ∀ (y : Since ((x.w.alloc (.cells #[.int .i64 f, .int .i64 t] 25)).alloc (.cells #[.int .i64 0, .int .i64 0, .slice none 0 0] 31))) (o : Nat), y.w.frozen? ⟨x.w.heap.size + 1, o, none⟩ = false := fun y o => Since.free (by simp [go_sem]) (by first | (simp; done) | (simp; omega)) y
      have hWup : ∃ z : Since w, ((x.w.alloc (.cells #[.int .i64 f, .int .i64 t] 25)).alloc (.cells #[.int .i64 0, .int .i64 0, .slice none 0 0] 31)) = z.w := Since.allocs x [.cells #[.int .i64 f, .int .i64 t] 25, .cells #[.int .i64 0, .int .i64 0, .slice none 0 0] 31]
      obtain ⟨y0, hy0⟩ := Since.refl ((x.w.alloc (.cells #[.int .i64 f, .int .i64 t] 25)).alloc (.cells #[.int .i64 0, .int .i64 0, .slice none 0 0] 31))
      have Hbx := Lib.hid (And.intro x.b.size (show x.w.heap.size + 2 = ((x.w.alloc (.cells #[.int .i64 f, .int .i64 t] 25)).alloc (.cells #[.int .i64 0, .int .i64 0, .slice none 0 0] 31)).heap.size from by simp))
      generalize hW : ((x.w.alloc (.cells #[.int .i64 f, .int .i64 t] 25)).alloc (.cells #[.int .i64 0, .int .i64 0, .slice none 0 0] 31)) = W at *
      clear hW
      generalize x.w.heap.size = bx at *
      have Hup := Lib.hid (Since.up hWup)
      rw [hy0]
      clear hy0
      clear hWup
      go_wp2_with fail
      have hsm : ∀ j, j < 3 → (y0.w.cell? ⟨bx + 1, j, none⟩).isSome = true := fun j hj => by
        match j, hj with
        | 0, _ => rw [hb1_0 y0]; rfl
        | 1, _ => rw [hb1_1 y0]; rfl
        | 2, _ => rw [hb1_2 y0]; rfl
      obtain ⟨z, hz, hc⟩ := set_many y0 (g := bx + 1) [.int .i64 0, .int .i64 0, .slice none 0 0] hsm (Hup.out y0) (by have := Hbx.out; omega)
      simp only [World.setCells, Nat.reduceAdd] at hz
      rw [hz]
      have hc0 := hc 0 _ rfl
      have hc1 := hc 1 _ rfl
      have hc2 := hc 2 _ rfl
      exact bodyPost_ret (v := .tuple #[.agg #[.int .i64 0, .int .i64 0, .slice none 0 0], .int .i64 1]) (by simp [results, Tryd.results21, go_sem, hc0, hc1, hc2]) rfl (HB.out z)
  case neg =>
  obtain ⟨v1, v2, v3, v4, v5⟩ : ¬ size < 1 ∧ ¬ 8 < size ∧ ¬ f < 0 ∧ ¬ t < f ∧ ¬ 4294944000 < t := ⟨by omega, by omega, by omega, by omega, by omega⟩
  go_enter Tryd.func21, Tryd.ntmps21
  go_upto_region 1 with fail
  have hb0_0 : ∀ y : Since ((x.w.alloc (.cells #[.int .i64 f, .int .i64 t] 25)).alloc (.cells #[.int .i64 0, .int .i64 0, .slice none 0 0] 31)), y.w.cell? ⟨x.w.heap.size, 0, none⟩ = some (.int .i64 f) := fun y => Since.cell (by simp [go_sem]) (by first | (simp; done) | (simp; omega)) y
  have hb0_1 : ∀ y : Since ((x.w.alloc (.cells #[.int .i64 f, .int .i64 t] 25)).alloc (.cells #[.int .i64 0, .int .i64 0, .slice none 0 0] 31)), y.w.cell? ⟨x.w.heap.size, 1, none⟩ = some (.int .i64 t) := fun y => Since.cell (by simp [go_sem]) (by first | (simp; done) | (simp; omega)) y
  have hf0 : ∀ (y : Since ((x.w.alloc (.cells #[.int .i64 f, .int .i64 t] 25)).alloc (.cells #[.int .i64 0, .int .i64 0, .slice none 0 0] 31))) (o : Nat), y.w.frozen? ⟨x.w.heap.size, o, none⟩ = false := fun y o => Since.free (by simp [go_sem]) (by first | (simp; done) | (simp; omega)) y
  have hb1_0 : ∀ y : Since ((x.w.alloc (.cells #[.int .i64 f, .int .i64 t] 25)).alloc (.cells #[.int .i64 0, .int .i64 0, .slice none 0 0] 31)), y.w.cell? ⟨x.w.heap.size + 1, 0, none⟩ = some (.int .i64 0) := fun y => Since.cell (by simp [go_sem]) (by first | (simp; done) | (simp; omega)) y
  have hb1_1 : ∀ y : Since ((x.w.alloc (.cells #[.int .i64 f, .int .i64 t] 25)).alloc (.cells #[.int .i64 0, .int .i64 0, .slice none 0 0] 31)), y.w.cell? ⟨x.w.heap.size + 1, 1, none⟩ = some (.int .i64 0) := fun y => Since.cell (by simp [go_sem]) (by first | (simp; done) | (simp; omega)) y
  have hb1_2 : ∀ y : Since ((x.w.alloc (.cells #[.int .i64 f, .int .i64 t] 25)).alloc (.cells #[.int .i64 0, .int .i64 0, .slice none 0 0] 31)), y.w.cell? ⟨x.w.heap.size + 1, 2, none⟩ = some (.slice none 0 0) := fun y => Since.cell (by simp [go_sem]) (by first | (simp; done) | (simp; omega)) y
  have hf1 : ∀ (y : Since ((x.w.alloc (.cells #[.int .i64 f, .int .i64 t] 25)).alloc (.cells #[.int .i64 0, .int .i64 0, .slice none 0 0] 31))) (o : Nat), y.w.frozen? ⟨x.w.heap.size + 1, o, none⟩ = false := fun y o => Since.free (by simp [go_sem]) (by first | (simp; done) | (simp; omega)) y
  have hWup : ∃ z : Since w, ((x.w.alloc (.cells #[.int .i64 f, .int .i64 t] 25)).alloc (.cells #[.int .i64 0, .int .i64 0, .slice none 0 0] 31)) = z.w := Since.allocs x [.cells #[.int .i64 f, .int .i64 t] 25, .cells #[.int .i64 0, .int .i64 0, .slice none 0 0] 31]
  obtain ⟨y0, hy0⟩ := Since.refl ((x.w.alloc (.cells #[.int .i64 f, .int .i64 t] 25)).alloc (.cells #[.int .i64 0, .int .i64 0, .slice none 0 0] 31))
  have Hbx := Lib.hid (And.intro x.b.size (show x.w.heap.size + 2 = ((x.w.alloc (.cells #[.int .i64 f, .int .i64 t] 25)).alloc (.cells #[.int .i64 0, .int .i64 0, .slice none 0 0] 31)).heap.size from by simp))
  generalize hW : ((x.w.alloc (.cells #[.int .i64 f, .int .i64 t] 25)).alloc (.cells #[.int .i64 0, .int .i64 0, .slice none 0 0] 31)) = W at *
  clear hW
  generalize x.w.heap.size = bx at *
  have Hup := Lib.hid (Since.up hWup)
  rw [hy0]
  clear hy0
  replace HZ := Lib.hid (HZ.out.to hWup)
  replace HR := Lib.hid (HR.out.to hWup)
  clear hWup
  have Hck := Lib.hid (fun y : Since W => checked_calls W y a R c each HR.out hl)
  by_cases he : eachE R each = 0
  case neg =>
    have hne : (eachE R each != 0) = true := by simpa using he
    have HB := Lib.hid (Hno.out (eachE R each) (by unfold tabE; rw [if_neg hv, if_pos he]) he)
    clear he hv Hno Hyes
    generalize eachE R each = E at *
    go_wp2_with (go_at_call 43; ((with_reducible refine (Hck.out _).mono ?_); rintro _ _ ⟨rfl, y1, rfl⟩))
    have hsm : ∀ j, j < 3 → (y1.w.cell? ⟨bx + 1, j, none⟩).isSome = true := fun j hj => by
      match j, hj with
      | 0, _ => rw [hb1_0 y1]; rfl
      | 1, _ => rw [hb1_1 y1]; rfl
      | 2, _ => rw [hb1_2 y1]; rfl
    obtain ⟨z, hz, hc⟩ := set_many y1 (g := bx + 1) [.int .i64 0, .int .i64 0, .slice none 0 0] hsm (Hup.out y1) (by have := Hbx.out; omega)
    simp only [World.setCells, Nat.reduceAdd] at hz
    rw [hz]
    have hc0 := hc 0 _ rfl
    have hc1 := hc 1 _ rfl
    have hc2 := hc 2 _ rfl
    exact bodyPost_ret (v := .tuple #[.agg #[.int .i64 0, .int .i64 0, .slice none 0 0], .int .i64 E]) (by simp [results, Tryd.results21, go_sem, hc0, hc1, hc2]) rfl (HB.out z)
  case pos =>
  obtain ⟨e0, e1, hrz⟩ := eachE_zero he
  obtain ⟨hr256, hid, hre⟩ := ridesE_zero hrz
  have Hct := Lib.hid (fun y : Since W => show Calls Tryd.prog 44 #[.slice a R.length c, .int .i64 each] y.w (CtPost y.w R each) from counted_calls y.w (Since.self y.w) a R c each (HR.out.since y) hr256 e0 e1 hid (rides_s0 hrz))
  have Hs0 := Lib.hid (rides_s0 hrz)
  have HE := Lib.hid (show tabE zs size R f t each = if endsE zs (cntL R each f t) ≠ 0 then endsE zs (cntL R each f t) else if (cntL R each f t).any (bigR zs size) = true then 7 else 0 by unfold tabE; rw [if_neg hv, if_neg (by rw [he]; simp)])
  rw [he] at Hck
  clear he hrz hid hre hv
  obtain ⟨N, hN⟩ : ∃ N : Nat, size * size = (N : Int) := ⟨(size * size).toNat, by have := tab_mul (a := size) (b := size) (by omega); omega⟩
  have HN := Lib.hid hN
  have hNb : 1 ≤ size * size ∧ size * size ≤ 64 := tab_mul (by omega)
  obtain ⟨n1, n2⟩ := hNb
  have hN64 : N ≤ 64 := by omega
  clear hN
  go_wp2_with fail
  refine (Hck.out _).mono ?_
  rintro _ _ ⟨rfl, y1, rfl⟩
  obtain ⟨i0, hi0, hz0, hsz0, hby0⟩ := info_parts (P := Tryd.prog) (e := 3) (z := .int .i64 0) (size := 1) (bytes := 8) (by kernel_rfl)
  go_wp2_with (at_make; refine wpList_make_full _ rfl _ _ 22 rfl W.heap.size 3 i0 (.int .i64 0) 1 Tryd.underlying22 hi0 hz0 hsz0 .i64 .i64 (size * size) (size * size) N rfl rfl HN.out HN.out (by rw [hby0]; omega) (by unfold maxLen; omega) y1.b.size ?_; intro w1 hown hg1; refine Hid.out ?_)
  have hrow := own_nums hown (fun j hj => by simp [madeCells, List.getD_eq_getElem?_getD, hj]; show (#[Value.int .i64 0] : Array Value)[j % 1]! = _; rw [Nat.mod_one]; rfl)
  obtain ⟨y2, hy2⟩ := y1.grown hg1 (fun k hk => by cases hk)
  have Hgc := Lib.hid y1.b.size
  subst hy2
  clear hown hg1 hi0 hz0 hsz0 hby0
  generalize y1.w.heap.size = gc at *
  have Hrow := Lib.hid hrow
  clear hrow Hck
  refine Lib.hid ?_
  go_upto_region 8 with fail
  have hx0 : (y2.w.alloc (.cells #[.int .i64 size, .int .i64 size, .slice (some ⟨gc, 0, none⟩) N N] 31)).cell? ⟨y2.w.heap.size, 0, none⟩ = some (.int .i64 size) := by simp [go_sem]
  have hx1 : (y2.w.alloc (.cells #[.int .i64 size, .int .i64 size, .slice (some ⟨gc, 0, none⟩) N N] 31)).cell? ⟨y2.w.heap.size, 1, none⟩ = some (.int .i64 size) := by simp [go_sem]
  have hx2 : (y2.w.alloc (.cells #[.int .i64 size, .int .i64 size, .slice (some ⟨gc, 0, none⟩) N N] 31)).cell? ⟨y2.w.heap.size, 2, none⟩ = some (.slice (some ⟨gc, 0, none⟩) N N) := by simp [go_sem]
  have hxf : ∀ o, (y2.w.alloc (.cells #[.int .i64 size, .int .i64 size, .slice (some ⟨gc, 0, none⟩) N N] 31)).frozen? ⟨y2.w.heap.size, o, none⟩ = false := fun o => by simp [go_sem]
  have hlt0 : y2.w.heap.size < (y2.w.alloc (.cells #[.int .i64 size, .int .i64 size, .slice (some ⟨gc, 0, none⟩) N N] 31)).heap.size := by simp
  have hst0 : ∃ zz : Since y2.w, (y2.w.alloc (.cells #[.int .i64 size, .int .i64 size, .slice (some ⟨gc, 0, none⟩) N N] 31)) = zz.w := IsSince.alloc (IsSince.self _) _
  have hsz0 := y2.b.size
  obtain ⟨y3, e2⟩ := IsSince.alloc (IsSince.of y2) (.cells #[.int .i64 size, .int .i64 size, .slice (some ⟨gc, 0, none⟩) N N] 31)
  rw [e2] at hx0 hx1 hx2 hxf hlt0 hst0 ⊢
  (have hlt3 := Hrow.out.lt; replace Hrow := Lib.hid (Hrow.out.to hst0); have hbx := BoxIs.new y2.w [.int .i64 size, .int .i64 size, .slice (some ⟨gc, 0, none⟩) N N] 31; rw [e2] at hbx)
  clear e2 hst0
  generalize y2.w.heap.size = gt at *
  have Hhx0 : ∀ q : Since y3.w, q.w.cell? ⟨gt, 0, none⟩ = some (.int .i64 size) := fun q => Since.cell hx0 (by omega) q
  have Hhx1 : ∀ q : Since y3.w, q.w.cell? ⟨gt, 1, none⟩ = some (.int .i64 size) := fun q => Since.cell hx1 (by omega) q
  have Hhx2 : ∀ q : Since y3.w, q.w.cell? ⟨gt, 2, none⟩ = some (.slice (some ⟨gc, 0, none⟩) N N) := fun q => Since.cell hx2 (by omega) q
  have Hhxf : ∀ (q : Since y3.w) (o : Nat), q.w.frozen? ⟨gt, o, none⟩ = false := fun q o => Since.free (hxf o) (by omega) q
  have Hhxg := Lib.hid (And.intro hsz0 hlt0)
  clear hlt0 hsz0
  have Hbt := Lib.hid hbx
  have Hlt3 := Lib.hid hlt3
  clear hbx hlt3 hx0 hx1 hx2 hxf Hhx0 Hhx1 Hhx2 Hhxf
  go_wp2_with fail
  refine (Hct.out y3).mono ?_
  rintro _ _ ⟨g, z4, rfl, rfl, hg, hbl⟩
  obtain ⟨y4, h4⟩ := y3.trans z4
  have hT0 : TbAt z4.w g gc gt R.length N size (fun i => ctd R each (rAt R i)) (fun i => celN zs size ((R.take 0).filter (cP R each f t)) i) := ⟨hbl, (Nums.congr (Hrow.out.since z4) (fun j hj => by simp [celN])), Hbt.out.to ⟨z4, rfl⟩⟩
  have Hgn := Lib.hid (show gc ≠ g ∧ gt ≠ g by have h1 := Hrow.out.lt; have h2 := Hbt.out.lt; exact ⟨by omega, by omega⟩)
  rw [h4] at hT0 ⊢
  have HT := Lib.hid hT0
  clear hT0 h4 hbl hg Hct Hrow Hbt
  go_wp2_with fail
  go_loopw [14, 63] (fun sv i wr => ∃ (k : Nat) (y : Since W) (sm : Bool), k ≤ R.length ∧ sv = .bool sm ∧ sm = (!(((R.take k).filter (cP R each f t)).any (bigR zs size))) ∧ i = .int .i64 (k : Int) ∧ wr = y.w ∧ TbAt y.w g gc gt R.length N size (fun i => ctd R each (rAt R i)) (fun i => celN zs size ((R.take k).filter (cP R each f t)) i) ∧ (∀ r ∈ (R.take k).filter (cP R each f t), endE zs r = 0)) (fun _ i _ => R.length - (intOf i).toNat)
  case atStart => exact ⟨0, y4, true, by omega, rfl, rfl, rfl, rfl, HT.out, fun r hr => by simp at hr⟩
  case round =>
    clear HT
    obtain ⟨k, y, sm, hk, rfl, hsm, rfl, rfl, hT, h0⟩ := hrel
    have HT := Lib.hid hT; have H0 := Lib.hid h0; have Hsm := Lib.hid hsm
    clear hT h0 hsm
    by_cases hlt : k < R.length
    · obtain ⟨e, he⟩ : ∃ e, R[k]? = some e := ⟨_, List.getElem?_eq_getElem hlt⟩
      have hk0 : (0 : Int) ≤ (k : Int) := by omega
      have hkl : (k : Int) < (R.length : Int) := by omega
      have hbc := HT.out.bl.c k hlt
      rw [rAt_eq he] at hbc
      have hbf := HT.out.bl.f k hlt
      have Hpk := Lib.hid (pick_take R (cP R each f t) k e he)
      have Hea := Lib.hid (show endE zs e ≠ 0 → cP R each f t e = true → endsE zs (cntL R each f t) = endE zs e from fun hn hp => by rw [cntL_eq]; exact endsE_at he hp hn H0.out)
      obtain ⟨hI1, hI2⟩ := HI.out e (List.mem_of_getElem? he)
      obtain ⟨b1, off1, rfl, h1'⟩ := Els.ride HR.out.c he
      have ra0 := h1'.c0
      have ra1 := h1'.c1
      have ra2 := h1'.c2
      have ra3 := h1'.c3
      have ra4 := h1'.c4
      have ra5 := h1'.c5
      have ra6 := h1'.c6
      have ra7 := h1'.c7
      have ra8 := h1'.c8
      have ra9 := h1'.c9
      have ra10 := h1'.c10
      have ra11 := h1'.c11
      have ra12 := h1'.c12
      clear h1' he
      go_upto_region 12 with fail
      have hx0 : (y.w.alloc (.cells #[.int .i64 e.id, .int .i64 e.rd, .int .i64 e.s0, .int .i64 e.s1, .int .i64 e.e0, .int .i64 e.e1, .bool e.op, .slice e.la e.legs.length e.lc, .slice e.pa e.pauses.length e.pc, .int .i64 e.fw, .int .i64 e.fp, .int .i64 e.wh, .int .i64 e.pl] 73)).cell? ⟨y.w.heap.size, 0, none⟩ = some (.int .i64 e.id) := by simp [go_sem]
      have hx1 : (y.w.alloc (.cells #[.int .i64 e.id, .int .i64 e.rd, .int .i64 e.s0, .int .i64 e.s1, .int .i64 e.e0, .int .i64 e.e1, .bool e.op, .slice e.la e.legs.length e.lc, .slice e.pa e.pauses.length e.pc, .int .i64 e.fw, .int .i64 e.fp, .int .i64 e.wh, .int .i64 e.pl] 73)).cell? ⟨y.w.heap.size, 1, none⟩ = some (.int .i64 e.rd) := by simp [go_sem]
      have hx2 : (y.w.alloc (.cells #[.int .i64 e.id, .int .i64 e.rd, .int .i64 e.s0, .int .i64 e.s1, .int .i64 e.e0, .int .i64 e.e1, .bool e.op, .slice e.la e.legs.length e.lc, .slice e.pa e.pauses.length e.pc, .int .i64 e.fw, .int .i64 e.fp, .int .i64 e.wh, .int .i64 e.pl] 73)).cell? ⟨y.w.heap.size, 2, none⟩ = some (.int .i64 e.s0) := by simp [go_sem]
      have hx3 : (y.w.alloc (.cells #[.int .i64 e.id, .int .i64 e.rd, .int .i64 e.s0, .int .i64 e.s1, .int .i64 e.e0, .int .i64 e.e1, .bool e.op, .slice e.la e.legs.length e.lc, .slice e.pa e.pauses.length e.pc, .int .i64 e.fw, .int .i64 e.fp, .int .i64 e.wh, .int .i64 e.pl] 73)).cell? ⟨y.w.heap.size, 3, none⟩ = some (.int .i64 e.s1) := by simp [go_sem]
      have hx4 : (y.w.alloc (.cells #[.int .i64 e.id, .int .i64 e.rd, .int .i64 e.s0, .int .i64 e.s1, .int .i64 e.e0, .int .i64 e.e1, .bool e.op, .slice e.la e.legs.length e.lc, .slice e.pa e.pauses.length e.pc, .int .i64 e.fw, .int .i64 e.fp, .int .i64 e.wh, .int .i64 e.pl] 73)).cell? ⟨y.w.heap.size, 4, none⟩ = some (.int .i64 e.e0) := by simp [go_sem]
      have hx5 : (y.w.alloc (.cells #[.int .i64 e.id, .int .i64 e.rd, .int .i64 e.s0, .int .i64 e.s1, .int .i64 e.e0, .int .i64 e.e1, .bool e.op, .slice e.la e.legs.length e.lc, .slice e.pa e.pauses.length e.pc, .int .i64 e.fw, .int .i64 e.fp, .int .i64 e.wh, .int .i64 e.pl] 73)).cell? ⟨y.w.heap.size, 5, none⟩ = some (.int .i64 e.e1) := by simp [go_sem]
      have hx6 : (y.w.alloc (.cells #[.int .i64 e.id, .int .i64 e.rd, .int .i64 e.s0, .int .i64 e.s1, .int .i64 e.e0, .int .i64 e.e1, .bool e.op, .slice e.la e.legs.length e.lc, .slice e.pa e.pauses.length e.pc, .int .i64 e.fw, .int .i64 e.fp, .int .i64 e.wh, .int .i64 e.pl] 73)).cell? ⟨y.w.heap.size, 6, none⟩ = some (.bool e.op) := by simp [go_sem]
      have hx7 : (y.w.alloc (.cells #[.int .i64 e.id, .int .i64 e.rd, .int .i64 e.s0, .int .i64 e.s1, .int .i64 e.e0, .int .i64 e.e1, .bool e.op, .slice e.la e.legs.length e.lc, .slice e.pa e.pauses.length e.pc, .int .i64 e.fw, .int .i64 e.fp, .int .i64 e.wh, .int .i64 e.pl] 73)).cell? ⟨y.w.heap.size, 7, none⟩ = some (.slice e.la e.legs.length e.lc) := by simp [go_sem]
      have hx8 : (y.w.alloc (.cells #[.int .i64 e.id, .int .i64 e.rd, .int .i64 e.s0, .int .i64 e.s1, .int .i64 e.e0, .int .i64 e.e1, .bool e.op, .slice e.la e.legs.length e.lc, .slice e.pa e.pauses.length e.pc, .int .i64 e.fw, .int .i64 e.fp, .int .i64 e.wh, .int .i64 e.pl] 73)).cell? ⟨y.w.heap.size, 8, none⟩ = some (.slice e.pa e.pauses.length e.pc) := by simp [go_sem]
      have hx9 : (y.w.alloc (.cells #[.int .i64 e.id, .int .i64 e.rd, .int .i64 e.s0, .int .i64 e.s1, .int .i64 e.e0, .int .i64 e.e1, .bool e.op, .slice e.la e.legs.length e.lc, .slice e.pa e.pauses.length e.pc, .int .i64 e.fw, .int .i64 e.fp, .int .i64 e.wh, .int .i64 e.pl] 73)).cell? ⟨y.w.heap.size, 9, none⟩ = some (.int .i64 e.fw) := by simp [go_sem]
      have hx10 : (y.w.alloc (.cells #[.int .i64 e.id, .int .i64 e.rd, .int .i64 e.s0, .int .i64 e.s1, .int .i64 e.e0, .int .i64 e.e1, .bool e.op, .slice e.la e.legs.length e.lc, .slice e.pa e.pauses.length e.pc, .int .i64 e.fw, .int .i64 e.fp, .int .i64 e.wh, .int .i64 e.pl] 73)).cell? ⟨y.w.heap.size, 10, none⟩ = some (.int .i64 e.fp) := by simp [go_sem]
      have hx11 : (y.w.alloc (.cells #[.int .i64 e.id, .int .i64 e.rd, .int .i64 e.s0, .int .i64 e.s1, .int .i64 e.e0, .int .i64 e.e1, .bool e.op, .slice e.la e.legs.length e.lc, .slice e.pa e.pauses.length e.pc, .int .i64 e.fw, .int .i64 e.fp, .int .i64 e.wh, .int .i64 e.pl] 73)).cell? ⟨y.w.heap.size, 11, none⟩ = some (.int .i64 e.wh) := by simp [go_sem]
      have hx12 : (y.w.alloc (.cells #[.int .i64 e.id, .int .i64 e.rd, .int .i64 e.s0, .int .i64 e.s1, .int .i64 e.e0, .int .i64 e.e1, .bool e.op, .slice e.la e.legs.length e.lc, .slice e.pa e.pauses.length e.pc, .int .i64 e.fw, .int .i64 e.fp, .int .i64 e.wh, .int .i64 e.pl] 73)).cell? ⟨y.w.heap.size, 12, none⟩ = some (.int .i64 e.pl) := by simp [go_sem]
      have hxf : ∀ o, (y.w.alloc (.cells #[.int .i64 e.id, .int .i64 e.rd, .int .i64 e.s0, .int .i64 e.s1, .int .i64 e.e0, .int .i64 e.e1, .bool e.op, .slice e.la e.legs.length e.lc, .slice e.pa e.pauses.length e.pc, .int .i64 e.fw, .int .i64 e.fp, .int .i64 e.wh, .int .i64 e.pl] 73)).frozen? ⟨y.w.heap.size, o, none⟩ = false := fun o => by simp [go_sem]
      have hlt0 : y.w.heap.size < (y.w.alloc (.cells #[.int .i64 e.id, .int .i64 e.rd, .int .i64 e.s0, .int .i64 e.s1, .int .i64 e.e0, .int .i64 e.e1, .bool e.op, .slice e.la e.legs.length e.lc, .slice e.pa e.pauses.length e.pc, .int .i64 e.fw, .int .i64 e.fp, .int .i64 e.wh, .int .i64 e.pl] 73)).heap.size := by simp
      have hst0 : ∃ zz : Since y.w, (y.w.alloc (.cells #[.int .i64 e.id, .int .i64 e.rd, .int .i64 e.s0, .int .i64 e.s1, .int .i64 e.e0, .int .i64 e.e1, .bool e.op, .slice e.la e.legs.length e.lc, .slice e.pa e.pauses.length e.pc, .int .i64 e.fw, .int .i64 e.fp, .int .i64 e.wh, .int .i64 e.pl] 73)) = zz.w := IsSince.alloc (IsSince.self _) _
      have hsz0 := y.b.size
      obtain ⟨y5, e2⟩ := IsSince.alloc (IsSince.of y) (.cells #[.int .i64 e.id, .int .i64 e.rd, .int .i64 e.s0, .int .i64 e.s1, .int .i64 e.e0, .int .i64 e.e1, .bool e.op, .slice e.la e.legs.length e.lc, .slice e.pa e.pauses.length e.pc, .int .i64 e.fw, .int .i64 e.fp, .int .i64 e.wh, .int .i64 e.pl] 73)
      rw [e2] at hx0 hx1 hx2 hx3 hx4 hx5 hx6 hx7 hx8 hx9 hx10 hx11 hx12 hxf hlt0 hst0 ⊢
      (replace HT := Lib.hid (HT.out.to hst0))
      clear e2 hst0
      generalize y.w.heap.size = gr at *
      have Hhx0 : ∀ q : Since y5.w, q.w.cell? ⟨gr, 0, none⟩ = some (.int .i64 e.id) := fun q => Since.cell hx0 (by omega) q
      have Hhx1 : ∀ q : Since y5.w, q.w.cell? ⟨gr, 1, none⟩ = some (.int .i64 e.rd) := fun q => Since.cell hx1 (by omega) q
      have Hhx2 : ∀ q : Since y5.w, q.w.cell? ⟨gr, 2, none⟩ = some (.int .i64 e.s0) := fun q => Since.cell hx2 (by omega) q
      have Hhx3 : ∀ q : Since y5.w, q.w.cell? ⟨gr, 3, none⟩ = some (.int .i64 e.s1) := fun q => Since.cell hx3 (by omega) q
      have Hhx4 : ∀ q : Since y5.w, q.w.cell? ⟨gr, 4, none⟩ = some (.int .i64 e.e0) := fun q => Since.cell hx4 (by omega) q
      have Hhx5 : ∀ q : Since y5.w, q.w.cell? ⟨gr, 5, none⟩ = some (.int .i64 e.e1) := fun q => Since.cell hx5 (by omega) q
      have Hhx6 : ∀ q : Since y5.w, q.w.cell? ⟨gr, 6, none⟩ = some (.bool e.op) := fun q => Since.cell hx6 (by omega) q
      have Hhx7 : ∀ q : Since y5.w, q.w.cell? ⟨gr, 7, none⟩ = some (.slice e.la e.legs.length e.lc) := fun q => Since.cell hx7 (by omega) q
      have Hhx8 : ∀ q : Since y5.w, q.w.cell? ⟨gr, 8, none⟩ = some (.slice e.pa e.pauses.length e.pc) := fun q => Since.cell hx8 (by omega) q
      have Hhx9 : ∀ q : Since y5.w, q.w.cell? ⟨gr, 9, none⟩ = some (.int .i64 e.fw) := fun q => Since.cell hx9 (by omega) q
      have Hhx10 : ∀ q : Since y5.w, q.w.cell? ⟨gr, 10, none⟩ = some (.int .i64 e.fp) := fun q => Since.cell hx10 (by omega) q
      have Hhx11 : ∀ q : Since y5.w, q.w.cell? ⟨gr, 11, none⟩ = some (.int .i64 e.wh) := fun q => Since.cell hx11 (by omega) q
      have Hhx12 : ∀ q : Since y5.w, q.w.cell? ⟨gr, 12, none⟩ = some (.int .i64 e.pl) := fun q => Since.cell hx12 (by omega) q
      have Hhxf : ∀ (q : Since y5.w) (o : Nat), q.w.frozen? ⟨gr, o, none⟩ = false := fun q o => Since.free (hxf o) (by omega) q
      have Hhxg := Lib.hid (And.intro hsz0 hlt0)
      clear hlt0 hsz0
      clear hbc hbf Hhx0 Hhx1 Hhx2 Hhx3 Hhx4 Hhx5 Hhx6 Hhx7 Hhx8 Hhx9 Hhx10 Hhx11 Hhx12 Hhxf ra0 ra1 ra2 ra3 ra4 ra5 ra6 ra7 ra8 ra9 ra10 ra11 ra12
      by_cases hp : cP R each f t e = true
      case neg =>
        have hpf : cP R each f t e = false := by simpa using hp
        have Hsk := Lib.hid (show (R.take (k + 1)).filter (cP R each f t) = (R.take k).filter (cP R each f t) by rw [Hpk.out, hpf]; simp)
        have hno := cP_no hpf
        clear hp hpf Hpk Hea
        generalize ctd R each e = ct at *
        rcases hno with rfl | ⟨rfl, c2⟩ | ⟨rfl, c2, c3⟩ | ⟨rfl, c2, c3, c4, c5⟩
        all_goals
          go_wp2_with fail
          go_roundw
          case rel => refine ⟨k + 1, y5, sm, by omega, rfl, ?_, by go_num, rfl, ?_, ?_⟩ <;> rw [Hsk.out] <;> first | exact Hsm.out | exact HT.out | exact H0.out
          case measure => simp [intOf] <;> omega
      case pos =>
        obtain ⟨hct, c2, c3, c4⟩ := cP_yes hp
        rw [hct]
        have Hea2 := Lib.hid (fun hn => Hea.out hn hp)
        have Hpk2 := Lib.hid (show (R.take (k + 1)).filter (cP R each f t) = (R.take k).filter (cP R each f t) ++ [e] by rw [Hpk.out, hp]; simp)
        clear hct Hea Hpk hp
        have Hen := Lib.hid (show Calls Tryd.prog 45 #[.slice az zs.length cz, .int .i64 size, .agg #[.int .i64 e.id, .int .i64 e.rd, .int .i64 e.s0, .int .i64 e.s1, .int .i64 e.e0, .int .i64 e.e1, .bool e.op, .slice e.la e.legs.length e.lc, .slice e.pa e.pauses.length e.pc, .int .i64 e.fw, .int .i64 e.fp, .int .i64 e.wh, .int .i64 e.pl]] y5.w (EndRes zs e y5.w) from ends_calls y5.w (Since.self y5.w) az zs cz size e (Since.row HZ.out y5) hzl hI1 hI2)
        have hLl : ((R.take k).filter (cP R each f t)).length ≤ 256 := by
          have h1 := List.length_filter_le (cP R each f t) (R.take k)
          rw [List.length_take] at h1
          omega
        generalize (R.take k).filter (cP R each f t) = L at *
        rcases c4 with c4 | ⟨c4, c5⟩
        all_goals
          first
            | rw [c4] at Hen
            | rw [c5] at Hen
          go_wp2_with fail
          refine (Hen.out).mono ?_
          rintro _ _ ⟨rfl, z6, rfl⟩
          have hT6 := HT.out.to ⟨z6, rfl⟩
          obtain ⟨y6, h6⟩ := y5.trans z6
          rw [h6] at hT6 ⊢
          have HT6 := Lib.hid hT6
          clear hT6 h6 HT Hen hx0 hx1 hx2 hx3 hx4 hx5 hx6 hx7 hx8 hx9 hx10 hx11 hx12 hxf c2 c3 c4
          by_cases hne : endE zs e = 0
          case neg =>
            have HB := Lib.hid (Hno.out (endE zs e) (HE.out.trans (by rw [Hea2.out hne, if_pos hne])) hne)
            have hne2 : (endE zs e != 0) = true := by simpa using hne
            clear hne HE Hea2 Hyes Hno
            generalize endE zs e = E at *
            generalize endA zs e = A at *
            generalize endB zs e = B at *
            go_wp2_with fail
            have hsm : ∀ j, j < 3 → (y6.w.cell? ⟨bx + 1, j, none⟩).isSome = true := fun j hj => by
              match j, hj with
              | 0, _ => rw [hb1_0 y6]; rfl
              | 1, _ => rw [hb1_1 y6]; rfl
              | 2, _ => rw [hb1_2 y6]; rfl
            obtain ⟨z, hz, hc⟩ := set_many y6 (g := bx + 1) [.int .i64 0, .int .i64 0, .slice none 0 0] hsm (Hup.out y6) (by have := Hbx.out; omega)
            simp only [World.setCells, Nat.reduceAdd] at hz
            rw [hz]
            have hc0 := hc 0 _ rfl
            have hc1 := hc 1 _ rfl
            have hc2 := hc 2 _ rfl
            exact bodyPost_ret (v := .tuple #[.agg #[.int .i64 0, .int .i64 0, .slice none 0 0], .int .i64 E]) (by simp [results, Tryd.results21, go_sem, hc0, hc1, hc2]) rfl (HB.out z)
          case pos =>
            obtain ⟨eA, eB, ⟨a1, a2⟩, b1', b2'⟩ := ends_zero hne
            have Hall := Lib.hid (show ∀ r ∈ L ++ [e], endE zs r = 0 from fun r hr => by
              rcases List.mem_append.1 hr with h | h
              · exact H0.out r h
              · rw [List.mem_singleton.1 h]; exact hne)
            have Hbg := Lib.hid (show bigR zs size e = (decide (size ≤ fromZ zs e) || decide (size ≤ toZ zs e)) from rfl)
            have Hcl := Lib.hid (show celR zs size e = fromZ zs e * size + toZ zs e from rfl)
            rw [hne, eA, eB]
            clear hne eA eB
            generalize fromZ zs e = A at *
            generalize toZ zs e = B at *
            by_cases hbig : size ≤ A ∨ size ≤ B
            · have Hb1 := Lib.hid (show bigR zs size e = true by rw [Hbg.out]; simpa using hbig)
              have HT7 := Lib.hid (show TbAt y6.w g gc gt R.length N size (fun i => ctd R each (rAt R i)) (fun i => celN zs size (L ++ [e]) i) from ⟨HT6.out.bl, HT6.out.cl.congr (fun j _ => by rw [celN_snoc, Hb1.out]; simp), HT6.out.bx⟩)
              rcases (by omega : size ≤ A ∨ (¬ size ≤ A ∧ size ≤ B)) with c6 | ⟨c6, c7⟩
              all_goals
                clear hbig
                go_wp2_with fail
                go_roundw
                case rel => refine ⟨k + 1, y6, false, by omega, rfl, ?_, by go_num, rfl, ?_, ?_⟩ <;> rw [Hpk2.out] <;> first | exact HT7.out | exact Hall.out | (rw [List.any_append]; simp [Hb1.out])
                case measure => simp [intOf] <;> omega
            · obtain ⟨c6, c7⟩ : ¬ size ≤ A ∧ ¬ size ≤ B := by omega
              have Hb1 := Lib.hid (show bigR zs size e = false by rw [Hbg.out]; simp; omega)
              obtain ⟨i1, i2, i3, i4⟩ := tab_idx a1 (by omega : A < size) b1' (by omega : B < size) (by omega)
              obtain ⟨m, hm⟩ : ∃ m : Nat, A * size + B = (m : Int) := ⟨(A * size + B).toNat, by omega⟩
              have hmN : m < N := by have := HN.out; omega
              obtain ⟨n3, n4⟩ := celN_range zs size L m
              have q0 := HT6.out.cl.c m hmN
              have q1 := HT6.out.cl.f m hmN
              have q2 := HT6.out.bx.c 2 _ rfl
              obtain ⟨y7, h7⟩ := y6.set ⟨gc, m, none⟩ Hgc.out (.int .i64 (celN zs size L m + 1))
              have Hset := Lib.hid (show TbAt (y6.w.setCell ⟨gc, m, none⟩ (.int .i64 (celN zs size L m + 1))) g gc gt R.length N size (fun i => ctd R each (rAt R i)) (fun i => celN zs size (L ++ [e]) i) from ⟨HT6.out.bl.setNe _ _ Hgn.out.1, HT6.out.cl.set hmN _ (by rw [celN_snoc, Hb1.out, Hcl.out, hm]; simp) (fun j _ hj => by rw [celN_snoc, Hcl.out, hm, if_neg (fun h => by simp at h; exact hj (by have := h.2; omega))]; simp), HT6.out.bx.setNe _ _ (show gt ≠ gc by have := Hlt3.out; omega)⟩)
              have H7 := Lib.hid h7
              clear h7 hbig Hbg Hcl
              go_wp2_with fail
              go_roundw
              case rel => refine ⟨k + 1, y7, sm, by omega, rfl, ?_, by go_num, H7.out, ?_, ?_⟩ <;> rw [Hpk2.out] <;> first | exact H7.out ▸ Hset.out | exact Hall.out | (rw [List.any_append]; simp [Hb1.out]; exact Hsm.out)
              case measure => simp [intOf] <;> omega
    · obtain rfl : k = R.length := by omega
      have hE2 := Lib.hid (HE.out.trans (if_neg (by rw [cntL_eq, endsE_no (by have := H0.out; rwa [List.take_of_length_le (Nat.le_refl _)] at this)]; simp)))
      have Hsm2 := Lib.hid (show sm = (!((cntL R each f t).any (bigR zs size))) by rw [cntL_eq]; have := Hsm.out; rwa [List.take_of_length_le (Nat.le_refl _)] at this)
      cases sm
      case false =>
        have HB := Lib.hid (Hno.out 7 (hE2.out.trans (if_pos (sm_f Hsm2.out))) (by decide))
        clear HE hE2 Hsm Hsm2 H0 HT
        go_wp2_with fail
        have hsm : ∀ j, j < 3 → (y.w.cell? ⟨bx + 1, j, none⟩).isSome = true := fun j hj => by
          match j, hj with
          | 0, _ => rw [hb1_0 y]; rfl
          | 1, _ => rw [hb1_1 y]; rfl
          | 2, _ => rw [hb1_2 y]; rfl
        obtain ⟨z, hz, hc⟩ := set_many y (g := bx + 1) [.int .i64 0, .int .i64 0, .slice none 0 0] hsm (Hup.out y) (by have := Hbx.out; omega)
        simp only [World.setCells, Nat.reduceAdd] at hz
        rw [hz]
        have hc0 := hc 0 _ rfl
        have hc1 := hc 1 _ rfl
        have hc2 := hc 2 _ rfl
        exact bodyPost_ret (v := .tuple #[.agg #[.int .i64 0, .int .i64 0, .slice none 0 0], .int .i64 7]) (by simp [results, Tryd.results21, go_sem, hc0, hc1, hc2]) rfl (HB.out z)
      case true =>
        have hE3 : tabE zs size R f t each = 0 := hE2.out.trans (if_neg (sm_t Hsm2.out))
        have hlt2 : bx + 1 ≠ gc := by
          have h1 := Hbx.out
          have h2 := Hgc.out
          omega
        have hN9 := ((HT.out.cl.setOther ⟨bx + 1, 0, none⟩ hlt2 (.int .i64 size)).setOther ⟨bx + 1, 1, none⟩ hlt2 (.int .i64 size)).setOther ⟨bx + 1, 2, none⟩ hlt2 (.slice (some ⟨gc, 0, none⟩) N N)
        rw [List.take_of_length_le (Nat.le_refl _), ← cntL_eq] at hN9
        have HB := Lib.hid (fun z hv hz => Hyes.out hE3 (cells zs size (cntL R each f t)) rfl (some ⟨gc, 0, none⟩) N N (by unfold cells; rw [List.length_map, List.length_range]; have := HN.out; omega) z hv hz (Nat.le_refl _) (fun b hb => by cases hb; have h1 := Hbx.out; have h2 := Hgc.out; show w.heap.size ≤ gc; omega))
        have HN9 := Lib.hid (fun W' (hW : _ = W') => (show Nums W' gc N (celN zs size (cntL R each f t)) from hW ▸ hN9))
        clear hN9 hlt2
        have q0 := HT.out.bx.c 0 _ rfl
        have q1 := HT.out.bx.c 1 _ rfl
        have q2 := HT.out.bx.c 2 _ rfl
        clear HE hE2 hE3 Hsm Hsm2 H0
        go_wp2_with fail
        have hsm : ∀ j, j < 3 → (y.w.cell? ⟨bx + 1, j, none⟩).isSome = true := fun j hj => by
          match j, hj with
          | 0, _ => rw [hb1_0 y]; rfl
          | 1, _ => rw [hb1_1 y]; rfl
          | 2, _ => rw [hb1_2 y]; rfl
        obtain ⟨z, hz, hc⟩ := set_many y (g := bx + 1) [.int .i64 size, .int .i64 size, .slice (some ⟨gc, 0, none⟩) N N] hsm (Hup.out y) (by have := Hbx.out; omega)
        simp only [World.setCells, Nat.reduceAdd] at hz
        rw [hz]
        have hc0 := hc 0 _ rfl
        have hc1 := hc 1 _ rfl
        have hc2 := hc 2 _ rfl
        exact bodyPost_ret (v := .tuple #[.agg #[.int .i64 size, .int .i64 size, .slice (some ⟨gc, 0, none⟩) N N], .int .i64 0]) (by simp [results, Tryd.results21, go_sem, hc0, hc1, hc2]) rfl (HB.out z (fun b hb => by cases hb; exact ⟨gc, rfl, nums_vals (HN9.out _ hz) _ (by have := HN.out; omega)⟩) (nums_row (HN9.out _ hz) _ (by have := HN.out; omega)))
end Go.Proofs.YtdkcclngionihaaDoor
/- Trips between zones, the reference: Table. -/
namespace Go.Proofs.YtdkcclngionihaaDoor
open Go.RowKit Go.ChangeMaps

theorem endsE_at' {zs : List Int} {L : List Ride} {k : Nat} {e : Ride} (h : L[k]? = some e) (he : endE zs e ≠ 0) (hn : ∀ r ∈ L.take k, endE zs r = 0) : endsE zs L = endE zs e := by
  have := endsE_at (p := fun _ => true) h rfl he (by rw [List.filter_eq_self.2 (fun _ _ => rfl)]; exact hn)
  rwa [List.filter_eq_self.2 (fun _ _ => rfl)] at this
/-- what the rounds keep -/
structure CbAt (w : World) (gc gt N : Nat) (size : Int) (f : Nat → Int) : Prop where
  cl : Nums w gc N f
  bx : BoxIs w gt [.int .i64 size, .int .i64 size, .slice (some ⟨gc, 0, none⟩) N N]
theorem CbAt.to {w W : World} {gc gt N : Nat} {size : Int} {f : Nat → Int} (h : CbAt w gc gt N size f) (hW : ∃ z : Since w, W = z.w) : CbAt W gc gt N size f := ⟨h.cl.to hW, h.bx.to hW⟩
set_option maxRecDepth 100000 in
set_option maxHeartbeats 16000000 in
theorem rtable_calls (w : World) (x : Since w) (az : Option Addr) (zs : List Int) (cz : Nat) (size : Int) (a : Option Addr) (R : List Ride) (c : Nat) (f t each : Int) (hz : IntRow w az zs) (hzl : zs.length ≤ 9223372036854775807) (h : RideRow w a R) (hl : R.length ≤ 9223372036854775807) (hI : ∀ r ∈ R, r.fp ≤ 9223372036854775807 ∧ r.pl ≤ 9223372036854775807) :
    Calls Tryd.prog 33 #[.slice az zs.length cz, .int .i64 size, .slice a R.length c, .agg #[.int .i64 f, .int .i64 t], .int .i64 each] x.w (TabRes w (tabV zs size R f t each) (tabE zs size R f t each)) := by
  have HZ := Lib.hid hz
  have HR := Lib.hid h
  have HI := Lib.hid hI
  have Hno := Lib.hid (fun (e : Int) (he : tabE zs size R f t each = e) (hne : e ≠ 0) (y : Since w) => show TabRes w (tabV zs size R f t each) (tabE zs size R f t each) (.returned (.tuple #[.agg #[.int .i64 0, .int .i64 0, .slice none 0 0], .int .i64 e])) y.w from by
    subst he
    have : tabV zs size R f t each = tab0 := if_neg hne
    rw [this]
    exact ⟨none, 0, y, rfl, rfl, row_nil' _, Nat.le_refl _, fun b hb => (by cases hb), fun b hb => by cases hb⟩)
  have Hyes := Lib.hid (fun (he : tabE zs size R f t each = 0) (l : List Int) (hl : l = cells zs size (cntL R each f t)) (a' : Option Addr) (n c' : Nat) (hn : l.length = n) (y : Since w) (hv : ∀ b, a' = some b → ∃ g, b = ⟨g, 0, none⟩ ∧ Nums y.w g l.length (at0 l)) (hr : IntRow y.w a' l) (hc : n ≤ c') (ha : ∀ b, a' = some b → w.heap.size ≤ b.block) => show TabRes w (tabV zs size R f t each) (tabE zs size R f t each) (.returned (.tuple #[.agg #[.int .i64 size, .int .i64 size, .slice a' n c'], .int .i64 0])) y.w from by
    have : tabV zs size R f t each = ⟨size, size, cells zs size (cntL R each f t)⟩ := if_pos he
    rw [this, he]
    subst hl
    subst hn
    exact ⟨a', c', y, rfl, rfl, hr, hc, ha, hv⟩)
  generalize TabRes w (tabV zs size R f t each) (tabE zs size R f t each) = PO at *
  clear hz h hI
  by_cases hv : size < 1 ∨ 8 < size ∨ f < 0 ∨ t < f ∨ 4294944000 < t
  case pos =>
    have HB := Lib.hid (Hno.out 1 (if_pos hv) (by decide))
    rcases (by omega : size < 1 ∨ (¬ size < 1 ∧ 8 < size) ∨ (¬ size < 1 ∧ ¬ 8 < size ∧ f < 0) ∨ (¬ size < 1 ∧ ¬ 8 < size ∧ ¬ f < 0 ∧ t < f) ∨ (¬ size < 1 ∧ ¬ 8 < size ∧ ¬ f < 0 ∧ ¬ t < f ∧ 4294944000 < t)) with h1 | ⟨h1, h2⟩ | ⟨h1, h2, h3⟩ | ⟨h1, h2, h3, h4⟩ | ⟨h1, h2, h3, h4, h5⟩
    all_goals
      clear hv Hno Hyes
      go_enter Tryd.func33, Tryd.ntmps33
      go_upto_region 1 with fail
      have hb0_0 : ∀ y : Since ((x.w.alloc (.cells #[.int .i64 f, .int .i64 t] 25)).alloc (.cells #[.int .i64 0, .int .i64 0, .slice none 0 0] 31)), y.w.cell? ⟨x.w.heap.size, 0, none⟩ = some (.int .i64 f) := fun y => Since.cell (by simp [go_sem]) (by first | (simp; done) | (simp; omega)) y
      have hb0_1 : ∀ y : Since ((x.w.alloc (.cells #[.int .i64 f, .int .i64 t] 25)).alloc (.cells #[.int .i64 0, .int .i64 0, .slice none 0 0] 31)), y.w.cell? ⟨x.w.heap.size, 1, none⟩ = some (.int .i64 t) := fun y => Since.cell (by simp [go_sem]) (by first | (simp; done) | (simp; omega)) y
      have hf0 : ∀ (y : Since ((x.w.alloc (.cells #[.int .i64 f, .int .i64 t] 25)).alloc (.cells #[.int .i64 0, .int .i64 0, .slice none 0 0] 31))) (o : Nat), y.w.frozen? ⟨x.w.heap.size, o, none⟩ = false := fun y o => Since.free (by simp [go_sem]) (by first | (simp; done) | (simp; omega)) y
      have hb1_0 : ∀ y : Since ((x.w.alloc (.cells #[.int .i64 f, .int .i64 t] 25)).alloc (.cells #[.int .i64 0, .int .i64 0, .slice none 0 0] 31)), y.w.cell? ⟨x.w.heap.size + 1, 0, none⟩ = some (.int .i64 0) := fun y => Since.cell (by simp [go_sem]) (by first | (simp; done) | (simp; omega)) y
      have hb1_1 : ∀ y : Since ((x.w.alloc (.cells #[.int .i64 f, .int .i64 t] 25)).alloc (.cells #[.int .i64 0, .int .i64 0, .slice none 0 0] 31)), y.w.cell? ⟨x.w.heap.size + 1, 1, none⟩ = some (.int .i64 0) := fun y => Since.cell (by simp [go_sem]) (by first | (simp; done) | (simp; omega)) y
      have hb1_2 : ∀ y : Since ((x.w.alloc (.cells #[.int .i64 f, .int .i64 t] 25)).alloc (.cells #[.int .i64 0, .int .i64 0, .slice none 0 0] 31)), y.w.cell? ⟨x.w.heap.size + 1, 2, none⟩ = some (.slice none 0 0) := fun y => Since.cell (by simp [go_sem]) (by first | (simp; done) | (simp; omega)) y
      have hf1 : ∀ (y : Since ((x.w.alloc (.cells #[.int .i64 f, .int .i64 t] 25)).alloc (.cells #[.int .i64 0, .int .i64 0, .slice none 0 0] 31))) (o : Nat), y.w.frozen? ⟨x.w.heap.size + 1, o, none⟩ = false := fun y o => Since.free (by simp [go_sem]) (by first | (simp; done) | (simp; omega)) y
      have hWup : ∃ z : Since w, ((x.w.alloc (.cells #[.int .i64 f, .int .i64 t] 25)).alloc (.cells #[.int .i64 0, .int .i64 0, .slice none 0 0] 31)) = z.w := Since.allocs x [.cells #[.int .i64 f, .int .i64 t] 25, .cells #[.int .i64 0, .int .i64 0, .slice none 0 0] 31]
      obtain ⟨y0, hy0⟩ := Since.refl ((x.w.alloc (.cells #[.int .i64 f, .int .i64 t] 25)).alloc (.cells #[.int .i64 0, .int .i64 0, .slice none 0 0] 31))
      have Hbx := Lib.hid (And.intro x.b.size (show x.w.heap.size + 2 = ((x.w.alloc (.cells #[.int .i64 f, .int .i64 t] 25)).alloc (.cells #[.int .i64 0, .int .i64 0, .slice none 0 0] 31)).heap.size from by simp))
      generalize hW : ((x.w.alloc (.cells #[.int .i64 f, .int .i64 t] 25)).alloc (.cells #[.int .i64 0, .int .i64 0, .slice none 0 0] 31)) = W at *
      clear hW
      generalize x.w.heap.size = bx at *
      have Hup := Lib.hid (Since.up hWup)
      rw [hy0]
      clear hy0
      clear hWup
      go_wp2_with fail
      have hsm : ∀ j, j < 3 → (y0.w.cell? ⟨bx + 1, j, none⟩).isSome = true := fun j hj => by
        match j, hj with
        | 0, _ => rw [hb1_0 y0]; rfl
        | 1, _ => rw [hb1_1 y0]; rfl
        | 2, _ => rw [hb1_2 y0]; rfl
      obtain ⟨z, hz, hc⟩ := set_many y0 (g := bx + 1) [.int .i64 0, .int .i64 0, .slice none 0 0] hsm (Hup.out y0) (by have := Hbx.out; omega)
      simp only [World.setCells, Nat.reduceAdd] at hz
      rw [hz]
      have hc0 := hc 0 _ rfl
      have hc1 := hc 1 _ rfl
      have hc2 := hc 2 _ rfl
      exact bodyPost_ret (v := .tuple #[.agg #[.int .i64 0, .int .i64 0, .slice none 0 0], .int .i64 1]) (by simp [results, Tryd.results33, go_sem, hc0, hc1, hc2]) rfl (HB.out z)
  case neg =>
  obtain ⟨v1, v2, v3, v4, v5⟩ : ¬ size < 1 ∧ ¬ 8 < size ∧ ¬ f < 0 ∧ ¬ t < f ∧ ¬ 4294944000 < t := ⟨by omega, by omega, by omega, by omega, by omega⟩
  go_enter Tryd.func33, Tryd.ntmps33
  go_upto_region 1 with fail
  have hb0_0 : ∀ y : Since ((x.w.alloc (.cells #[.int .i64 f, .int .i64 t] 25)).alloc (.cells #[.int .i64 0, .int .i64 0, .slice none 0 0] 31)), y.w.cell? ⟨x.w.heap.size, 0, none⟩ = some (.int .i64 f) := fun y => Since.cell (by simp [go_sem]) (by first | (simp; done) | (simp; omega)) y
  have hb0_1 : ∀ y : Since ((x.w.alloc (.cells #[.int .i64 f, .int .i64 t] 25)).alloc (.cells #[.int .i64 0, .int .i64 0, .slice none 0 0] 31)), y.w.cell? ⟨x.w.heap.size, 1, none⟩ = some (.int .i64 t) := fun y => Since.cell (by simp [go_sem]) (by first | (simp; done) | (simp; omega)) y
  have hf0 : ∀ (y : Since ((x.w.alloc (.cells #[.int .i64 f, .int .i64 t] 25)).alloc (.cells #[.int .i64 0, .int .i64 0, .slice none 0 0] 31))) (o : Nat), y.w.frozen? ⟨x.w.heap.size, o, none⟩ = false := fun y o => Since.free (by simp [go_sem]) (by first | (simp; done) | (simp; omega)) y
  have hb1_0 : ∀ y : Since ((x.w.alloc (.cells #[.int .i64 f, .int .i64 t] 25)).alloc (.cells #[.int .i64 0, .int .i64 0, .slice none 0 0] 31)), y.w.cell? ⟨x.w.heap.size + 1, 0, none⟩ = some (.int .i64 0) := fun y => Since.cell (by simp [go_sem]) (by first | (simp; done) | (simp; omega)) y
  have hb1_1 : ∀ y : Since ((x.w.alloc (.cells #[.int .i64 f, .int .i64 t] 25)).alloc (.cells #[.int .i64 0, .int .i64 0, .slice none 0 0] 31)), y.w.cell? ⟨x.w.heap.size + 1, 1, none⟩ = some (.int .i64 0) := fun y => Since.cell (by simp [go_sem]) (by first | (simp; done) | (simp; omega)) y
  have hb1_2 : ∀ y : Since ((x.w.alloc (.cells #[.int .i64 f, .int .i64 t] 25)).alloc (.cells #[.int .i64 0, .int .i64 0, .slice none 0 0] 31)), y.w.cell? ⟨x.w.heap.size + 1, 2, none⟩ = some (.slice none 0 0) := fun y => Since.cell (by simp [go_sem]) (by first | (simp; done) | (simp; omega)) y
  have hf1 : ∀ (y : Since ((x.w.alloc (.cells #[.int .i64 f, .int .i64 t] 25)).alloc (.cells #[.int .i64 0, .int .i64 0, .slice none 0 0] 31))) (o : Nat), y.w.frozen? ⟨x.w.heap.size + 1, o, none⟩ = false := fun y o => Since.free (by simp [go_sem]) (by first | (simp; done) | (simp; omega)) y
  have hWup : ∃ z : Since w, ((x.w.alloc (.cells #[.int .i64 f, .int .i64 t] 25)).alloc (.cells #[.int .i64 0, .int .i64 0, .slice none 0 0] 31)) = z.w := Since.allocs x [.cells #[.int .i64 f, .int .i64 t] 25, .cells #[.int .i64 0, .int .i64 0, .slice none 0 0] 31]
  obtain ⟨y0, hy0⟩ := Since.refl ((x.w.alloc (.cells #[.int .i64 f, .int .i64 t] 25)).alloc (.cells #[.int .i64 0, .int .i64 0, .slice none 0 0] 31))
  have Hbx := Lib.hid (And.intro x.b.size (show x.w.heap.size + 2 = ((x.w.alloc (.cells #[.int .i64 f, .int .i64 t] 25)).alloc (.cells #[.int .i64 0, .int .i64 0, .slice none 0 0] 31)).heap.size from by simp))
  generalize hW : ((x.w.alloc (.cells #[.int .i64 f, .int .i64 t] 25)).alloc (.cells #[.int .i64 0, .int .i64 0, .slice none 0 0] 31)) = W at *
  clear hW
  generalize x.w.heap.size = bx at *
  have Hup := Lib.hid (Since.up hWup)
  rw [hy0]
  clear hy0
  replace HZ := Lib.hid (HZ.out.to hWup)
  replace HR := Lib.hid (HR.out.to hWup)
  clear hWup
  have Hck := Lib.hid (fun y : Since W => rcounted_calls W y a R c f t each HR.out hl)
  by_cases he : eachE R each = 0
  case neg =>
    have hne : (eachE R each != 0) = true := by simpa using he
    have HB := Lib.hid (Hno.out (eachE R each) (by unfold tabE; rw [if_neg hv, if_pos he]) he)
    clear he hv Hno Hyes
    generalize eachE R each = E at *
    generalize (eachV R each).filter (inT f t) = L at *
    go_wp2_with fail
    refine (Hck.out _).mono ?_
    rintro _ _ ⟨a1, c1, y1, rfl, rfl, _, _⟩
    go_wp2_with fail
    have hsm : ∀ j, j < 3 → (y1.w.cell? ⟨bx + 1, j, none⟩).isSome = true := fun j hj => by
      match j, hj with
      | 0, _ => rw [hb1_0 y1]; rfl
      | 1, _ => rw [hb1_1 y1]; rfl
      | 2, _ => rw [hb1_2 y1]; rfl
    obtain ⟨z, hz, hc⟩ := set_many y1 (g := bx + 1) [.int .i64 0, .int .i64 0, .slice none 0 0] hsm (Hup.out y1) (by have := Hbx.out; omega)
    simp only [World.setCells, Nat.reduceAdd] at hz
    rw [hz]
    have hc0 := hc 0 _ rfl
    have hc1 := hc 1 _ rfl
    have hc2 := hc 2 _ rfl
    exact bodyPost_ret (v := .tuple #[.agg #[.int .i64 0, .int .i64 0, .slice none 0 0], .int .i64 E]) (by simp [results, Tryd.results33, go_sem, hc0, hc1, hc2]) rfl (HB.out z)
  case pos =>
  obtain ⟨e0, e1, hrz⟩ := eachE_zero he
  obtain ⟨hr256, _, _⟩ := ridesE_zero hrz
  have HE := Lib.hid (show tabE zs size R f t each = if endsE zs (cntL R each f t) ≠ 0 then endsE zs (cntL R each f t) else if (cntL R each f t).any (bigR zs size) = true then 7 else 0 by unfold tabE; rw [if_neg hv, if_neg (by rw [he]; simp)])
  have hLe : (eachV R each).filter (inT f t) = cntL R each f t := by unfold eachV cntL; rw [if_pos he]
  rw [he, hLe] at Hck
  have HIL := Lib.hid (show ∀ r ∈ cntL R each f t, r.fp ≤ 9223372036854775807 ∧ r.pl ≤ 9223372036854775807 from fun r hr => HI.out r (by rw [cntL_eq] at hr; exact (List.mem_filter.1 hr).1))
  have hL256 : (cntL R each f t).length ≤ 256 := by rw [cntL_eq]; exact Nat.le_trans (List.length_filter_le _ _) hr256
  clear he hrz hv hLe e0 e1 hr256 HI
  generalize cntL R each f t = L at *
  obtain ⟨N, hN⟩ : ∃ N : Nat, size * size = (N : Int) := ⟨(size * size).toNat, by have := tab_mul (a := size) (b := size) (by omega); omega⟩
  have HN := Lib.hid hN
  have hNb : 1 ≤ size * size ∧ size * size ≤ 64 := tab_mul (by omega)
  obtain ⟨n1, n2⟩ := hNb
  have hN64 : N ≤ 64 := by omega
  clear hN
  go_wp2_with fail
  refine (Hck.out _).mono ?_
  rintro _ _ ⟨a1, c1, y1, rfl, rfl, hLr, hc1⟩
  have HL := Lib.hid hLr
  have HU := Lib.hid (fun q : Since y1.w => y1.trans q)
  have HZ1 := Lib.hid (Since.row HZ.out y1)
  have Hb1 := Lib.hid (show bx + 1 < y1.w.heap.size by have h1 := Hbx.out; have h2 := y1.b.size; omega)
  clear hLr Hck
  obtain ⟨i0, hi0, hz0, hsz0, hby0⟩ := info_parts (P := Tryd.prog) (e := 3) (z := .int .i64 0) (size := 1) (bytes := 8) (by kernel_rfl)
  go_wp2_with (at_make; refine wpList_make_full _ rfl _ _ 22 rfl y1.w.heap.size 3 i0 (.int .i64 0) 1 Tryd.underlying22 hi0 hz0 hsz0 .i64 .i64 (size * size) (size * size) N rfl rfl HN.out HN.out (by rw [hby0]; omega) (by unfold maxLen; omega) (Nat.le_refl _) ?_; intro w1 hown hg1; refine Hid.out ?_)
  have hrow := own_nums hown (fun j hj => by simp [madeCells, List.getD_eq_getElem?_getD, hj]; show (#[Value.int .i64 0] : Array Value)[j % 1]! = _; rw [Nat.mod_one]; rfl)
  obtain ⟨y2, hy2⟩ := (Since.self y1.w).grown hg1 (fun k hk => by cases hk)
  subst hy2
  clear hown hg1 hi0 hz0 hsz0 hby0
  generalize hgc : y1.w.heap.size = gc at *
  have Hgc := Lib.hid (show y1.w.heap.size ≤ gc from Nat.le_of_eq hgc)
  have Hrow := Lib.hid hrow
  clear hrow hgc
  refine Lib.hid ?_
  go_upto_region 8 with fail
  have hx0 : (y2.w.alloc (.cells #[.int .i64 size, .int .i64 size, .slice (some ⟨gc, 0, none⟩) N N] 31)).cell? ⟨y2.w.heap.size, 0, none⟩ = some (.int .i64 size) := by simp [go_sem]
  have hx1 : (y2.w.alloc (.cells #[.int .i64 size, .int .i64 size, .slice (some ⟨gc, 0, none⟩) N N] 31)).cell? ⟨y2.w.heap.size, 1, none⟩ = some (.int .i64 size) := by simp [go_sem]
  have hx2 : (y2.w.alloc (.cells #[.int .i64 size, .int .i64 size, .slice (some ⟨gc, 0, none⟩) N N] 31)).cell? ⟨y2.w.heap.size, 2, none⟩ = some (.slice (some ⟨gc, 0, none⟩) N N) := by simp [go_sem]
  have hxf : ∀ o, (y2.w.alloc (.cells #[.int .i64 size, .int .i64 size, .slice (some ⟨gc, 0, none⟩) N N] 31)).frozen? ⟨y2.w.heap.size, o, none⟩ = false := fun o => by simp [go_sem]
  have hlt0 : y2.w.heap.size < (y2.w.alloc (.cells #[.int .i64 size, .int .i64 size, .slice (some ⟨gc, 0, none⟩) N N] 31)).heap.size := by simp
  have hst0 : ∃ zz : Since y2.w, (y2.w.alloc (.cells #[.int .i64 size, .int .i64 size, .slice (some ⟨gc, 0, none⟩) N N] 31)) = zz.w := IsSince.alloc (IsSince.self _) _
  have hsz0 := y2.b.size
  obtain ⟨y3, e2⟩ := IsSince.alloc (IsSince.of y2) (.cells #[.int .i64 size, .int .i64 size, .slice (some ⟨gc, 0, none⟩) N N] 31)
  rw [e2] at hx0 hx1 hx2 hxf hlt0 hst0 ⊢
  (have hlt3 := Hrow.out.lt; replace Hrow := Lib.hid (Hrow.out.to hst0); have hbx := BoxIs.new y2.w [.int .i64 size, .int .i64 size, .slice (some ⟨gc, 0, none⟩) N N] 31; rw [e2] at hbx)
  clear e2 hst0
  generalize y2.w.heap.size = gt at *
  have Hhx0 : ∀ q : Since y3.w, q.w.cell? ⟨gt, 0, none⟩ = some (.int .i64 size) := fun q => Since.cell hx0 (by omega) q
  have Hhx1 : ∀ q : Since y3.w, q.w.cell? ⟨gt, 1, none⟩ = some (.int .i64 size) := fun q => Since.cell hx1 (by omega) q
  have Hhx2 : ∀ q : Since y3.w, q.w.cell? ⟨gt, 2, none⟩ = some (.slice (some ⟨gc, 0, none⟩) N N) := fun q => Since.cell hx2 (by omega) q
  have Hhxf : ∀ (q : Since y3.w) (o : Nat), q.w.frozen? ⟨gt, o, none⟩ = false := fun q o => Since.free (hxf o) (by omega) q
  have Hhxg := Lib.hid (And.intro hsz0 hlt0)
  clear hlt0 hsz0
  have HT := Lib.hid (show CbAt y3.w gc gt N size (fun i => celN zs size (L.take 0) i) from ⟨Hrow.out.congr (fun j _ => by simp [celN]), hbx⟩)
  have Hgn := Lib.hid (show gt ≠ gc by omega)
  clear hbx hlt3 hx0 hx1 hx2 hxf Hhx0 Hhx1 Hhx2 Hhxf Hrow
  go_wp2_with fail
  go_loopw [15, 16] (fun nv i wr => ∃ (k : Nat) (y : Since y1.w) (sm : Bool), k ≤ L.length ∧ nv = .bool sm ∧ sm = (L.take k).any (bigR zs size) ∧ i = .int .i64 (k : Int) ∧ wr = y.w ∧ CbAt y.w gc gt N size (fun i => celN zs size (L.take k) i) ∧ (∀ r ∈ L.take k, endE zs r = 0)) (fun _ i _ => L.length - (intOf i).toNat)
  case atStart => exact ⟨0, y3, false, by omega, rfl, rfl, rfl, rfl, HT.out, fun r hr => by simp at hr⟩
  case round =>
    clear HT
    obtain ⟨k, y, sm, hk, rfl, hsm, rfl, rfl, hT, h0⟩ := hrel
    have HT := Lib.hid hT; have H0 := Lib.hid h0; have Hsm := Lib.hid hsm
    clear hT h0 hsm
    by_cases hlt : k < L.length
    · obtain ⟨e, he⟩ : ∃ e, L[k]? = some e := ⟨_, List.getElem?_eq_getElem hlt⟩
      have hk0 : (0 : Int) ≤ (k : Int) := by omega
      have hkl : (k : Int) < (L.length : Int) := by omega
      have Htk := Lib.hid (show L.take (k + 1) = L.take k ++ [e] by rw [List.take_add_one, he]; rfl)
      have Hea := Lib.hid (show endE zs e ≠ 0 → endsE zs L = endE zs e from fun hn => endsE_at' he hn H0.out)
      obtain ⟨hI1, hI2⟩ := HIL.out e (List.mem_of_getElem? he)
      obtain ⟨b1, off1, rfl, h1'⟩ := Els.ride (HL.out.since y).c he
      have ra0 := h1'.c0
      have ra1 := h1'.c1
      have ra2 := h1'.c2
      have ra3 := h1'.c3
      have ra4 := h1'.c4
      have ra5 := h1'.c5
      have ra6 := h1'.c6
      have ra7 := h1'.c7
      have ra8 := h1'.c8
      have ra9 := h1'.c9
      have ra10 := h1'.c10
      have ra11 := h1'.c11
      have ra12 := h1'.c12
      clear h1' he ra0 ra1 ra2 ra3 ra4 ra5 ra6 ra7 ra8
      have Z1 := Lib.hid (fun q : Since y.w => show Calls Tryd.prog 55 #[.slice az zs.length cz, .int .i64 e.fw, .int .i64 e.fp] q.w (fun o w' => o = .returned (.tuple #[.int .i64 (zoneV zs e.fw e.fp), .int .i64 (zoneE zs e.fw e.fp)]) ∧ ∃ z : Since y.w, w' = z.w) from (rzone_calls q.w az zs cz e.fw e.fp (by obtain ⟨u, hu⟩ := y.trans q; rw [hu]; exact Since.row HZ1.out u) hzl hI1).mono (by rintro _ _ ⟨rfl, rfl⟩; exact ⟨rfl, q, rfl⟩))
      have Z2 := Lib.hid (fun q : Since y.w => show Calls Tryd.prog 55 #[.slice az zs.length cz, .int .i64 e.wh, .int .i64 e.pl] q.w (fun o w' => o = .returned (.tuple #[.int .i64 (zoneV zs e.wh e.pl), .int .i64 (zoneE zs e.wh e.pl)]) ∧ ∃ z : Since y.w, w' = z.w) from (rzone_calls q.w az zs cz e.wh e.pl (by obtain ⟨u, hu⟩ := y.trans q; rw [hu]; exact Since.row HZ1.out u) hzl hI2).mono (by rintro _ _ ⟨rfl, rfl⟩; exact ⟨rfl, q, rfl⟩))
      have hLl : (L.take k).length ≤ 256 := by rw [List.length_take]; omega
      obtain ⟨q, hq0⟩ := Since.refl y.w
      rw [hq0]
      clear hq0
      by_cases hz1 : zoneE zs e.fw e.fp = 0
      case neg =>
        have hE1 : endE zs e = zoneE zs e.fw e.fp := if_pos hz1
        have HB := Lib.hid (Hno.out (zoneE zs e.fw e.fp) (HE.out.trans (by rw [Hea.out (by rw [hE1]; exact hz1), hE1, if_pos hz1])) hz1)
        have hne : (zoneE zs e.fw e.fp != 0) = true := by simpa using hz1
        clear hz1 hE1 HE Hea Hyes Hno Z2
        generalize zoneE zs e.fw e.fp = E at *
        generalize zoneV zs e.fw e.fp = A at *
        go_wp2_with fail
        refine wp_region_since (by kernel_rfl) (by kernel_rfl) ?_
        repeat (go_big_quiet_step ((go_at_call 55; exact Z1.out _)))
        refine wpQuiet_nil ?_
        rintro _ ⟨z, rfl⟩
        obtain ⟨Y1, hY1⟩ := y.trans z
        obtain ⟨Y, hY⟩ := HU.out Y1
        rw [hY1, hY]
        go_wp2_with fail
        have hsm : ∀ j, j < 3 → (Y.w.cell? ⟨bx + 1, j, none⟩).isSome = true := fun j hj => by
          match j, hj with
          | 0, _ => rw [hb1_0 Y]; rfl
          | 1, _ => rw [hb1_1 Y]; rfl
          | 2, _ => rw [hb1_2 Y]; rfl
        obtain ⟨z, hz, hc⟩ := set_many Y (g := bx + 1) [.int .i64 0, .int .i64 0, .slice none 0 0] hsm (Hup.out Y) (by have := Hbx.out; omega)
        simp only [World.setCells, Nat.reduceAdd] at hz
        rw [hz]
        have hc0 := hc 0 _ rfl
        have hc1 := hc 1 _ rfl
        have hc2 := hc 2 _ rfl
        exact bodyPost_ret (v := .tuple #[.agg #[.int .i64 0, .int .i64 0, .slice none 0 0], .int .i64 E]) (by simp [results, Tryd.results33, go_sem, hc0, hc1, hc2]) rfl (HB.out z)
      case pos =>
        have hE1 : endE zs e = zoneE zs e.wh e.pl := if_neg (by simpa using hz1)
        by_cases hz2 : zoneE zs e.wh e.pl = 0
        case neg =>
          have HB := Lib.hid (Hno.out (zoneE zs e.wh e.pl) (HE.out.trans (by rw [Hea.out (by rw [hE1]; exact hz2), hE1, if_pos hz2])) hz2)
          have hne : (zoneE zs e.wh e.pl != 0) = true := by simpa using hz2
          rw [hz1] at Z1
          clear hz1 hz2 hE1 HE Hea Hyes Hno
          generalize zoneE zs e.wh e.pl = E at *
          generalize zoneV zs e.wh e.pl = B at *
          generalize zoneV zs e.fw e.fp = A at *
          go_wp2_with fail
          refine wp_region_since (by kernel_rfl) (by kernel_rfl) ?_
          repeat (go_big_quiet_step ((go_at_call 55; exact Z1.out _)))
          refine wpQuiet_nil ?_
          rintro _ ⟨z, rfl⟩
          go_wp2_with fail
          refine wp_region_since (by kernel_rfl) (by kernel_rfl) ?_
          repeat (go_big_quiet_step ((go_at_call 55; exact Z2.out _)))
          refine wpQuiet_nil ?_
          rintro _ ⟨z2, rfl⟩
          obtain ⟨Y1, hY1⟩ := y.trans z2
          obtain ⟨Y, hY⟩ := HU.out Y1
          rw [hY1, hY]
          go_wp2_with fail
          have hsm : ∀ j, j < 3 → (Y.w.cell? ⟨bx + 1, j, none⟩).isSome = true := fun j hj => by
            match j, hj with
            | 0, _ => rw [hb1_0 Y]; rfl
            | 1, _ => rw [hb1_1 Y]; rfl
            | 2, _ => rw [hb1_2 Y]; rfl
          obtain ⟨z, hz, hc⟩ := set_many Y (g := bx + 1) [.int .i64 0, .int .i64 0, .slice none 0 0] hsm (Hup.out Y) (by have := Hbx.out; omega)
          simp only [World.setCells, Nat.reduceAdd] at hz
          rw [hz]
          have hc0 := hc 0 _ rfl
          have hc1 := hc 1 _ rfl
          have hc2 := hc 2 _ rfl
          exact bodyPost_ret (v := .tuple #[.agg #[.int .i64 0, .int .i64 0, .slice none 0 0], .int .i64 E]) (by simp [results, Tryd.results33, go_sem, hc0, hc1, hc2]) rfl (HB.out z)
        case pos =>
          have hE0 : endE zs e = 0 := hE1.trans hz2
          obtain ⟨a1', a2⟩ := zone_range hz1
          obtain ⟨b1', b2'⟩ := zone_range hz2
          have Hall := Lib.hid (show ∀ r ∈ L.take (k + 1), endE zs r = 0 from fun r hr => by
            rw [Htk.out] at hr
            rcases List.mem_append.1 hr with h | h
            · exact H0.out r h
            · rw [List.mem_singleton.1 h]; exact hE0)
          have Hbg := Lib.hid (show bigR zs size e = (decide (size ≤ zoneV zs e.fw e.fp) || decide (size ≤ zoneV zs e.wh e.pl)) from rfl)
          have Hcl := Lib.hid (show celR zs size e = zoneV zs e.fw e.fp * size + zoneV zs e.wh e.pl from rfl)
          rw [hz1] at Z1
          rw [hz2] at Z2
          clear hE1 hz1 hz2 hE0 Hea
          generalize zoneV zs e.fw e.fp = A at *
          generalize zoneV zs e.wh e.pl = B at *
          go_wp2_with fail
          refine wp_region_since (by kernel_rfl) (by kernel_rfl) ?_
          repeat (go_big_quiet_step ((go_at_call 55; exact Z1.out _)))
          refine wpQuiet_nil ?_
          rintro _ ⟨z, rfl⟩
          go_wp2_with fail
          refine wp_region_since (by kernel_rfl) (by kernel_rfl) ?_
          repeat (go_big_quiet_step ((go_at_call 55; exact Z2.out _)))
          refine wpQuiet_nil ?_
          rintro _ ⟨z2, rfl⟩
          clear Z1 Z2 ra9 ra10 ra11 ra12
          have hT6 := HT.out.to ⟨z2, rfl⟩
          obtain ⟨y6, h6⟩ := y.trans z2
          rw [h6] at hT6 ⊢
          have HT6 := Lib.hid hT6
          clear hT6 h6 HT
          by_cases hbig : size ≤ A ∨ size ≤ B
          · have Hb1 := Lib.hid (show bigR zs size e = true by rw [Hbg.out]; simpa using hbig)
            have HT7 := Lib.hid (show CbAt y6.w gc gt N size (fun i => celN zs size (L.take k ++ [e]) i) from ⟨HT6.out.cl.congr (fun j _ => by rw [celN_snoc, Hb1.out]; simp), HT6.out.bx⟩)
            rcases (by omega : size ≤ A ∨ (¬ size ≤ A ∧ size ≤ B)) with c6 | ⟨c6, c7⟩
            all_goals
              clear hbig
              go_wp2_with fail
              go_roundw
              case rel => exact ⟨k + 1, y6, true, by omega, rfl, by rw [Htk.out, List.any_append]; simp [Hb1.out], by go_num, rfl, by rw [Htk.out]; exact HT7.out, Hall.out⟩
              case measure => simp [intOf] <;> omega
          · obtain ⟨c6, c7⟩ : ¬ size ≤ A ∧ ¬ size ≤ B := by omega
            have Hb1 := Lib.hid (show bigR zs size e = false by rw [Hbg.out]; simp; omega)
            obtain ⟨i1, i2, i3, i4⟩ := tab_idx a1' (by omega : A < size) b1' (by omega : B < size) (by omega)
            obtain ⟨m, hm⟩ : ∃ m : Nat, A * size + B = (m : Int) := ⟨(A * size + B).toNat, by omega⟩
            have hmN : m < N := by have := HN.out; omega
            have Hlk := Lib.hid (show (L.take k ++ [e]) = L.take (k + 1) from Htk.out.symm)
            have Hsm3 := Lib.hid (show sm = (L.take (k + 1)).any (bigR zs size) by rw [Htk.out, List.any_append, ← Hsm.out]; simp [Hb1.out])
            obtain ⟨n3, n4⟩ := celN_range zs size (L.take k) m
            have q0 := HT6.out.cl.c m hmN
            have q1 := HT6.out.cl.f m hmN
            have q2 := HT6.out.bx.c 2 _ rfl
            obtain ⟨y7, h7⟩ := y6.set ⟨gc, m, none⟩ Hgc.out (.int .i64 (celN zs size (L.take k) m + 1))
            have Hset := Lib.hid (show CbAt (y6.w.setCell ⟨gc, m, none⟩ (.int .i64 (celN zs size (L.take k) m + 1))) gc gt N size (fun i => celN zs size (L.take (k + 1)) i) by
              rw [Htk.out]
              exact ⟨HT6.out.cl.set hmN _ (by rw [celN_snoc, Hb1.out, Hcl.out, hm]; simp) (fun j _ hj => by rw [celN_snoc, Hcl.out, hm, if_neg (fun h => by simp at h; exact hj (by have := h.2; omega))]; simp), HT6.out.bx.setNe _ _ Hgn.out⟩)
            have H7 := Lib.hid h7
            clear h7 hbig Hbg Hcl
            generalize celN zs size (L.take k) m = C at *
            have n5 : C ≤ 256 := by omega
            clear n4 hLl
            go_wp2_with fail
            go_roundw
            case rel => exact ⟨k + 1, y7, sm, by omega, rfl, Hsm3.out, by go_num, H7.out, H7.out ▸ Hset.out, Hall.out⟩
            case measure => simp [intOf] <;> omega
    · obtain rfl : k = L.length := by omega
      have hE2 := Lib.hid (HE.out.trans (if_neg (by rw [endsE_no (by have := H0.out; rwa [List.take_length] at this)]; simp)))
      have Hsm2 := Lib.hid (show sm = L.any (bigR zs size) by have := Hsm.out; rwa [List.take_length] at this)
      cases sm
      case true =>
        have HB := Lib.hid (Hno.out 7 (hE2.out.trans (if_pos Hsm2.out.symm)) (by decide))
        clear HE hE2 Hsm Hsm2 H0 HT
        obtain ⟨Y, hY⟩ := HU.out y
        rw [hY]
        go_wp2_with fail
        have hsm : ∀ j, j < 3 → (Y.w.cell? ⟨bx + 1, j, none⟩).isSome = true := fun j hj => by
          match j, hj with
          | 0, _ => rw [hb1_0 Y]; rfl
          | 1, _ => rw [hb1_1 Y]; rfl
          | 2, _ => rw [hb1_2 Y]; rfl
        obtain ⟨z, hz, hc⟩ := set_many Y (g := bx + 1) [.int .i64 0, .int .i64 0, .slice none 0 0] hsm (Hup.out Y) (by have := Hbx.out; omega)
        simp only [World.setCells, Nat.reduceAdd] at hz
        rw [hz]
        have hc0 := hc 0 _ rfl
        have hc1 := hc 1 _ rfl
        have hc2 := hc 2 _ rfl
        exact bodyPost_ret (v := .tuple #[.agg #[.int .i64 0, .int .i64 0, .slice none 0 0], .int .i64 7]) (by simp [results, Tryd.results33, go_sem, hc0, hc1, hc2]) rfl (HB.out z)
      case false =>
        have hE3 : tabE zs size R f t each = 0 := hE2.out.trans (if_neg (by rw [← Hsm2.out]; simp))
        have hlt2 : bx + 1 ≠ gc := by
          have h1 := Hb1.out
          omega
        have hN9 := ((HT.out.cl.setOther ⟨bx + 1, 0, none⟩ hlt2 (.int .i64 size)).setOther ⟨bx + 1, 1, none⟩ hlt2 (.int .i64 size)).setOther ⟨bx + 1, 2, none⟩ hlt2 (.slice (some ⟨gc, 0, none⟩) N N)
        rw [List.take_length] at hN9
        have HB := Lib.hid (fun z hv hz => Hyes.out hE3 (cells zs size L) rfl (some ⟨gc, 0, none⟩) N N (by unfold cells; rw [List.length_map, List.length_range]; have := HN.out; omega) z hv hz (Nat.le_refl _) (fun b hb => by cases hb; have h1 := Hbx.out; have h2 := Hgc.out; have h3 := y1.b.size; show w.heap.size ≤ gc; omega))
        have q0 := HT.out.bx.c 0 _ rfl
        have q1 := HT.out.bx.c 1 _ rfl
        have q2 := HT.out.bx.c 2 _ rfl
        obtain ⟨Y, hY⟩ := HU.out y
        have HN9 := Lib.hid (fun W' (hW : _ = W') => (show Nums W' gc N (celN zs size L) from hW ▸ hN9))
        clear HE hE2 hE3 Hsm Hsm2 H0 hN9 hlt2
        rw [hY] at HN9 q0 q1 q2 ⊢
        clear hY
        go_wp2_with fail
        have hsm : ∀ j, j < 3 → (Y.w.cell? ⟨bx + 1, j, none⟩).isSome = true := fun j hj => by
          match j, hj with
          | 0, _ => rw [hb1_0 Y]; rfl
          | 1, _ => rw [hb1_1 Y]; rfl
          | 2, _ => rw [hb1_2 Y]; rfl
        obtain ⟨z, hz, hc⟩ := set_many Y (g := bx + 1) [.int .i64 size, .int .i64 size, .slice (some ⟨gc, 0, none⟩) N N] hsm (Hup.out Y) (by have := Hbx.out; omega)
        simp only [World.setCells, Nat.reduceAdd] at hz
        rw [hz]
        have hc0 := hc 0 _ rfl
        have hc1 := hc 1 _ rfl
        have hc2 := hc 2 _ rfl
        exact bodyPost_ret (v := .tuple #[.agg #[.int .i64 size, .int .i64 size, .slice (some ⟨gc, 0, none⟩) N N], .int .i64 0]) (by simp [results, Tryd.results33, go_sem, hc0, hc1, hc2]) rfl (HB.out z (fun b hb => by cases hb; exact ⟨gc, rfl, nums_vals (HN9.out _ hz) _ (by have := HN.out; omega)⟩) (nums_row (HN9.out _ hz) _ (by have := HN.out; omega)))
end Go.Proofs.YtdkcclngionihaaDoor
/- The frame of the laws of releases: the table of signs; opening releases, tables, ratios. -/
namespace Go.Proofs.YtdkcclngionihaaDoor
open Go.ChangeShapes Go.WideShapes Go.ChangeAt Go.RowKit

def laidL : List (String × DataW Unit) := Rows.releaseChancesRow.laid
def signsName : String := ((laidL.map Prod.fst).head?).getD default
theorem gSigns : Tryd.prog.globalNamed signsName = some 0 := by kernel_rfl
theorem tSigns : (Tryd.prog.globals[0]?).map (·.type) = some 109 := by kernel_rfl
theorem cNoise : Tryd.prog.cellsOf 34 = 1 := by kernel_rfl
theorem cSlice : Tryd.prog.cellsOf 22 = 1 := by kernel_rfl
theorem cInts : Tryd.prog.cellsOf 22 = 1 := by kernel_rfl
theorem cBools : Tryd.prog.cellsOf 32 = 1 := by kernel_rfl
theorem cArr : Tryd.prog.cellsOf 109 = 2 := by kernel_rfl
theorem cWin : Tryd.prog.cellsOf 25 = 2 := by kernel_rfl
theorem cTable : Tryd.prog.cellsOf 31 = 3 := by kernel_rfl
theorem cRel : Tryd.prog.cellsOf 36 = 10 := by kernel_rfl
theorem cRatio : Tryd.prog.cellsOf 50 = 2 := by kernel_rfl
theorem cTwo : Tryd.prog.cellsOf 48 = 6 := by kernel_rfl
set_option maxRecDepth 20000 in
theorem door_met (os : Os) (args : Array Value) : laidMetH Tryd.prog laidL ((World.doorLaid Tryd.prog 400 os).forCall (fun _ _ => 0) ⟨#[], args, []⟩).memory :=
  laidMetH_of_parts3 (fuel := 8) (laidMet_of_run' 8 (by kernel_rfl) (by kernel_rfl)) (by kernel_rfl) (by kernel_rfl)

set_option maxRecDepth 20000 in
theorem signs_of_laid {W : World} (h : laidMetH Tryd.prog laidL W) : Signs W := by
  rw [MakeChecks.laidMetH_plain _ _ _ (by kernel_rfl)] at h
  obtain ⟨ps, ⟨g0, t0, cs0, f0, p0, q0, hg0, ht0, hv0, hd0, _⟩, _⟩ := h
  obtain rfl := Option.some.inj (gSigns.symm.trans hg0)
  obtain rfl := Option.some.inj (tSigns.symm.trans ht0)
  obtain ⟨xs, m1, rfl, hx1, hlen, hn3, hel⟩ := DataW.trod_array Tryd.underlying109 hd0
  have h0 := hel 0 (by decide)
  have h1 := hel 1 (by decide)
  rw [cInt] at h0 h1
  rw [cArr] at hlen
  obtain ⟨l⟩ := cs0
  match l, hlen, xs, hn3, hx1, h0, h1, hv0 with
  | [c0, c1], _, [x0, x1], _, hx1, h0, h1, hv0 =>
    simp only [List.map_cons, List.map_nil, List.cons.injEq, Prod.mk.injEq, Rows.laid_bikeshare_noise_signs, DataW.agg.injEq] at hx1
    obtain ⟨k0, e0, d0, _⟩ := DataW.trod_int Tryd.underlying3 (show DataW.trod _ Tryd.prog W 0 _ _ m1 3 _ = some x0 from h0)
    obtain ⟨k1, e1, d1, _⟩ := DataW.trod_int Tryd.underlying3 (show DataW.trod _ Tryd.prog W 0 _ _ m1 3 _ = some x1 from h1)
    rw [d0, d1] at hx1
    have hk0 : k0 = -1 := by simpa using hx1.1.1.symm
    have hk1 : k1 = 1 := by simpa using hx1.1.2.1.symm
    have hc0 : c0 = .int .i64 (-1) := by rw [← hk0]; simpa using e0
    have hc1 : c1 = .int .i64 1 := by rw [← hk1]; simpa using e1
    have c0' : W.cell? ⟨0, 0, none⟩ = some (.int .i64 (-1)) := by
      rw [World.var?_cell hg0 hv0 0, hc0]; rfl
    have c1' : W.cell? ⟨0, 1, none⟩ = some (.int .i64 1) := by
      rw [World.var?_cell hg0 hv0 1, hc1]; rfl
    exact ⟨World.block_lt_of_cell? W _ c0', c0', c1'⟩

noncomputable def winF : Array Field := Tryd.prog.fieldsOf 25
theorem uWin : Tryd.prog.underlying 25 = some (.struct winF) := by kernel_rfl
theorem winL : (winF.toList.map fun f => (f.offset, f.type)) = [(0, 3), (1, 3)] := by kernel_rfl
noncomputable def tableF : Array Field := Tryd.prog.fieldsOf 31
theorem uTable : Tryd.prog.underlying 31 = some (.struct tableF) := by kernel_rfl
theorem tableL : (tableF.toList.map fun f => (f.offset, f.type)) = [(0, 3), (1, 3), (2, 22)] := by kernel_rfl
noncomputable def relF : Array Field := Tryd.prog.fieldsOf 36
theorem uRel : Tryd.prog.underlying 36 = some (.struct relF) := by kernel_rfl
theorem relL : (relF.toList.map fun f => (f.offset, f.type)) = [(0, 25), (2, 3), (3, 31), (6, 32), (7, 22), (8, 22), (9, 34)] := by kernel_rfl
noncomputable def noiseF : Array Field := Tryd.prog.fieldsOf 34
theorem uNoise : Tryd.prog.underlying 34 = some (.struct noiseF) := by kernel_rfl
theorem noiseL : (noiseF.toList.map fun f => (f.offset, f.type)) = [(0, 22)] := by kernel_rfl
noncomputable def ratioF : Array Field := Tryd.prog.fieldsOf 50
theorem uRatio : Tryd.prog.underlying 50 = some (.struct ratioF) := by kernel_rfl
theorem ratioL : (ratioF.toList.map fun f => (f.offset, f.type)) = [(0, 3), (1, 3)] := by kernel_rfl
noncomputable def twoF : Array Field := Tryd.prog.fieldsOf 48
theorem uTwo : Tryd.prog.underlying 48 = some (.struct twoF) := by kernel_rfl
theorem twoL : (twoF.toList.map fun f => (f.offset, f.type)) = [(0, 31), (3, 31)] := by kernel_rfl
section
variable {H : Type} {enc : TypeId × Value → H} {w : World} {base fuel : Nat} {spare : Nat → Bool} {held : Bool} {cs : List Value} {y : DataW H × List MemPlace}
set_option maxRecDepth 20000 in
theorem win1 {c d : Value} (h : DataW.trod enc Tryd.prog w base spare held fuel 25 [c, d] = some y) : ∃ m n : Int, c = .int .i64 m ∧ d = .int .i64 n ∧ I64 m ∧ I64 n := by
  obtain ⟨_, hf⟩ := trod_fields uWin winL h
  obtain ⟨_, _, h0⟩ := hf 0 _ rfl
  obtain ⟨_, _, h1⟩ := hf 1 _ rfl
  simp only [cInt] at h0 h1
  obtain ⟨m, rfl, hm⟩ := int1 h0
  obtain ⟨n, rfl, hn⟩ := int1 h1
  exact ⟨m, n, rfl, rfl, hm, hn⟩
set_option maxRecDepth 20000 in
theorem table1 (h : DataW.trod enc Tryd.prog w base spare held fuel 31 cs = some y) : ∃ (T : Tab) (a : Option Addr) (c : Nat), cs = [.int .i64 T.r, .int .i64 T.c, .slice a T.l.length c] ∧ IntRow w a T.l ∧ T.l.length ≤ 9223372036854775807 ∧ I64 T.r ∧ I64 T.c ∧ ∀ z ∈ T.l, I64 z := by
  obtain ⟨hl, hf⟩ := trod_fields uTable tableL h
  rw [cTable] at hl
  match cs, hl with
  | [c0, c1, c2], _ =>
    obtain ⟨_, _, h0⟩ := hf 0 _ rfl
    obtain ⟨_, _, h1⟩ := hf 1 _ rfl
    obtain ⟨_, _, h2⟩ := hf 2 _ rfl
    simp only [cInt, cInts] at h0 h1 h2
    obtain ⟨r, rfl, i0⟩ := int1 h0
    obtain ⟨c, rfl, i1⟩ := int1 h1
    obtain ⟨a, l, cap, rfl, k1, k2, k3, k4⟩ := open_row Tryd.underlying22 Tryd.underlying3 cInt h2
    exact ⟨⟨r, c, l⟩, a, cap, rfl, k3, Nat.le_trans k1 k2, i0, i1, fun z hz => wf_i64 (k4 z hz)⟩
set_option maxRecDepth 20000 in
theorem bools1 {c : Value} (h : DataW.trod enc Tryd.prog w base spare held fuel 32 [c] = some y) : ∃ (a : Option Addr) (n cap : Nat), c = .slice a n cap := by
  rcases DataW.trod_slice Tryd.underlying32 h with ⟨hcs, _⟩ | ⟨a, len, cap, elems, rest, n, _, hcs, _⟩
  · simp at hcs; exact ⟨none, 0, 0, hcs⟩
  · simp at hcs; exact ⟨some a, len, cap, hcs⟩
set_option maxRecDepth 20000 in
theorem noise1 {c : Value} (h : DataW.trod enc Tryd.prog w base spare held fuel 34 [c] = some y) : ∃ (a : Option Addr) (l : List Int) (cap : Nat), c = .slice a l.length cap ∧ IntRow w a l ∧ l.length ≤ cap ∧ l.length ≤ 9223372036854775807 ∧ ∀ z ∈ l, I64 z := by
  obtain ⟨hl, hf⟩ := trod_fields uNoise noiseL h
  obtain ⟨_, _, h0⟩ := hf 0 _ rfl
  simp only [cInts] at h0
  obtain ⟨a, l, cap, rfl, k1, k2, k3, k4⟩ := open_row Tryd.underlying22 Tryd.underlying3 cInt h0
  exact ⟨a, l, cap, rfl, k3, k1, Nat.le_trans k1 k2, fun z hz => wf_i64 (k4 z hz)⟩
set_option maxRecDepth 20000 in
theorem rel1 (h : DataW.trod enc Tryd.prog w base spare held fuel 36 cs = some y) : ∃ (f t each : Int) (A : Tab) (N : List Int) (a1 a2 a3 a4 a5 : Option Addr) (c1 n2 c2 n3 c3 n4 c4 c5 : Nat), cs = [.int .i64 f, .int .i64 t, .int .i64 each, .int .i64 A.r, .int .i64 A.c, .slice a1 A.l.length c1, .slice a2 n2 c2, .slice a3 n3 c3, .slice a4 n4 c4, .slice a5 N.length c5] ∧ IntRow w a1 A.l ∧ A.l.length ≤ 9223372036854775807 ∧ IntRow w a5 N ∧ N.length ≤ 9223372036854775807 := by
  obtain ⟨hl, hf⟩ := trod_fields uRel relL h
  rw [cRel] at hl
  match cs, hl with
  | [d0, d1, d2, d3, d4, d5, d6, d7, d8, d9], _ =>
    obtain ⟨_, _, h0⟩ := hf 0 _ rfl
    obtain ⟨_, _, h1⟩ := hf 1 _ rfl
    obtain ⟨_, _, h2⟩ := hf 2 _ rfl
    obtain ⟨_, _, h3⟩ := hf 3 _ rfl
    obtain ⟨_, _, h4⟩ := hf 4 _ rfl
    obtain ⟨_, _, h5⟩ := hf 5 _ rfl
    obtain ⟨_, _, h6⟩ := hf 6 _ rfl
    simp only [cInt, cInts, cWin, cTable, cBools, cNoise] at h0 h1 h2 h3 h4 h5 h6
    obtain ⟨f, t, rfl, rfl, _, _⟩ := win1 h0
    obtain ⟨each, rfl, _⟩ := int1 h1
    obtain ⟨A, a1, c1, e2, k1, k2, _⟩ := table1 h2
    obtain ⟨a2, n2, c2, rfl⟩ := bools1 h3
    obtain ⟨a3, l3, c3, rfl, _⟩ := open_row Tryd.underlying22 Tryd.underlying3 cInt h4
    obtain ⟨a4, l4, c4, rfl, _⟩ := open_row Tryd.underlying22 Tryd.underlying3 cInt h5
    obtain ⟨a5, N, c5, rfl, k3, _, k4, _⟩ := noise1 h6
    obtain ⟨rfl, rfl, rfl⟩ : d3 = .int .i64 A.r ∧ d4 = .int .i64 A.c ∧ d5 = .slice a1 A.l.length c1 := by simpa using e2
    exact ⟨f, t, each, A, N, a1, a2, a3, a4, a5, c1, n2, c2, l3.length, c3, l4.length, c4, c5, rfl, k1, k2, k3, k4⟩
set_option maxRecDepth 20000 in
theorem two1 (h : DataW.trod enc Tryd.prog w base spare held fuel 48 cs = some y) : ∃ (T U : Tab) (a b : Option Addr) (c d : Nat), cs = [.int .i64 T.r, .int .i64 T.c, .slice a T.l.length c, .int .i64 U.r, .int .i64 U.c, .slice b U.l.length d] ∧ IntRow w a T.l ∧ T.l.length ≤ 9223372036854775807 ∧ IntRow w b U.l ∧ U.l.length ≤ 9223372036854775807 := by
  obtain ⟨hl, hf⟩ := trod_fields uTwo twoL h
  rw [cTwo] at hl
  match cs, hl with
  | [d0, d1, d2, d3, d4, d5], _ =>
    obtain ⟨_, _, h0⟩ := hf 0 _ rfl
    obtain ⟨_, _, h1⟩ := hf 1 _ rfl
    simp only [cTable] at h0 h1
    obtain ⟨T, a, c, e1, k1, k2, _⟩ := table1 h0
    obtain ⟨U, b, d, e2, k3, k4, _⟩ := table1 h1
    obtain ⟨rfl, rfl, rfl⟩ : d0 = .int .i64 T.r ∧ d1 = .int .i64 T.c ∧ d2 = .slice a T.l.length c := by simpa using e1
    obtain ⟨rfl, rfl, rfl⟩ : d3 = .int .i64 U.r ∧ d4 = .int .i64 U.c ∧ d5 = .slice b U.l.length d := by simpa using e2
    exact ⟨T, U, a, b, c, d, rfl, k1, k2, k3, k4⟩
set_option maxRecDepth 20000 in
theorem ratio1 (h : DataW.trod enc Tryd.prog w base spare held fuel 50 cs = some y) : ∃ m n : Int, cs = [.int .i64 m, .int .i64 n] := by
  obtain ⟨hl, hf⟩ := trod_fields uRatio ratioL h
  rw [cRatio] at hl
  match cs, hl with
  | [c, d], _ =>
    obtain ⟨_, _, h0⟩ := hf 0 _ rfl
    obtain ⟨_, _, h1⟩ := hf 1 _ rfl
    simp only [cInt] at h0 h1
    obtain ⟨m, rfl, hm⟩ := int1 h0
    obtain ⟨n, rfl, hn⟩ := int1 h1
    exact ⟨m, n, rfl⟩
end
section
variable {H : Type} {enc : TypeId × Value → H} {w : World} {b0 : Nat} {r : Reach} {held : Bool} {v : Value} {d : DataW H} {p : List MemPlace}
set_option maxRecDepth 20000 in
theorem open_table (hv : Value.okWide Tryd.prog w r b0 31 v) (h : DataW.Trod enc Tryd.prog w 0 (fun _ => true) held 31 v d p) :
    ∃ (T : Tab) (a : Option Addr) (c : Nat), v = .agg #[.int .i64 T.r, .int .i64 T.c, .slice a T.l.length c] ∧ IntRow w a T.l ∧ T.l.length ≤ 9223372036854775807 ∧ I64 T.r ∧ I64 T.c ∧ ∀ z ∈ T.l, I64 z := by
  obtain ⟨cs, rfl, hsz⟩ := okWide_struct uTable hv
  obtain ⟨l⟩ := cs
  obtain ⟨fuel, hf⟩ := h
  obtain ⟨T, a, c, hq, hi⟩ := table1 (show DataW.trod enc Tryd.prog w 0 (fun _ => true) held fuel 31 l = some (d, p) from hf)
  subst hq
  exact ⟨T, a, c, rfl, hi⟩
set_option maxRecDepth 20000 in
theorem open_rel (hv : Value.okWide Tryd.prog w r b0 36 v) (h : DataW.Trod enc Tryd.prog w 0 (fun _ => true) held 36 v d p) :
    ∃ (f t each : Int) (A : Tab) (N : List Int) (a1 a2 a3 a4 a5 : Option Addr) (c1 n2 c2 n3 c3 n4 c4 c5 : Nat), v = .agg #[.int .i64 f, .int .i64 t, .int .i64 each, .int .i64 A.r, .int .i64 A.c, .slice a1 A.l.length c1, .slice a2 n2 c2, .slice a3 n3 c3, .slice a4 n4 c4, .slice a5 N.length c5] ∧ IntRow w a1 A.l ∧ A.l.length ≤ 9223372036854775807 ∧ IntRow w a5 N ∧ N.length ≤ 9223372036854775807 := by
  obtain ⟨cs, rfl, hsz⟩ := okWide_struct uRel hv
  obtain ⟨l⟩ := cs
  obtain ⟨fuel, hf⟩ := h
  obtain ⟨f, t, each, A, N, a1, a2, a3, a4, a5, c1, n2, c2, n3, c3, n4, c4, c5, hq, hi⟩ := rel1 (show DataW.trod enc Tryd.prog w 0 (fun _ => true) held fuel 36 l = some (d, p) from hf)
  subst hq
  exact ⟨f, t, each, A, N, a1, a2, a3, a4, a5, c1, n2, c2, n3, c3, n4, c4, c5, rfl, hi⟩
set_option maxRecDepth 20000 in
theorem open_two (hv : Value.okWide Tryd.prog w r b0 48 v) (h : DataW.Trod enc Tryd.prog w 0 (fun _ => true) held 48 v d p) :
    ∃ (T U : Tab) (a b : Option Addr) (c d : Nat), v = .agg #[.int .i64 T.r, .int .i64 T.c, .slice a T.l.length c, .int .i64 U.r, .int .i64 U.c, .slice b U.l.length d] ∧ IntRow w a T.l ∧ T.l.length ≤ 9223372036854775807 ∧ IntRow w b U.l ∧ U.l.length ≤ 9223372036854775807 := by
  obtain ⟨cs, rfl, hsz⟩ := okWide_struct uTwo hv
  obtain ⟨l⟩ := cs
  obtain ⟨fuel, hf⟩ := h
  obtain ⟨T, U, a, b, c, d', hq, hi⟩ := two1 (show DataW.trod enc Tryd.prog w 0 (fun _ => true) held fuel 48 l = some (d, p) from hf)
  subst hq
  exact ⟨T, U, a, b, c, d', rfl, hi⟩
set_option maxRecDepth 20000 in
theorem open_ratioR (hv : Value.okWide Tryd.prog w r b0 50 v) (h : DataW.Trod enc Tryd.prog w 0 (fun _ => true) held 50 v d p) :
    ∃ m n : Int, v = .agg #[.int .i64 m, .int .i64 n] := by
  obtain ⟨cs, rfl, hsz⟩ := okWide_struct uRatio hv
  obtain ⟨l⟩ := cs
  obtain ⟨fuel, hf⟩ := h
  obtain ⟨m, n, hq⟩ := ratio1 (show DataW.trod enc Tryd.prog w 0 (fun _ => true) held fuel 50 l = some (d, p) from hf)
  subst hq
  exact ⟨m, n, rfl⟩
end
end Go.Proofs.YtdkcclngionihaaDoor
/- Checks of tables, intervals of cells, walked. -/
namespace Go.Proofs.YtdkcclngionihaaDoor
open Go.RowKit

theorem sumF_mono {f : Nat → Int} (n : Nat) (h : ∀ i, i < n → 0 ≤ f i) : ∀ m, m ≤ n → 0 ≤ sumF f m ∧ sumF f m ≤ sumF f n := by
  induction n with
  | zero => intro m hm; obtain rfl : m = 0 := by omega
            exact ⟨Int.le_refl _, Int.le_refl _⟩
  | succ n ih =>
    intro m hm
    have h1 := h n (by omega)
    by_cases e : m = n + 1
    · subst e
      have := ih (fun i hi => h i (by omega)) n (Nat.le_refl _)
      simp only [sumF]
      exact ⟨by omega, Int.le_refl _⟩
    · have := ih (fun i hi => h i (by omega)) m (by omega)
      simp only [sumF]
      exact ⟨this.1, by omega⟩
theorem nat_in {k n : Nat} (h : k < n) : 0 ≤ (k : Int) ∧ (k : Int) < (n : Int) := ⟨Int.natCast_nonneg _, Int.ofNat_lt.2 h⟩
theorem SG.chk {R C : Nat} {l : List Int} (hG : SG R C l) : chkE ⟨R, C, l⟩ = 0 := by
  obtain ⟨r0, r1⟩ := hG.r
  obtain ⟨c0, c1⟩ := hG.c
  refine chk_ok (t := ⟨R, C, l⟩) (by show ¬ ((R : Int) < 1 ∨ 8 < (R : Int) ∨ (C : Int) < 1 ∨ 8 < (C : Int)); omega) ?_ (fun j hj z hz => ?_)
  · show ¬ (l.length : Int) ≠ (R : Int) * (C : Int)
    rw [hG.n]; simp
  · have hz' : l[j]? = some z := hz
    have he : at0 l j = z := by unfold at0; rw [List.getD_eq_getElem?_getD, hz']; rfl
    have := (hG.cell (i := j) hj).2.2
    rw [he] at this
    unfold badc1
    rw [decide_eq_false (by omega), decide_eq_false (by omega)]; rfl
theorem SG.net {R C : Nat} {l : List Int} (hG : SG R C l) (h : List Bool) (but : Nat) : NetGood (R + C) (netN R C l h but l.length) := by
  obtain ⟨r0, r1⟩ := hG.r
  obtain ⟨c0, c1⟩ := hG.c
  have h1 := hG.len
  have h2 := net_len (R := R) (C := C) (l := l) h but l.length
  refine ⟨by omega, by omega, by omega, hG.netOk h but, fun i hi => ?_⟩
  obtain ⟨_, _, _, d, e⟩ := net_mem hG h but l.length (Nat.le_refl _) _ (arcAt_mem hi)
  exact ⟨d, by rw [e]; decide, by rw [e]; decide⟩
theorem IsMost.pos {n : Nat} {l : List Arc} {s t v : Int} (h : NetOk n l) (hv : IsMost n l s t v) : 0 ≤ v := by
  obtain ⟨_, S, _, _, rfl⟩ := hv
  have := sumF_le (f := fun _ => 0) (g := fun i => if S (arcAt l i).u = true ∧ S (arcAt l i).v = false then (arcAt l i).cap else 0) l.length (fun i hi => by
    have := (h i hi).2.2
    show (0 : Int) ≤ _
    split <;> omega)
  rwa [sumF_zero] at this
set_option maxRecDepth 100000 in
set_option maxHeartbeats 4000000 in
theorem scheck_calls (w : World) (x : Since w) (R C : Nat) (l : List Int) (a : Option Addr) (c : Nat) (hL : IntRow w a l) (hG : SG R C l) :
    Calls Tryd.prog 46 #[.agg #[.int .i64 (R : Int), .int .i64 (C : Int), .slice a l.length c]] x.w fun o w' => o = .returned (.tuple #[.int .i64 0, .int .i64 0]) ∧ ∃ y : Since w, w' = y.w := by
  have HL := Lib.hid hL
  have HG := Lib.hid hG
  have hm1 := hG.len
  have HS := Lib.hid (sumF_mono l.length hG.z)
  have HS2 := Lib.hid hG.s
  have HC := Lib.hid hG.chk
  obtain ⟨m, hm⟩ : ∃ m, m = l.length := ⟨_, rfl⟩
  rw [← hm]
  rw [← hm] at hm1
  have Hm := Lib.hid hm
  clear hL hG hm
  go_enter Tryd.func46, Tryd.ntmps46
  go_upto_region 1 with fail
  have hb0_0 : ∀ y : Since (x.w.alloc (.cells #[.int .i64 (R : Int), .int .i64 (C : Int), .slice a m c] 31)), y.w.cell? ⟨x.w.heap.size, 0, none⟩ = some (.int .i64 (R : Int)) := fun y => Since.cell (by simp [go_sem]) (by first | (simp; done) | (simp; omega)) y
  have hb0_1 : ∀ y : Since (x.w.alloc (.cells #[.int .i64 (R : Int), .int .i64 (C : Int), .slice a m c] 31)), y.w.cell? ⟨x.w.heap.size, 1, none⟩ = some (.int .i64 (C : Int)) := fun y => Since.cell (by simp [go_sem]) (by first | (simp; done) | (simp; omega)) y
  have hb0_2 : ∀ y : Since (x.w.alloc (.cells #[.int .i64 (R : Int), .int .i64 (C : Int), .slice a m c] 31)), y.w.cell? ⟨x.w.heap.size, 2, none⟩ = some (.slice a m c) := fun y => Since.cell (by simp [go_sem]) (by first | (simp; done) | (simp; omega)) y
  have hf0 : ∀ (y : Since (x.w.alloc (.cells #[.int .i64 (R : Int), .int .i64 (C : Int), .slice a m c] 31))) (o : Nat), y.w.frozen? ⟨x.w.heap.size, o, none⟩ = false := fun y o => Since.free (by simp [go_sem]) (by first | (simp; done) | (simp; omega)) y
  have hWup : ∃ z : Since w, (x.w.alloc (.cells #[.int .i64 (R : Int), .int .i64 (C : Int), .slice a m c] 31)) = z.w := x.alloc _
  obtain ⟨y0, hy0⟩ := Since.refl (x.w.alloc (.cells #[.int .i64 (R : Int), .int .i64 (C : Int), .slice a m c] 31))
  have Hbx := Lib.hid (And.intro x.b.size (show x.w.heap.size + 1 = (x.w.alloc (.cells #[.int .i64 (R : Int), .int .i64 (C : Int), .slice a m c] 31)).heap.size from by simp))
  generalize hW : (x.w.alloc (.cells #[.int .i64 (R : Int), .int .i64 (C : Int), .slice a m c] 31)) = W at *
  clear hW
  generalize x.w.heap.size = bx at *
  have Hup := Lib.hid (Since.up hWup)
  rw [hy0]
  clear hy0
  replace HL := Lib.hid (HL.out.to hWup)
  clear hWup hf0
  have hE := tcheck_calls W y0 ⟨R, C, l⟩ a c HL.out (by show l.length ≤ _; rw [← Hm.out]; omega)
  rw [HC.out] at hE
  simp only [← Hm.out] at hE
  have HE := Lib.hid hE
  clear hE
  go_upto_region 4 with (go_at_call 36; (with_reducible refine HE.out.mono ?_); rintro _ _ ⟨rfl, y1, rfl⟩)
  clear HE
  go_upto_region 6 with fail
  go_loopw [5, 16] (fun v5 si wr => ∃ (k : Nat) (y : Since W), k ≤ m ∧ si = .int .i64 (k : Int) ∧ v5 = .int .i64 (sumF (at0 l) k) ∧ wr = y.w) (fun _ si _ => m - (intOf si).toNat)
  case atStart => exact ⟨0, y1, by omega, rfl, rfl, rfl⟩
  case round =>
    obtain ⟨k, y, hk, rfl, rfl, rfl⟩ := hrel
    obtain ⟨s0, s1⟩ := HS.out k (by rw [← Hm.out]; exact hk)
    have s2 := HS2.out
    by_cases hlt : k < m
    · have hk0 : (0 : Int) ≤ (k : Int) := by omega
      have hkl : (k : Int) < (m : Int) := by omega
      obtain ⟨b1, o1, rfl, hb1, hc1'⟩ := HL.out k (by have := Hm.out; omega)
      have f0 : y.w.cell? ⟨b1, o1 + k, none⟩ = some (.int .i64 (at0 l k)) := Since.cell hc1' hb1 y
      clear hb1 hc1'
      obtain ⟨_, _, z2, z3⟩ := HG.out.cell (i := k) (by have := Hm.out; omega)
      have Hn := Lib.hid (show sumF (at0 l) (k + 1) = sumF (at0 l) k + at0 l k from rfl)
      generalize sumF (at0 l) k = S at *
      generalize sumF (at0 l) l.length = S2 at *
      generalize at0 l k = e at *
      have ws : IntKind.i64.wrap (S + e) = S + e := IntWalk.i64_in _ (by omega)
      go_wp2_with fail
      go_roundw
      case rel => exact ⟨k + 1, y, by omega, by go_num, by rw [Hn.out], rfl⟩
      case measure => simp [intOf] <;> omega
    · obtain rfl : k = m := by omega
      generalize sumF (at0 l) k = S at *
      generalize sumF (at0 l) l.length = S2 at *
      have hs : ¬ (65536 : Int) < S := by omega
      go_wp2_with fail
      exact bodyPost_ret (v := .tuple #[.int .i64 0, .int .i64 0]) (by simp [results, Tryd.results46, go_sem]) rfl ⟨rfl, Hup.out _⟩
set_option linter.unusedSimpArgs false in
set_option maxRecDepth 100000 in
set_option maxHeartbeats 8000000 in
theorem interval_calls (w : World) (x : Since w) (R C : Nat) (l : List Int) (h : List Bool) (i : Nat) (a ah : Option Addr) (c ch : Nat) (hL : IntRow w a l) (hH : BlRow w ah h) (hG : SG R C l) (hh : h.length = l.length) (hi : i < l.length) :
    Calls Tryd.prog 47 #[.agg #[.int .i64 (R : Int), .int .i64 (C : Int), .slice a l.length c], .slice ah h.length ch, .int .i64 (i : Int)] x.w fun o w' => o = .returned (.agg #[.int .i64 (loV R C l h i), .int .i64 (hiV R C l h i)]) ∧ ∃ y : Since w, w' = y.w := by
  have HL := Lib.hid hL
  have HH := Lib.hid hH
  have HG := Lib.hid hG
  have hm1 := hG.len
  have HN := Lib.hid (network_calls · · R C l h i a ah c ch · · hG hh hi)
  have HNG := Lib.hid (hG.net h i)
  obtain ⟨hr0, hr1⟩ := hG.r
  obtain ⟨hc0, hc1⟩ := hG.c
  obtain ⟨z0, z1, z2, z3⟩ := hG.cell (i := i) hi
  have HB := Lib.hid (show bo h i = false → loV R C l h i = at0 l i ∧ hiV R C l h i = at0 l i from fun hb => by unfold loV hiV; rw [hb]; simp)
  have HY := Lib.hid (fun (g s : Int) (hg : IsMost (R + C) (netN R C l h i l.length) ((R + i % C : Nat) : Int) ((i / C : Nat) : Int) g) (hs : IsMost (R + C) (netN R C l h i l.length) ((i / C : Nat) : Int) ((R + i % C : Nat) : Int) s) (hb : bo h i = true) => show loV R C l h i = at0 l i - min (at0 l i) s ∧ hiV R C l h i = at0 l i + g from by
    unfold loV hiV gainV lossV
    rw [if_pos hb, if_pos hb, mostV_eq (hG.netOk h i) (nat_in (by omega)) hg, mostV_eq (hG.netOk h i) (nat_in (by omega)) hs]
    exact ⟨rfl, rfl⟩)
  generalize loV R C l h i = LO at *
  generalize hiV R C l h i = HI at *
  obtain ⟨m, hm⟩ : ∃ m, m = l.length := ⟨_, rfl⟩
  rw [hh, ← hm]
  have Hm := Lib.hid hm
  have Hh := Lib.hid hh
  have him : i < m := by omega
  have hm2 : m ≤ 64 := by omega
  obtain ⟨N, hN⟩ : ∃ N, N = netN R C l h i l.length := ⟨_, rfl⟩
  rw [← hN] at HN HNG HY
  rw [hh, ← hm] at HN
  clear hL hH hG hh hi hm hm1 hN
  go_enter Tryd.func47, Tryd.ntmps47
  go_upto_region 1 with fail
  have hb0_0 : ∀ y : Since ((x.w.alloc (.cells #[.int .i64 (R : Int), .int .i64 (C : Int), .slice a m c] 31)).alloc (.cells #[.int .i64 0, .int .i64 0] 56)), y.w.cell? ⟨x.w.heap.size, 0, none⟩ = some (.int .i64 (R : Int)) := fun y => Since.cell (by simp [go_sem]) (by first | (simp; done) | (simp; omega)) y
  have hb0_1 : ∀ y : Since ((x.w.alloc (.cells #[.int .i64 (R : Int), .int .i64 (C : Int), .slice a m c] 31)).alloc (.cells #[.int .i64 0, .int .i64 0] 56)), y.w.cell? ⟨x.w.heap.size, 1, none⟩ = some (.int .i64 (C : Int)) := fun y => Since.cell (by simp [go_sem]) (by first | (simp; done) | (simp; omega)) y
  have hb0_2 : ∀ y : Since ((x.w.alloc (.cells #[.int .i64 (R : Int), .int .i64 (C : Int), .slice a m c] 31)).alloc (.cells #[.int .i64 0, .int .i64 0] 56)), y.w.cell? ⟨x.w.heap.size, 2, none⟩ = some (.slice a m c) := fun y => Since.cell (by simp [go_sem]) (by first | (simp; done) | (simp; omega)) y
  have hf0 : ∀ (y : Since ((x.w.alloc (.cells #[.int .i64 (R : Int), .int .i64 (C : Int), .slice a m c] 31)).alloc (.cells #[.int .i64 0, .int .i64 0] 56))) (o : Nat), y.w.frozen? ⟨x.w.heap.size, o, none⟩ = false := fun y o => Since.free (by simp [go_sem]) (by first | (simp; done) | (simp; omega)) y
  have hb1_0 : ∀ y : Since ((x.w.alloc (.cells #[.int .i64 (R : Int), .int .i64 (C : Int), .slice a m c] 31)).alloc (.cells #[.int .i64 0, .int .i64 0] 56)), y.w.cell? ⟨x.w.heap.size + 1, 0, none⟩ = some (.int .i64 0) := fun y => Since.cell (by simp [go_sem]) (by first | (simp; done) | (simp; omega)) y
  have hb1_1 : ∀ y : Since ((x.w.alloc (.cells #[.int .i64 (R : Int), .int .i64 (C : Int), .slice a m c] 31)).alloc (.cells #[.int .i64 0, .int .i64 0] 56)), y.w.cell? ⟨x.w.heap.size + 1, 1, none⟩ = some (.int .i64 0) := fun y => Since.cell (by simp [go_sem]) (by first | (simp; done) | (simp; omega)) y
  have hf1 : ∀ (y : Since ((x.w.alloc (.cells #[.int .i64 (R : Int), .int .i64 (C : Int), .slice a m c] 31)).alloc (.cells #[.int .i64 0, .int .i64 0] 56))) (o : Nat), y.w.frozen? ⟨x.w.heap.size + 1, o, none⟩ = false := fun y o => Since.free (by simp [go_sem]) (by first | (simp; done) | (simp; omega)) y
  have hWup : ∃ z : Since w, ((x.w.alloc (.cells #[.int .i64 (R : Int), .int .i64 (C : Int), .slice a m c] 31)).alloc (.cells #[.int .i64 0, .int .i64 0] 56)) = z.w := Since.allocs x [.cells #[.int .i64 (R : Int), .int .i64 (C : Int), .slice a m c] 31, .cells #[.int .i64 0, .int .i64 0] 56]
  obtain ⟨y0, hy0⟩ := Since.refl ((x.w.alloc (.cells #[.int .i64 (R : Int), .int .i64 (C : Int), .slice a m c] 31)).alloc (.cells #[.int .i64 0, .int .i64 0] 56))
  have Hbx := Lib.hid (And.intro x.b.size (show x.w.heap.size + 2 = ((x.w.alloc (.cells #[.int .i64 (R : Int), .int .i64 (C : Int), .slice a m c] 31)).alloc (.cells #[.int .i64 0, .int .i64 0] 56)).heap.size from by simp))
  generalize hW : ((x.w.alloc (.cells #[.int .i64 (R : Int), .int .i64 (C : Int), .slice a m c] 31)).alloc (.cells #[.int .i64 0, .int .i64 0] 56)) = W at *
  clear hW
  generalize x.w.heap.size = bx at *
  have Hup := Lib.hid (Since.up hWup)
  rw [hy0]
  clear hy0
  replace HL := Lib.hid (HL.out.to hWup)
  replace HH := Lib.hid (HH.out.to hWup)
  clear hWup hf0
  have hi0 : (0 : Int) ≤ (i : Int) := by omega
  have hil : (i : Int) < (m : Int) := by omega
  obtain ⟨b1, o1, rfl, hb1, hc1'⟩ := HL.out i (by have := Hm.out; omega)
  have f0 : y0.w.cell? ⟨b1, o1 + i, none⟩ = some (.int .i64 (at0 l i)) := Since.cell hc1' hb1 y0
  obtain ⟨b2, o2, rfl, hb2, hc2'⟩ := HH.out i (by have := Hm.out; have := Hh.out; omega)
  have f1 : y0.w.cell? ⟨b2, o2 + i, none⟩ = some (.bool (bo h i)) := Since.cell hc2' hb2 y0
  clear hb1 hc1' hb2 hc2'
  cases hb : bo h i
  · rw [hb] at f1
    have HE := Lib.hid (HB.out hb)
    clear HB HY HN hb
    generalize at0 l i = e at *
    go_wp2_with fail
    have hsm : ∀ j, j < 2 → (y0.w.cell? ⟨bx + 1, j, none⟩).isSome = true := fun j hj => by
      match j, hj with
      | 0, _ => rw [hb1_0 y0]; rfl
      | 1, _ => rw [hb1_1 y0]; rfl
    obtain ⟨Z, hz, hc⟩ := set_many y0 (g := bx + 1) [.int .i64 e, .int .i64 e] hsm (Hup.out y0) (by have := Hbx.out; omega)
    simp only [World.setCells, Nat.reduceAdd] at hz
    rw [hz]
    have hc0 := hc 0 _ rfl
    have hc1 := hc 1 _ rfl
    exact bodyPost_ret (v := .agg #[.int .i64 e, .int .i64 e]) (by simp [results, Tryd.results47, go_sem, hc0, hc1]) rfl ⟨by rw [HE.out.1, HE.out.2], Z, rfl⟩
  · rw [hb] at f1
    have HY2 := Lib.hid (fun g s hg hs => HY.out g s hg hs hb)
    clear HB HY hb
    go_upto_region 4 with fail
    generalize he : at0 l i = e at *
    clear f0 f1 he
    have HN2 := Lib.hid (HN.out W y0 HL.out HH.out)
    clear HN
    go_upto_region 5 with (go_at_call 67; (with_reducible refine HN2.out.mono ?_); rintro _ _ ⟨an, cn, y1, rfl, rfl, hA⟩; have HA := Lib.hid hA; clear hA)
    have hx0 : (y1.w.alloc (.cells #[.int .i64 ((R : Int) + (C : Int)), .slice an N.length cn] 112)).cell? ⟨y1.w.heap.size, 0, none⟩ = some (.int .i64 ((R : Int) + (C : Int))) := by simp [go_sem]
    have hx1 : (y1.w.alloc (.cells #[.int .i64 ((R : Int) + (C : Int)), .slice an N.length cn] 112)).cell? ⟨y1.w.heap.size, 1, none⟩ = some (.slice an N.length cn) := by simp [go_sem]
    have hxf : ∀ o, (y1.w.alloc (.cells #[.int .i64 ((R : Int) + (C : Int)), .slice an N.length cn] 112)).frozen? ⟨y1.w.heap.size, o, none⟩ = false := fun o => by simp [go_sem]
    have hlt0 : y1.w.heap.size < (y1.w.alloc (.cells #[.int .i64 ((R : Int) + (C : Int)), .slice an N.length cn] 112)).heap.size := by simp
    have hst0 : ∃ zz : Since y1.w, (y1.w.alloc (.cells #[.int .i64 ((R : Int) + (C : Int)), .slice an N.length cn] 112)) = zz.w := IsSince.alloc (IsSince.self _) _
    have hsz0 := y1.b.size
    obtain ⟨y2, e2⟩ := IsSince.alloc (IsSince.of y1) (.cells #[.int .i64 ((R : Int) + (C : Int)), .slice an N.length cn] 112)
    rw [e2] at hx0 hx1 hxf hlt0 hst0 ⊢
    have hA2 := HA.out.to hst0
    clear e2 hst0
    generalize y1.w.heap.size = gn at *
    have Hhx0 : ∀ q : Since y2.w, q.w.cell? ⟨gn, 0, none⟩ = some (.int .i64 ((R : Int) + (C : Int))) := fun q => Since.cell hx0 (by omega) q
    have Hhx1 : ∀ q : Since y2.w, q.w.cell? ⟨gn, 1, none⟩ = some (.slice an N.length cn) := fun q => Since.cell hx1 (by omega) q
    have Hhxf : ∀ (q : Since y2.w) (o : Nat), q.w.frozen? ⟨gn, o, none⟩ = false := fun q o => Since.free (hxf o) (by omega) q
    have Hhxg := Lib.hid (And.intro hsz0 hlt0)
    clear hlt0 hsz0
    have HA2 := Lib.hid hA2
    clear hA2 HA HN2 hx0 hx1 hxf Hhxf Hhxg HL HH
    change Code.wp _ _ _ _ (Since.self y2.w).w
    replace hb0_0 := Since.cellTo ⟨y2, rfl⟩ hb0_0
    replace hb0_1 := Since.cellTo ⟨y2, rfl⟩ hb0_1
    have hCp : (0 : Int) < (C : Int) := by omega
    have wq := Lib.hid (wrap_quo z0 hr1)
    have wr := Lib.hid (wrap_rem z1 hr1 hc1)
    refine wp_region_since (by kernel_rfl) (by kernel_rfl) ?_
    repeat (go_big_quiet_step (fail))
    refine wpQuiet_nil ?_
    rintro _ ⟨z, rfl⟩
    (try simp only [wq.out, wr.out])
    have hqc : i / C < R + C := by omega
    have hrc : R + i % C < R + C := by omega
    have hqr : i / C ≠ R + i % C := by omega
    have HM1 := Lib.hid (fun z => most_calls y2.w z N (R + C) (R + i % C) (i / C) an cn HA2.out HNG.out hrc hqc hqr)
    have HM2 := Lib.hid (fun z => most_calls y2.w z N (R + C) (i / C) (R + i % C) an cn HA2.out HNG.out hqc hrc (Ne.symm hqr))
    rw [← Int.natCast_emod, ← Int.natCast_ediv, ← Int.natCast_add R (i % C)]
    generalize R + i % C = cl at *
    generalize i / C = q at *
    rw [Int.natCast_add] at HM1 HM2
    have HB1 := Lib.hid (fun (v : Int) (hv : IsMost (R + C) N (cl : Int) (q : Int) v) => show 0 ≤ v ∧ v ≤ 33554432 from ⟨hv.pos HNG.out.ok, by obtain ⟨f, hf⟩ := hv.1; exact hf.small HNG.out hrc hqr⟩)
    have HB2 := Lib.hid (fun (v : Int) (hv : IsMost (R + C) N (q : Int) (cl : Int) v) => show 0 ≤ v ∧ v ≤ 33554432 from ⟨hv.pos HNG.out.ok, by obtain ⟨f, hf⟩ := hv.1; exact hf.small HNG.out hqc (Ne.symm hqr)⟩)
    clear wq wr hCp
    go_upto_region 7 with (go_at_call 68; (with_reducible refine (HM1.out _).mono ?_); rintro _ _ ⟨g, ⟨rfl, hg⟩, z3', rfl⟩; have Hg := Lib.hid hg; have hg2 := HB1.out _ hg; clear hg)
    clear HM1 HB1
    go_upto_region 8 with (go_at_call 68; (with_reducible refine (HM2.out _).mono ?_); rintro _ _ ⟨s, ⟨rfl, hs⟩, z4, rfl⟩; have Hs := Lib.hid hs; have hs2 := HB2.out _ hs; clear hs)
    have HF := Lib.hid (HY2.out g s Hg.out Hs.out)
    clear HM2 HB2 HY2
    obtain ⟨z5, h5⟩ := y2.trans z4
    rw [h5]
    obtain ⟨mn, hmn⟩ : ∃ mn, mn = min e s := ⟨_, rfl⟩
    have hm0 : 0 ≤ mn ∧ mn ≤ 65536 := by rw [hmn]; omega
    have w1 : IntKind.i64.wrap (e - mn) = e - mn := IntWalk.i64_in _ (by omega)
    have w2 : IntKind.i64.wrap (e + g) = e + g := IntWalk.i64_in _ (by omega)
    rw [hmn] at w1
    go_wp2_with fail
    have hsm : ∀ j, j < 2 → (z5.w.cell? ⟨bx + 1, j, none⟩).isSome = true := fun j hj => by
      match j, hj with
      | 0, _ => rw [hb1_0 z5]; rfl
      | 1, _ => rw [hb1_1 z5]; rfl
    obtain ⟨Z, hz, hc⟩ := set_many z5 (g := bx + 1) [.int .i64 (e - min e s), .int .i64 (e + g)] hsm (Hup.out z5) (by have := Hbx.out; omega)
    simp only [World.setCells, Nat.reduceAdd] at hz
    rw [hz]
    have hc0 := hc 0 _ rfl
    have hc1 := hc 1 _ rfl
    exact bodyPost_ret (v := .agg #[.int .i64 (e - min e s), .int .i64 (e + g)]) (by simp [results, Tryd.results47, go_sem, hc0, hc1]) rfl ⟨by rw [HF.out.1, HF.out.2], Z, rfl⟩
end Go.Proofs.YtdkcclngionihaaDoor
/- The interval of a cell, the first unsf cell, walked. -/
namespace Go.Proofs.YtdkcclngionihaaDoor
open Go.RowKit

theorem mostV_in {n : Nat} {l : List Arc} {s t : Nat} (hG : NetGood n l) (hs : s < n) (hst : t ≠ s) : 0 ≤ mostV n l (s : Int) (t : Int) ∧ mostV n l (s : Int) (t : Int) ≤ 33554432 := by
  by_cases h : ∃ v, IsMost n l (s : Int) (t : Int) v
  · obtain ⟨v, hv⟩ := h
    rw [mostV_eq hG.ok (nat_in hs) hv]
    obtain ⟨f, hf⟩ := hv.1
    exact ⟨hv.pos hG.ok, hf.small hG hs hst⟩
  · have : mostV n l (s : Int) (t : Int) = 0 := by unfold mostV; rw [dif_neg h]
    rw [this]; exact ⟨Int.le_refl _, by decide⟩
theorem SG.iv {R C : Nat} {l : List Int} (hG : SG R C l) (h : List Bool) {i : Nat} (hi : i < l.length) : 0 ≤ loV R C l h i ∧ loV R C l h i ≤ at0 l i ∧ at0 l i ≤ hiV R C l h i ∧ hiV R C l h i ≤ 33619968 := by
  obtain ⟨z0, z1, z2, z3⟩ := hG.cell (i := i) hi
  have hN := hG.net h i
  have h1 := mostV_in (s := R + i % C) (t := i / C) hN (by omega) (by omega)
  have h2 := mostV_in (s := i / C) (t := R + i % C) hN (by omega) (by omega)
  unfold loV hiV gainV lossV
  generalize mostV (R + C) (netN R C l h i l.length) ((R + i % C : Nat) : Int) ((i / C : Nat) : Int) = g at *
  generalize mostV (R + C) (netN R C l h i l.length) ((i / C : Nat) : Int) ((R + i % C : Nat) : Int) = s at *
  by_cases hb : bo h i = true
  · rw [if_pos hb, if_pos hb]; omega
  · rw [if_neg hb, if_neg hb]; omega
set_option linter.unusedSimpArgs false in
set_option maxRecDepth 100000 in
set_option maxHeartbeats 8000000 in
theorem srange_calls (w : World) (x : Since w) (R C : Nat) (l : List Int) (h : List Bool) (i : Nat) (a ah : Option Addr) (c ch : Nat) (hL : IntRow w a l) (hH : BlRow w ah h) (hG : SG R C l) (hh : h.length = l.length) (hi : i < l.length) :
    Calls Tryd.prog 22 #[.agg #[.int .i64 (R : Int), .int .i64 (C : Int), .slice a l.length c], .slice ah h.length ch, .int .i64 (i : Int)] x.w fun o w' => o = .returned (.tuple #[.agg #[.int .i64 (loV R C l h i), .int .i64 (hiV R C l h i)], .int .i64 0]) ∧ ∃ y : Since w, w' = y.w := by
  have HL := Lib.hid hL
  have HH := Lib.hid hH
  have HC := Lib.hid (fun (w : World) (x : Since w) hL => scheck_calls w x R C l a c hL hG)
  have HI := Lib.hid (fun (w : World) (x : Since w) hL hH => interval_calls w x R C l h i a ah c ch hL hH hG hh hi)
  generalize loV R C l h i = LO at *
  generalize hiV R C l h i = HI2 at *
  have hm1 := hG.len
  obtain ⟨m, hm⟩ : ∃ m, m = l.length := ⟨_, rfl⟩
  rw [hh, ← hm] at HI
  rw [← hm] at HC
  rw [hh, ← hm]
  have him : i < m := by omega
  clear hL hH hG hh hi hm hm1
  go_enter Tryd.func22, Tryd.ntmps22
  go_upto_region 1 with fail
  have hb0_0 : ∀ y : Since ((x.w.alloc (.cells #[.int .i64 (R : Int), .int .i64 (C : Int), .slice a m c] 31)).alloc (.cells #[.int .i64 0, .int .i64 0] 56)), y.w.cell? ⟨x.w.heap.size, 0, none⟩ = some (.int .i64 (R : Int)) := fun y => Since.cell (by simp [go_sem]) (by first | (simp; done) | (simp; omega)) y
  have hb0_1 : ∀ y : Since ((x.w.alloc (.cells #[.int .i64 (R : Int), .int .i64 (C : Int), .slice a m c] 31)).alloc (.cells #[.int .i64 0, .int .i64 0] 56)), y.w.cell? ⟨x.w.heap.size, 1, none⟩ = some (.int .i64 (C : Int)) := fun y => Since.cell (by simp [go_sem]) (by first | (simp; done) | (simp; omega)) y
  have hb0_2 : ∀ y : Since ((x.w.alloc (.cells #[.int .i64 (R : Int), .int .i64 (C : Int), .slice a m c] 31)).alloc (.cells #[.int .i64 0, .int .i64 0] 56)), y.w.cell? ⟨x.w.heap.size, 2, none⟩ = some (.slice a m c) := fun y => Since.cell (by simp [go_sem]) (by first | (simp; done) | (simp; omega)) y
  have hf0 : ∀ (y : Since ((x.w.alloc (.cells #[.int .i64 (R : Int), .int .i64 (C : Int), .slice a m c] 31)).alloc (.cells #[.int .i64 0, .int .i64 0] 56))) (o : Nat), y.w.frozen? ⟨x.w.heap.size, o, none⟩ = false := fun y o => Since.free (by simp [go_sem]) (by first | (simp; done) | (simp; omega)) y
  have hb1_0 : ∀ y : Since ((x.w.alloc (.cells #[.int .i64 (R : Int), .int .i64 (C : Int), .slice a m c] 31)).alloc (.cells #[.int .i64 0, .int .i64 0] 56)), y.w.cell? ⟨x.w.heap.size + 1, 0, none⟩ = some (.int .i64 0) := fun y => Since.cell (by simp [go_sem]) (by first | (simp; done) | (simp; omega)) y
  have hb1_1 : ∀ y : Since ((x.w.alloc (.cells #[.int .i64 (R : Int), .int .i64 (C : Int), .slice a m c] 31)).alloc (.cells #[.int .i64 0, .int .i64 0] 56)), y.w.cell? ⟨x.w.heap.size + 1, 1, none⟩ = some (.int .i64 0) := fun y => Since.cell (by simp [go_sem]) (by first | (simp; done) | (simp; omega)) y
  have hf1 : ∀ (y : Since ((x.w.alloc (.cells #[.int .i64 (R : Int), .int .i64 (C : Int), .slice a m c] 31)).alloc (.cells #[.int .i64 0, .int .i64 0] 56))) (o : Nat), y.w.frozen? ⟨x.w.heap.size + 1, o, none⟩ = false := fun y o => Since.free (by simp [go_sem]) (by first | (simp; done) | (simp; omega)) y
  have hWup : ∃ z : Since w, ((x.w.alloc (.cells #[.int .i64 (R : Int), .int .i64 (C : Int), .slice a m c] 31)).alloc (.cells #[.int .i64 0, .int .i64 0] 56)) = z.w := Since.allocs x [.cells #[.int .i64 (R : Int), .int .i64 (C : Int), .slice a m c] 31, .cells #[.int .i64 0, .int .i64 0] 56]
  obtain ⟨y0, hy0⟩ := Since.refl ((x.w.alloc (.cells #[.int .i64 (R : Int), .int .i64 (C : Int), .slice a m c] 31)).alloc (.cells #[.int .i64 0, .int .i64 0] 56))
  have Hbx := Lib.hid (And.intro x.b.size (show x.w.heap.size + 2 = ((x.w.alloc (.cells #[.int .i64 (R : Int), .int .i64 (C : Int), .slice a m c] 31)).alloc (.cells #[.int .i64 0, .int .i64 0] 56)).heap.size from by simp))
  generalize hW : ((x.w.alloc (.cells #[.int .i64 (R : Int), .int .i64 (C : Int), .slice a m c] 31)).alloc (.cells #[.int .i64 0, .int .i64 0] 56)) = W at *
  clear hW
  generalize x.w.heap.size = bx at *
  have Hup := Lib.hid (Since.up hWup)
  rw [hy0]
  clear hy0
  replace HL := Lib.hid (HL.out.to hWup)
  replace HH := Lib.hid (HH.out.to hWup)
  clear hWup hf0
  have hi0 : (0 : Int) ≤ (i : Int) := by omega
  have hil : (i : Int) < (m : Int) := by omega
  have H1 := Lib.hid (HC.out W y0 HL.out)
  have H2 := Lib.hid (fun z : Since W => HI.out W z HL.out HH.out)
  clear HC HI HL HH
  go_wp2_with (first | (go_at_call 46; ((with_reducible refine H1.out.mono ?_); rintro _ _ ⟨rfl, y1, rfl⟩)) | (go_at_call 47; ((with_reducible refine (H2.out _).mono ?_); rintro _ _ ⟨rfl, y2, rfl⟩)))
  have hsm : ∀ j, j < 2 → (y2.w.cell? ⟨bx + 1, j, none⟩).isSome = true := fun j hj => by
    match j, hj with
    | 0, _ => rw [hb1_0 y2]; rfl
    | 1, _ => rw [hb1_1 y2]; rfl
  obtain ⟨Z, hz, hc⟩ := set_many y2 (g := bx + 1) [.int .i64 LO, .int .i64 HI2] hsm (Hup.out y2) (by have := Hbx.out; omega)
  simp only [World.setCells, Nat.reduceAdd] at hz
  rw [hz]
  have hc0 := hc 0 _ rfl
  have hc1 := hc 1 _ rfl
  exact bodyPost_ret (v := .tuple #[.agg #[.int .i64 LO, .int .i64 HI2], .int .i64 0]) (by simp [results, Tryd.results22, go_sem, hc0, hc1]) rfl ⟨rfl, Z, rfl⟩
set_option linter.unusedSimpArgs false in
set_option maxRecDepth 100000 in
set_option maxHeartbeats 8000000 in
theorem unsf_calls (w : World) (x : Since w) (R C : Nat) (l : List Int) (h : List Bool) (width : Int) (a ah : Option Addr) (c ch : Nat) (hL : IntRow w a l) (hH : BlRow w ah h) (hG : SG R C l) (hh : h.length = l.length) :
    Calls Tryd.prog 52 #[.agg #[.int .i64 (R : Int), .int .i64 (C : Int), .slice a l.length c], .slice ah h.length ch, .int .i64 width] x.w fun o w' => o = .returned (.int .i64 (orNeg (unsV R C l h width))) ∧ ∃ y : Since w, w' = y.w := by
  have HL := Lib.hid hL
  have HH := Lib.hid hH
  have hm1 := hG.len
  obtain ⟨m, hm⟩ : ∃ m, m = l.length := ⟨_, rfl⟩
  have HI := Lib.hid (fun (w : World) (x : Since w) hL hH (i : Nat) (hi : i < m) => interval_calls w x R C l h i a ah c ch hL hH hG hh (by omega))
  have HV := Lib.hid (fun (i : Nat) (hi : i < m) => hG.iv h (i := i) (by omega))
  have Hno := Lib.hid (fun (hn : ∀ j, j < m → narrow R C l h width j = false) => show orNeg (unsV R C l h width) = -1 from by unfold unsV; rw [fstP_none (by rw [hh, ← hm]; exact hn)]; rfl)
  have Hyes := Lib.hid (fun (k : Nat) (hk : k < m) (hp : narrow R C l h width k = true) (hn : ∀ j, j < k → narrow R C l h width j = false) => show orNeg (unsV R C l h width) = (k : Int) from by unfold unsV; rw [fstP_some (by rw [hh, ← hm]; exact hk) hp hn]; rfl)
  rw [hh, ← hm] at HI
  rw [hh, ← hm]
  have Hm := Lib.hid hm
  have Hh := Lib.hid hh
  generalize orNeg (unsV R C l h width) = U at *
  have hm64 : m ≤ 64 := by omega
  clear hL hH hG hh hm hm1
  go_enter Tryd.func52, Tryd.ntmps52
  go_upto_region 1 with fail
  have hb0_0 : ∀ y : Since (x.w.alloc (.cells #[.int .i64 (R : Int), .int .i64 (C : Int), .slice a m c] 31)), y.w.cell? ⟨x.w.heap.size, 0, none⟩ = some (.int .i64 (R : Int)) := fun y => Since.cell (by simp [go_sem]) (by first | (simp; done) | (simp; omega)) y
  have hb0_1 : ∀ y : Since (x.w.alloc (.cells #[.int .i64 (R : Int), .int .i64 (C : Int), .slice a m c] 31)), y.w.cell? ⟨x.w.heap.size, 1, none⟩ = some (.int .i64 (C : Int)) := fun y => Since.cell (by simp [go_sem]) (by first | (simp; done) | (simp; omega)) y
  have hb0_2 : ∀ y : Since (x.w.alloc (.cells #[.int .i64 (R : Int), .int .i64 (C : Int), .slice a m c] 31)), y.w.cell? ⟨x.w.heap.size, 2, none⟩ = some (.slice a m c) := fun y => Since.cell (by simp [go_sem]) (by first | (simp; done) | (simp; omega)) y
  have hf0 : ∀ (y : Since (x.w.alloc (.cells #[.int .i64 (R : Int), .int .i64 (C : Int), .slice a m c] 31))) (o : Nat), y.w.frozen? ⟨x.w.heap.size, o, none⟩ = false := fun y o => Since.free (by simp [go_sem]) (by first | (simp; done) | (simp; omega)) y
  have hWup : ∃ z : Since w, (x.w.alloc (.cells #[.int .i64 (R : Int), .int .i64 (C : Int), .slice a m c] 31)) = z.w := x.alloc _
  obtain ⟨y0, hy0⟩ := Since.refl (x.w.alloc (.cells #[.int .i64 (R : Int), .int .i64 (C : Int), .slice a m c] 31))
  have Hbx := Lib.hid (And.intro x.b.size (show x.w.heap.size + 1 = (x.w.alloc (.cells #[.int .i64 (R : Int), .int .i64 (C : Int), .slice a m c] 31)).heap.size from by simp))
  generalize hW : (x.w.alloc (.cells #[.int .i64 (R : Int), .int .i64 (C : Int), .slice a m c] 31)) = W at *
  clear hW
  generalize x.w.heap.size = bx at *
  have Hup := Lib.hid (Since.up hWup)
  rw [hy0]
  clear hy0
  replace HL := Lib.hid (HL.out.to hWup)
  replace HH := Lib.hid (HH.out.to hWup)
  clear hWup hf0
  go_upto_region 2 with fail
  go_loopw [11] (fun si wr => ∃ (k : Nat) (y : Since W), k ≤ m ∧ si = .int .i64 (k : Int) ∧ wr = y.w ∧ ∀ j, j < k → narrow R C l h width j = false) (fun si _ => m - (intOf si).toNat)
  case atStart => exact ⟨0, y0, by omega, rfl, rfl, fun j hj => by omega⟩
  case round =>
    obtain ⟨k, y, hk, rfl, rfl, hn⟩ := hrel
    have Hn := Lib.hid hn
    clear hn
    by_cases hlt : k < m
    · have hk0 : (0 : Int) ≤ (k : Int) := by omega
      have hkl : (k : Int) < (m : Int) := by omega
      obtain ⟨b2, o2, rfl, hb2, hc2'⟩ := HH.out k (by have := Hm.out; have := Hh.out; omega)
      have f1 : ∀ q : Since W, q.w.cell? ⟨b2, o2 + k, none⟩ = some (.bool (bo h k)) := fun q => Since.cell hc2' hb2 q
      clear hb2 hc2'
      have H2 := Lib.hid (HI.out W y HL.out HH.out k hlt)
      obtain ⟨v0, v1, v2, v3⟩ := HV.out k hlt
      have HNar := Lib.hid (show narrow R C l h width k = (bo h k && decide (hiV R C l h k - loV R C l h k < width)) from rfl)
      generalize loV R C l h k = LO at *
      generalize hiV R C l h k = HI2 at *
      generalize at0 l k = e at *
      go_upto_region 5 with (go_at_call 47; ((with_reducible refine H2.out.mono ?_); rintro _ _ ⟨rfl, y1, rfl⟩))
      clear H2
      have hx0 : (y1.w.alloc (.cells #[.int .i64 LO, .int .i64 HI2] 56)).cell? ⟨y1.w.heap.size, 0, none⟩ = some (.int .i64 LO) := by simp [go_sem]
      have hx1 : (y1.w.alloc (.cells #[.int .i64 LO, .int .i64 HI2] 56)).cell? ⟨y1.w.heap.size, 1, none⟩ = some (.int .i64 HI2) := by simp [go_sem]
      have hxf : ∀ o, (y1.w.alloc (.cells #[.int .i64 LO, .int .i64 HI2] 56)).frozen? ⟨y1.w.heap.size, o, none⟩ = false := fun o => by simp [go_sem]
      have hlt0 : y1.w.heap.size < (y1.w.alloc (.cells #[.int .i64 LO, .int .i64 HI2] 56)).heap.size := by simp
      have hst0 : ∃ zz : Since y1.w, (y1.w.alloc (.cells #[.int .i64 LO, .int .i64 HI2] 56)) = zz.w := IsSince.alloc (IsSince.self _) _
      have hsz0 := y1.b.size
      obtain ⟨y2, e2⟩ := IsSince.alloc (IsSince.of y1) (.cells #[.int .i64 LO, .int .i64 HI2] 56)
      rw [e2] at hx0 hx1 hxf hlt0 hst0 ⊢
      skip
      clear e2 hst0
      generalize y1.w.heap.size = gz at *
      have Hhx0 : ∀ q : Since y2.w, q.w.cell? ⟨gz, 0, none⟩ = some (.int .i64 LO) := fun q => Since.cell hx0 (by omega) q
      have Hhx1 : ∀ q : Since y2.w, q.w.cell? ⟨gz, 1, none⟩ = some (.int .i64 HI2) := fun q => Since.cell hx1 (by omega) q
      have Hhxf : ∀ (q : Since y2.w) (o : Nat), q.w.frozen? ⟨gz, o, none⟩ = false := fun q o => Since.free (hxf o) (by omega) q
      have Hhxg := Lib.hid (And.intro hsz0 hlt0)
      clear hlt0 hsz0
      clear hx0 hx1 hxf Hhxf Hhxg
      obtain ⟨q0, hq0⟩ := Since.refl y2.w
      rw [hq0]
      clear hq0
      replace f1 := Since.cellTo ⟨y2, rfl⟩ f1
      cases hb : bo h k
      · rw [hb] at f1 HNar
        have Hstep := Lib.hid (fun j (hj : j < k + 1) => show narrow R C l h width j = false from by
          by_cases e : j = k
          · subst e; exact HNar.out
          · exact Hn.out j (by omega))
        have HQ := Lib.hid (show ∃ y3 : Since W, q0.w = y3.w from y2.trans q0)
        go_wp2_with fail
        obtain ⟨y3, h3⟩ := HQ.out
        rw [h3]
        go_roundw
        case rel => exact ⟨k + 1, y3, by omega, by go_num, rfl, Hstep.out⟩
        case measure => simp [intOf] <;> omega
      · rw [hb, Bool.true_and] at HNar
        rw [hb] at f1
        have ws : IntKind.i64.wrap (HI2 - LO) = HI2 - LO := IntWalk.i64_in _ (by omega)
        by_cases hw : HI2 - LO < width
        · have HU := Lib.hid (Hyes.out k hlt (HNar.out.trans (decide_eq_true hw)) Hn.out)
          have HQ := Lib.hid (show ∃ y3 : Since w, q0.w = y3.w from by obtain ⟨y3, h3⟩ := y2.trans q0; rw [h3]; exact Hup.out y3)
          clear Hyes Hno
          go_wp2_with fail
          go_ret
          exact ⟨ret_int HU.out.symm, HQ.out⟩
        · have Hstep := Lib.hid (fun j (hj : j < k + 1) => show narrow R C l h width j = false from by
            by_cases e : j = k
            · subst e; exact HNar.out.trans (decide_eq_false hw)
            · exact Hn.out j (by omega))
          have HQ := Lib.hid (show ∃ y3 : Since W, q0.w = y3.w from y2.trans q0)
          clear Hyes Hno
          go_wp2_with fail
          obtain ⟨y3, h3⟩ := HQ.out
          rw [h3]
          go_roundw
          case rel => exact ⟨k + 1, y3, by omega, by go_num, rfl, Hstep.out⟩
          case measure => simp [intOf] <;> omega
    · obtain rfl : k = m := by omega
      have HU := Lib.hid (Hno.out Hn.out)
      clear Hyes Hno
      go_wp2_with fail
      go_ret
      exact ⟨ret_int HU.out.symm, Hup.out y⟩
end Go.Proofs.YtdkcclngionihaaDoor
/- The cell that is hidden next, walked. Written by mknext.py. -/
namespace Go.Proofs.YtdkcclngionihaaDoor
open Go.RowKit

/-- the three kinds of cells -/
def fitV (C i : Nat) : Nat → Nat → Bool
  | 0, k => decide (k / C = i / C)
  | 1, k => decide (k % C = i % C)
  | _, _ => true
theorem fitV0 (C i k : Nat) : ((k : Int) / (C : Int) == (i : Int) / (C : Int)) = fitV C i 0 k := by
  rw [← Int.natCast_ediv, ← Int.natCast_ediv]
  show _ = decide (k / C = i / C)
  by_cases h : k / C = i / C
  · rw [h, decide_eq_true rfl]; exact beq_self_eq_true _
  · rw [decide_eq_false h, beq_eq_false_iff_ne]; omega
theorem fitV1 (C i k : Nat) : ((k : Int) % (C : Int) == (i : Int) % (C : Int)) = fitV C i 1 k := by
  rw [← Int.natCast_emod, ← Int.natCast_emod]
  show _ = decide (k % C = i % C)
  by_cases h : k % C = i % C
  · rw [h, decide_eq_true rfl]; exact beq_self_eq_true _
  · rw [decide_eq_false h, beq_eq_false_iff_ne]; omega
theorem nextV_eq {C i m : Nat} {h : List Bool} (hm : h.length = m) : nextV C h i = ((fstP (fun k => !bo h k && fitV C i 0 k) m).or (fstP (fun k => !bo h k && fitV C i 1 k) m)).or (fstP (fun k => !bo h k && fitV C i 2 k) m) := by
  subst hm
  have : (fun k => !bo h k && fitV C i 2 k) = (fun k => !bo h k) := funext fun k => Bool.and_true _
  rw [this]; rfl
theorem next_yes {C i m : Nat} {h : List Bool} (hm : h.length = m) {j k : Nat} (hj : j < 3) (hl : ∀ j', j' < j → ∀ q, q < m → (!bo h q && fitV C i j' q) = false) (hk : k < m) (hp : (!bo h k && fitV C i j k) = true) (hn : ∀ q, q < k → (!bo h q && fitV C i j q) = false) : orNeg (nextV C h i) = (k : Int) := by
  rw [nextV_eq hm]
  obtain rfl | rfl | rfl : j = 0 ∨ j = 1 ∨ j = 2 := by omega
  · rw [fstP_some hk hp hn]; rfl
  · rw [fstP_none (hl 0 (by omega)), fstP_some hk hp hn]; rfl
  · rw [fstP_none (hl 0 (by omega)), fstP_none (hl 1 (by omega)), fstP_some hk hp hn]; rfl
theorem next_no {C i m : Nat} {h : List Bool} (hm : h.length = m) (hl : ∀ j', j' < 3 → ∀ q, q < m → (!bo h q && fitV C i j' q) = false) : orNeg (nextV C h i) = -1 := by
  rw [nextV_eq hm, fstP_none (hl 0 (by omega)), fstP_none (hl 1 (by omega)), fstP_none (hl 2 (by omega))]; rfl
set_option maxRecDepth 100000 in
set_option maxHeartbeats 4000000 in
theorem next0_calls (w : World) (x : Since w) (R C i k bt bi : Nat) (hR : R ≤ 8) (hC : 0 < C ∧ C ≤ 8) (hi : i / C < R) (hk : k / C < R) (h1 : ∀ q : Since w, q.w.cell? ⟨bt, 1, none⟩ = some (.int .i64 (C : Int))) (h2 : ∀ q : Since w, q.w.cell? ⟨bi, 0, none⟩ = some (.int .i64 (i : Int))) :
    Calls Tryd.prog 75 #[.int .i64 (k : Int), .pointer (some ⟨bt, 0, none⟩), .pointer (some ⟨bi, 0, none⟩)] x.w fun o w' => o = .returned (.bool (fitV C i 0 k)) ∧ ∃ y : Since w, w' = y.w := by
  have wq := Lib.hid (wrap_quo hk hR)
  have wi := Lib.hid (wrap_quo hi hR)
  have HV := Lib.hid (fitV0 C i k)
  have hC0 : (0 : Int) < (C : Int) := by omega
  generalize fitV C i 0 k = V at *
  clear hi hk
  go_enter Tryd.func75, Tryd.ntmps75
  go_upto_region 1 with fail
  refine wp_region_since (by kernel_rfl) (by kernel_rfl) ?_
  repeat (go_big_quiet_step (fail))
  refine wpQuiet_nil ?_
  rintro _ ⟨y, rfl⟩
  (try simp only [wq.out, wi.out, HV.out])
  go_wp2_with fail
  go_ret
  exact ⟨rfl, y, rfl⟩
set_option maxRecDepth 100000 in
set_option maxHeartbeats 4000000 in
theorem next1_calls (w : World) (x : Since w) (R C i k bt bi : Nat) (_hR : R ≤ 8) (hC : 0 < C ∧ C ≤ 8) (hi : i / C < R) (hk : k / C < R) (h1 : ∀ q : Since w, q.w.cell? ⟨bt, 1, none⟩ = some (.int .i64 (C : Int))) (h2 : ∀ q : Since w, q.w.cell? ⟨bi, 0, none⟩ = some (.int .i64 (i : Int))) :
    Calls Tryd.prog 76 #[.int .i64 (k : Int), .pointer (some ⟨bt, 0, none⟩), .pointer (some ⟨bi, 0, none⟩)] x.w fun o w' => o = .returned (.bool (fitV C i 1 k)) ∧ ∃ y : Since w, w' = y.w := by
  have HV := Lib.hid (fitV1 C i k)
  have hC0 : (0 : Int) < (C : Int) := by omega
  generalize fitV C i 1 k = V at *
  clear hi hk
  go_enter Tryd.func76, Tryd.ntmps76
  go_upto_region 1 with fail
  refine wp_region_since (by kernel_rfl) (by kernel_rfl) ?_
  repeat (go_big_quiet_step (fail))
  refine wpQuiet_nil ?_
  rintro _ ⟨y, rfl⟩
  (try simp only [HV.out])
  go_wp2_with fail
  go_ret
  exact ⟨rfl, y, rfl⟩
set_option maxRecDepth 100000 in
set_option maxHeartbeats 4000000 in
theorem next2_calls (w : World) (x : Since w) (C i k : Nat) :
    Calls Tryd.prog 77 #[.int .i64 (k : Int)] x.w fun o w' => o = .returned (.bool (fitV C i 2 k)) ∧ ∃ y : Since w, w' = y.w := by
  go_enter Tryd.func77, Tryd.ntmps77
  go_wp2_with fail
  go_ret
  exact ⟨rfl, x, rfl⟩
set_option linter.unusedSimpArgs false in
set_option maxRecDepth 100000 in
set_option maxHeartbeats 8000000 in
theorem next_calls (w : World) (x : Since w) (R C i m : Nat) (h : List Bool) (a ah : Option Addr) (c ch : Nat) (hH : BlRow w ah h) (hh : h.length = m) (hR : R ≤ 8) (hC : 0 < C ∧ C ≤ 8) (hm : ∀ k, k < m → k / C < R) (hm64 : m ≤ 64) (hi : i < m) :
    Calls Tryd.prog 53 #[.agg #[.int .i64 (R : Int), .int .i64 (C : Int), .slice a m c], .slice ah h.length ch, .int .i64 (i : Int)] x.w fun o w' => o = .returned (.int .i64 (orNeg (nextV C h i))) ∧ ∃ y : Since w, w' = y.w := by
  have HH := Lib.hid hH
  have Hyes := Lib.hid (fun j k => next_yes (C := C) (i := i) hh (j := j) (k := k))
  have Hno := Lib.hid (next_no (C := C) (i := i) hh)
  have Hm := Lib.hid hm
  have Hi := Lib.hid (hm i hi)
  have Hh := Lib.hid hh
  have HfV := Lib.hid (show ∀ q, fitV C i 2 q = true from fun q => rfl)
  generalize orNeg (nextV C h i) = U at *
  rw [hh]
  clear hH hh hm hi
  go_enter Tryd.func53, Tryd.ntmps53
  go_upto_region 1 with fail
  have hb0_0 : ∀ y : Since ((x.w.alloc (.cells #[.int .i64 (R : Int), .int .i64 (C : Int), .slice a m c] 31)).alloc (.cells #[.int .i64 (i : Int)] 3)), y.w.cell? ⟨x.w.heap.size, 0, none⟩ = some (.int .i64 (R : Int)) := fun y => Since.cell (by simp [go_sem]) (by first | (simp; done) | (simp; omega)) y
  have hb0_1 : ∀ y : Since ((x.w.alloc (.cells #[.int .i64 (R : Int), .int .i64 (C : Int), .slice a m c] 31)).alloc (.cells #[.int .i64 (i : Int)] 3)), y.w.cell? ⟨x.w.heap.size, 1, none⟩ = some (.int .i64 (C : Int)) := fun y => Since.cell (by simp [go_sem]) (by first | (simp; done) | (simp; omega)) y
  have hb0_2 : ∀ y : Since ((x.w.alloc (.cells #[.int .i64 (R : Int), .int .i64 (C : Int), .slice a m c] 31)).alloc (.cells #[.int .i64 (i : Int)] 3)), y.w.cell? ⟨x.w.heap.size, 2, none⟩ = some (.slice a m c) := fun y => Since.cell (by simp [go_sem]) (by first | (simp; done) | (simp; omega)) y
  have hf0 : ∀ (y : Since ((x.w.alloc (.cells #[.int .i64 (R : Int), .int .i64 (C : Int), .slice a m c] 31)).alloc (.cells #[.int .i64 (i : Int)] 3))) (o : Nat), y.w.frozen? ⟨x.w.heap.size, o, none⟩ = false := fun y o => Since.free (by simp [go_sem]) (by first | (simp; done) | (simp; omega)) y
  have hb1_0 : ∀ y : Since ((x.w.alloc (.cells #[.int .i64 (R : Int), .int .i64 (C : Int), .slice a m c] 31)).alloc (.cells #[.int .i64 (i : Int)] 3)), y.w.cell? ⟨x.w.heap.size + 1, 0, none⟩ = some (.int .i64 (i : Int)) := fun y => Since.cell (by simp [go_sem]) (by first | (simp; done) | (simp; omega)) y
  have hf1 : ∀ (y : Since ((x.w.alloc (.cells #[.int .i64 (R : Int), .int .i64 (C : Int), .slice a m c] 31)).alloc (.cells #[.int .i64 (i : Int)] 3))) (o : Nat), y.w.frozen? ⟨x.w.heap.size + 1, o, none⟩ = false := fun y o => Since.free (by simp [go_sem]) (by first | (simp; done) | (simp; omega)) y
  have hWup : ∃ z : Since w, ((x.w.alloc (.cells #[.int .i64 (R : Int), .int .i64 (C : Int), .slice a m c] 31)).alloc (.cells #[.int .i64 (i : Int)] 3)) = z.w := Since.allocs x [.cells #[.int .i64 (R : Int), .int .i64 (C : Int), .slice a m c] 31, .cells #[.int .i64 (i : Int)] 3]
  obtain ⟨y0, hy0⟩ := Since.refl ((x.w.alloc (.cells #[.int .i64 (R : Int), .int .i64 (C : Int), .slice a m c] 31)).alloc (.cells #[.int .i64 (i : Int)] 3))
  have Hbx := Lib.hid (And.intro x.b.size (show x.w.heap.size + 2 = ((x.w.alloc (.cells #[.int .i64 (R : Int), .int .i64 (C : Int), .slice a m c] 31)).alloc (.cells #[.int .i64 (i : Int)] 3)).heap.size from by simp))
  generalize hW : ((x.w.alloc (.cells #[.int .i64 (R : Int), .int .i64 (C : Int), .slice a m c] 31)).alloc (.cells #[.int .i64 (i : Int)] 3)) = W at *
  clear hW
  generalize x.w.heap.size = bx at *
  have Hup := Lib.hid (Since.up hWup)
  rw [hy0]
  clear hy0
  replace HH := Lib.hid (HH.out.to hWup)
  clear hWup
  go_upto_region 2 with fail
  have hx0 : (y0.w.alloc (.cells #[.func (.func 75) #[] #[.pointer (some ⟨bx, 0, none⟩), .pointer (some ⟨bx + 1, 0, none⟩)], .func (.func 76) #[] #[.pointer (some ⟨bx, 0, none⟩), .pointer (some ⟨bx + 1, 0, none⟩)], .func (.func 77) #[] #[]] 118)).cell? ⟨y0.w.heap.size, 0, none⟩ = some (.func (.func 75) #[] #[.pointer (some ⟨bx, 0, none⟩), .pointer (some ⟨bx + 1, 0, none⟩)]) := by simp [go_sem]
  have hx1 : (y0.w.alloc (.cells #[.func (.func 75) #[] #[.pointer (some ⟨bx, 0, none⟩), .pointer (some ⟨bx + 1, 0, none⟩)], .func (.func 76) #[] #[.pointer (some ⟨bx, 0, none⟩), .pointer (some ⟨bx + 1, 0, none⟩)], .func (.func 77) #[] #[]] 118)).cell? ⟨y0.w.heap.size, 1, none⟩ = some (.func (.func 76) #[] #[.pointer (some ⟨bx, 0, none⟩), .pointer (some ⟨bx + 1, 0, none⟩)]) := by simp [go_sem]
  have hx2 : (y0.w.alloc (.cells #[.func (.func 75) #[] #[.pointer (some ⟨bx, 0, none⟩), .pointer (some ⟨bx + 1, 0, none⟩)], .func (.func 76) #[] #[.pointer (some ⟨bx, 0, none⟩), .pointer (some ⟨bx + 1, 0, none⟩)], .func (.func 77) #[] #[]] 118)).cell? ⟨y0.w.heap.size, 2, none⟩ = some (.func (.func 77) #[] #[]) := by simp [go_sem]
  have hxf : ∀ o, (y0.w.alloc (.cells #[.func (.func 75) #[] #[.pointer (some ⟨bx, 0, none⟩), .pointer (some ⟨bx + 1, 0, none⟩)], .func (.func 76) #[] #[.pointer (some ⟨bx, 0, none⟩), .pointer (some ⟨bx + 1, 0, none⟩)], .func (.func 77) #[] #[]] 118)).frozen? ⟨y0.w.heap.size, o, none⟩ = false := fun o => by simp [go_sem]
  have hlt0 : y0.w.heap.size < (y0.w.alloc (.cells #[.func (.func 75) #[] #[.pointer (some ⟨bx, 0, none⟩), .pointer (some ⟨bx + 1, 0, none⟩)], .func (.func 76) #[] #[.pointer (some ⟨bx, 0, none⟩), .pointer (some ⟨bx + 1, 0, none⟩)], .func (.func 77) #[] #[]] 118)).heap.size := by simp
  have hst0 : ∃ zz : Since y0.w, (y0.w.alloc (.cells #[.func (.func 75) #[] #[.pointer (some ⟨bx, 0, none⟩), .pointer (some ⟨bx + 1, 0, none⟩)], .func (.func 76) #[] #[.pointer (some ⟨bx, 0, none⟩), .pointer (some ⟨bx + 1, 0, none⟩)], .func (.func 77) #[] #[]] 118)) = zz.w := IsSince.alloc (IsSince.self _) _
  have hsz0 := y0.b.size
  obtain ⟨y1, e2⟩ := IsSince.alloc (IsSince.of y0) (.cells #[.func (.func 75) #[] #[.pointer (some ⟨bx, 0, none⟩), .pointer (some ⟨bx + 1, 0, none⟩)], .func (.func 76) #[] #[.pointer (some ⟨bx, 0, none⟩), .pointer (some ⟨bx + 1, 0, none⟩)], .func (.func 77) #[] #[]] 118)
  rw [e2] at hx0 hx1 hx2 hxf hlt0 hst0 ⊢
  skip
  clear e2 hst0
  generalize y0.w.heap.size = gs at *
  have Hhx0 : ∀ q : Since y1.w, q.w.cell? ⟨gs, 0, none⟩ = some (.func (.func 75) #[] #[.pointer (some ⟨bx, 0, none⟩), .pointer (some ⟨bx + 1, 0, none⟩)]) := fun q => Since.cell hx0 (by omega) q
  have Hhx1 : ∀ q : Since y1.w, q.w.cell? ⟨gs, 1, none⟩ = some (.func (.func 76) #[] #[.pointer (some ⟨bx, 0, none⟩), .pointer (some ⟨bx + 1, 0, none⟩)]) := fun q => Since.cell hx1 (by omega) q
  have Hhx2 : ∀ q : Since y1.w, q.w.cell? ⟨gs, 2, none⟩ = some (.func (.func 77) #[] #[]) := fun q => Since.cell hx2 (by omega) q
  have Hhxf : ∀ (q : Since y1.w) (o : Nat), q.w.frozen? ⟨gs, o, none⟩ = false := fun q o => Since.free (hxf o) (by omega) q
  have Hhxg := Lib.hid (And.intro hsz0 hlt0)
  clear hlt0 hsz0
  have Hz1 := Lib.hid (fun q : Since y1.w => show ∃ z : Since w, q.w = z.w from by obtain ⟨z2, h2⟩ := y1.trans q; rw [h2]; exact Hup.out z2)
  go_loopw [14] (fun si wr => ∃ (j : Nat) (y : Since y1.w), j ≤ 3 ∧ si = .int .i64 (j : Int) ∧ wr = y.w ∧ ∀ j', j' < j → ∀ q, q < m → (!bo h q && fitV C i j' q) = false) (fun si _ => 3 - (intOf si).toNat)
  case atStart => exact ⟨0, Since.self _, by omega, rfl, rfl, fun j hj => by omega⟩
  case round =>
    obtain ⟨j, y, hj, rfl, rfl, hl⟩ := hrel
    have Hl := Lib.hid hl
    clear hl
    by_cases hlt : j < 3
    · have Hy2 := Lib.hid (Hyes.out j)
      clear Hyes Hno
      obtain rfl | rfl | rfl : j = 0 ∨ j = 1 ∨ j = 2 := by omega
      · rw [show (((0 : Nat)) : Int) = 0 from rfl]
        have HF := Lib.hid (fun (k : Nat) (hlt2 : k < m) (z : Since y1.w) => next0_calls y1.w z R C i k bx (bx + 1) hR hC Hi.out (Hm.out k hlt2) (Since.cellTo ⟨y1, rfl⟩ hb0_1) (Since.cellTo ⟨y1, rfl⟩ hb1_0))
        go_upto_region 5 with fail
        go_loopw [20] (fun si wr => ∃ (k : Nat) (y : Since y1.w), k ≤ m ∧ si = .int .i64 (k : Int) ∧ wr = y.w ∧ ∀ q, q < k → (!bo h q && fitV C i 0 q) = false) (fun si _ => m - (intOf si).toNat)
        case atStart => exact ⟨0, y, by omega, rfl, rfl, fun j hj => by omega⟩
        case round =>
          obtain ⟨k, y3, hk, rfl, rfl, hn⟩ := hrel
          have Hn := Lib.hid hn
          clear hn
          by_cases hlt2 : k < m
          · have hk0 : (0 : Int) ≤ (k : Int) := by omega
            have hkl : (k : Int) < (m : Int) := by omega
            obtain ⟨b2, o2, rfl, hb2, hc2'⟩ := HH.out k (by have := Hh.out; omega)
            have f1 : ∀ q : Since W, q.w.cell? ⟨b2, o2 + k, none⟩ = some (.bool (bo h k)) := fun q => Since.cell hc2' hb2 q
            have f1 := (Since.cellTo ⟨y1, rfl⟩ f1) y3
            clear hb2 hc2'
            have HC := Lib.hid (HF.out k hlt2 y3)
            have Hst := Lib.hid (fun (hp : (!bo h k && fitV C i 0 k) = false) q (hq : q < k + 1) => show (!bo h q && fitV C i 0 q) = false from by
              by_cases e : q = k
              · rw [e]; exact hp
              · exact Hn.out q (by omega))
            have Hye := Lib.hid (fun (hp : (!bo h k && fitV C i 0 k) = true) => Hy2.out k (by omega) Hl.out hlt2 hp Hn.out)
            clear HF Hy2
            generalize fitV C i 0 k = V at *
            cases hb : bo h k
            · rw [hb] at f1 Hst Hye
              cases V
              · clear Hye
                go_wp2_with (go_at_call 75; ((with_reducible refine HC.out.mono ?_); rintro _ _ ⟨rfl, y4, rfl⟩))
                go_roundw
                case rel => exact ⟨k + 1, y4, by omega, by go_num, rfl, Hst.out rfl⟩
                case measure => simp [intOf] <;> omega
              · have HU := Lib.hid (Hye.out rfl)
                clear Hst Hye
                go_wp2_with (go_at_call 75; ((with_reducible refine HC.out.mono ?_); rintro _ _ ⟨rfl, y4, rfl⟩))
                go_ret
                exact ⟨ret_int HU.out.symm, Hz1.out _⟩
            · rw [hb] at f1 Hst
              clear Hye HC
              go_wp2_with fail
              go_roundw
              case rel => exact ⟨k + 1, y3, by omega, by go_num, rfl, Hst.out rfl⟩
              case measure => simp [intOf] <;> omega
          · obtain rfl : k = m := by omega
            have Hl2 := Lib.hid (fun j' (hj' : j' < 1) => show ∀ q, q < k → (!bo h q && fitV C i j' q) = false from by
              by_cases e : j' = 0
              · rw [e]; exact Hn.out
              · exact Hl.out j' (by omega))
            clear HF Hy2
            go_wp2_with fail
            go_roundw
            case rel => exact ⟨1, y3, by omega, by go_num, rfl, Hl2.out⟩
            case measure => simp [intOf] <;> omega
      · rw [show (((1 : Nat)) : Int) = 1 from rfl]
        have HF := Lib.hid (fun (k : Nat) (hlt2 : k < m) (z : Since y1.w) => next1_calls y1.w z R C i k bx (bx + 1) hR hC Hi.out (Hm.out k hlt2) (Since.cellTo ⟨y1, rfl⟩ hb0_1) (Since.cellTo ⟨y1, rfl⟩ hb1_0))
        go_upto_region 5 with fail
        go_loopw [20] (fun si wr => ∃ (k : Nat) (y : Since y1.w), k ≤ m ∧ si = .int .i64 (k : Int) ∧ wr = y.w ∧ ∀ q, q < k → (!bo h q && fitV C i 1 q) = false) (fun si _ => m - (intOf si).toNat)
        case atStart => exact ⟨0, y, by omega, rfl, rfl, fun j hj => by omega⟩
        case round =>
          obtain ⟨k, y3, hk, rfl, rfl, hn⟩ := hrel
          have Hn := Lib.hid hn
          clear hn
          by_cases hlt2 : k < m
          · have hk0 : (0 : Int) ≤ (k : Int) := by omega
            have hkl : (k : Int) < (m : Int) := by omega
            obtain ⟨b2, o2, rfl, hb2, hc2'⟩ := HH.out k (by have := Hh.out; omega)
            have f1 : ∀ q : Since W, q.w.cell? ⟨b2, o2 + k, none⟩ = some (.bool (bo h k)) := fun q => Since.cell hc2' hb2 q
            have f1 := (Since.cellTo ⟨y1, rfl⟩ f1) y3
            clear hb2 hc2'
            have HC := Lib.hid (HF.out k hlt2 y3)
            have Hst := Lib.hid (fun (hp : (!bo h k && fitV C i 1 k) = false) q (hq : q < k + 1) => show (!bo h q && fitV C i 1 q) = false from by
              by_cases e : q = k
              · rw [e]; exact hp
              · exact Hn.out q (by omega))
            have Hye := Lib.hid (fun (hp : (!bo h k && fitV C i 1 k) = true) => Hy2.out k (by omega) Hl.out hlt2 hp Hn.out)
            clear HF Hy2
            generalize fitV C i 1 k = V at *
            cases hb : bo h k
            · rw [hb] at f1 Hst Hye
              cases V
              · clear Hye
                go_wp2_with (go_at_call 76; ((with_reducible refine HC.out.mono ?_); rintro _ _ ⟨rfl, y4, rfl⟩))
                go_roundw
                case rel => exact ⟨k + 1, y4, by omega, by go_num, rfl, Hst.out rfl⟩
                case measure => simp [intOf] <;> omega
              · have HU := Lib.hid (Hye.out rfl)
                clear Hst Hye
                go_wp2_with (go_at_call 76; ((with_reducible refine HC.out.mono ?_); rintro _ _ ⟨rfl, y4, rfl⟩))
                go_ret
                exact ⟨ret_int HU.out.symm, Hz1.out _⟩
            · rw [hb] at f1 Hst
              clear Hye HC
              go_wp2_with fail
              go_roundw
              case rel => exact ⟨k + 1, y3, by omega, by go_num, rfl, Hst.out rfl⟩
              case measure => simp [intOf] <;> omega
          · obtain rfl : k = m := by omega
            have Hl2 := Lib.hid (fun j' (hj' : j' < 2) => show ∀ q, q < k → (!bo h q && fitV C i j' q) = false from by
              by_cases e : j' = 1
              · rw [e]; exact Hn.out
              · exact Hl.out j' (by omega))
            clear HF Hy2
            go_wp2_with fail
            go_roundw
            case rel => exact ⟨2, y3, by omega, by go_num, rfl, Hl2.out⟩
            case measure => simp [intOf] <;> omega
      · rw [show (((2 : Nat)) : Int) = 2 from rfl]
        have HF := Lib.hid (fun (k : Nat) (hlt2 : k < m) (z : Since y1.w) => next2_calls y1.w z C i k)
        go_upto_region 5 with fail
        go_loopw [20] (fun si wr => ∃ (k : Nat) (y : Since y1.w), k ≤ m ∧ si = .int .i64 (k : Int) ∧ wr = y.w ∧ ∀ q, q < k → (!bo h q && fitV C i 2 q) = false) (fun si _ => m - (intOf si).toNat)
        case atStart => exact ⟨0, y, by omega, rfl, rfl, fun j hj => by omega⟩
        case round =>
          obtain ⟨k, y3, hk, rfl, rfl, hn⟩ := hrel
          have Hn := Lib.hid hn
          clear hn
          by_cases hlt2 : k < m
          · have hk0 : (0 : Int) ≤ (k : Int) := by omega
            have hkl : (k : Int) < (m : Int) := by omega
            obtain ⟨b2, o2, rfl, hb2, hc2'⟩ := HH.out k (by have := Hh.out; omega)
            have f1 : ∀ q : Since W, q.w.cell? ⟨b2, o2 + k, none⟩ = some (.bool (bo h k)) := fun q => Since.cell hc2' hb2 q
            have f1 := (Since.cellTo ⟨y1, rfl⟩ f1) y3
            clear hb2 hc2'
            have HC := Lib.hid (HF.out k hlt2 y3)
            have Hst := Lib.hid (fun (hp : (!bo h k && fitV C i 2 k) = false) q (hq : q < k + 1) => show (!bo h q && fitV C i 2 q) = false from by
              by_cases e : q = k
              · rw [e]; exact hp
              · exact Hn.out q (by omega))
            have Hye := Lib.hid (fun (hp : (!bo h k && fitV C i 2 k) = true) => Hy2.out k (by omega) Hl.out hlt2 hp Hn.out)
            clear HF Hy2
            generalize fitV C i 2 k = V at *
            cases hb : bo h k
            · rw [hb] at f1 Hst Hye
              cases V
              · clear Hye
                go_wp2_with (go_at_call 77; ((with_reducible refine HC.out.mono ?_); rintro _ _ ⟨rfl, y4, rfl⟩))
                go_roundw
                case rel => exact ⟨k + 1, y4, by omega, by go_num, rfl, Hst.out rfl⟩
                case measure => simp [intOf] <;> omega
              · have HU := Lib.hid (Hye.out rfl)
                clear Hst Hye
                go_wp2_with (go_at_call 77; ((with_reducible refine HC.out.mono ?_); rintro _ _ ⟨rfl, y4, rfl⟩))
                go_ret
                exact ⟨ret_int HU.out.symm, Hz1.out _⟩
            · rw [hb] at f1 Hst
              clear Hye HC
              go_wp2_with fail
              go_roundw
              case rel => exact ⟨k + 1, y3, by omega, by go_num, rfl, Hst.out rfl⟩
              case measure => simp [intOf] <;> omega
          · obtain rfl : k = m := by omega
            have Hl2 := Lib.hid (fun j' (hj' : j' < 3) => show ∀ q, q < k → (!bo h q && fitV C i j' q) = false from by
              by_cases e : j' = 2
              · rw [e]; exact Hn.out
              · exact Hl.out j' (by omega))
            clear HF Hy2
            go_wp2_with fail
            go_roundw
            case rel => exact ⟨3, y3, by omega, by go_num, rfl, Hl2.out⟩
            case measure => simp [intOf] <;> omega
    · obtain rfl : j = 3 := by omega
      have HU := Lib.hid (Hno.out Hl.out)
      clear Hyes Hno
      go_wp2_with fail
      go_ret
      exact ⟨ret_int HU.out.symm, Hz1.out _⟩
end Go.Proofs.YtdkcclngionihaaDoor
