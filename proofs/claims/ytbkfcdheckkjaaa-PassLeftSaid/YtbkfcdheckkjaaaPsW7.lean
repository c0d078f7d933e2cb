/- The walks of passes, seventh part: which pass pays which ride. -/
import Derived.Test.YtbkfcdheckkjaaaPsOrd
import Derived.Test.YtbkfcdheckkjaaaPsW6
import Derived.Test.YtbkfcdheckkjaaaSets
import Derived.Deep.RegionWith
set_option linter.all false
namespace Go.Proofs.Ytbkfcdheckkjaaa
open Go.RowKit Go.ChangeMaps Go.Sort Go.Shelf Go.Lib

theorem Nums.since {w : World} {g n : Nat} {f : Nat → Int} (h : Nums w g n f) (y : Since w) : Nums y.w g n f :=
  ⟨Nat.lt_of_lt_of_le h.lt y.b.size, fun j hj => Since.cell (h.c j hj) h.lt y, fun j hj => Since.free (h.f j hj) h.lt y⟩
theorem Nums.to {w W : World} {g n : Nat} {f : Nat → Int} (h : Nums w g n f) (hW : ∃ z : Since w, W = z.w) : Nums W g n f := by
  obtain ⟨z, rfl⟩ := hW; exact h.since z
theorem Nums.set {w : World} {g n k : Nat} {f f' : Nat → Int} (h : Nums w g n f) (hk : k < n) (v : Int) (hv : f' k = v) (ho : ∀ j, j < n → j ≠ k → f' j = f j) : Nums (w.setCell ⟨g, k, none⟩ (.int .i64 v)) g n f' := by
  refine ⟨by simpa [World.setCell] using h.lt, fun j hj => ?_, fun j hj => ?_⟩
  · by_cases hjk : j = k
    · subst hjk
      rw [World.cell?_setCell_same _ _ _ (h.c j hj), hv]
    · show ((w.setCells g k [.int .i64 v]).cell? _) = _
      rw [World.cell?_setCells_out g [.int .i64 v] k w ⟨g, j, none⟩ (fun _ _ => by simp; omega), h.c j hj, ho j hj hjk]
  · rw [World.frozen?_setCell]; exact h.f j hj
theorem Nums.setOther {w : World} {g n : Nat} {f : Nat → Int} (h : Nums w g n f) (p : Addr) (hp : p.block ≠ g) (v : Value) : Nums (w.setCell p v) g n f := by
  have hh := Below.heap_setCell w p v g (fun e => hp e.symm)
  refine ⟨by simpa [World.setCell] using h.lt, fun j hj => ?_, fun j hj => by rw [World.frozen?_setCell]; exact h.f j hj⟩
  rw [World.cell?_of_block (w := w) (a := ⟨g, j, none⟩) hh]; exact h.c j hj
theorem Nums.keep {w w' : World} {g n : Nat} {f : Nat → Int} (h : Nums w g n f) (hs : w.heap.size ≤ w'.heap.size) (hb : w'.heap[g]? = w.heap[g]?) : Nums w' g n f :=
  ⟨Nat.lt_of_lt_of_le h.lt hs, fun j hj => by rw [World.cell?_of_block (w := w) (a := ⟨g, j, none⟩) hb]; exact h.c j hj, fun j hj => by rw [World.frozen?_of_block (w := w) (a := ⟨g, j, none⟩) hb]; exact h.f j hj⟩
theorem own_nums {w : World} {base : Nat} {e : TypeId} {g n N : Nat} {xs : List Value} (h : w.ownsRow base e 1 (.slice (some ⟨g, 0, none⟩) N n) N xs) (hx : ∀ j, j < N → xs.getD j undef = .int .i64 0) : Nums w g N fun _ => 0 := by
  obtain ⟨hl, ⟨hbad, _⟩ | ⟨g', cap, cur, he, hg, hh, h1, h2, h3, h4⟩⟩ := h
  · cases hbad
  · obtain ⟨rfl, rfl⟩ : g = g' ∧ n = cap := by simpa using he
    refine ⟨(Array.getElem?_eq_some_iff.1 hh).1, fun j hj => ?_, fun j hj => by simp [World.frozen?, hh]⟩
    have := hx j hj
    rw [← h4] at this
    simp only [Nat.mul_one] at *
    have hjc : j < cur.size := by omega
    simp [World.cell?, hh, List.getD_eq_getElem?_getD, List.getElem?_take, hj, hjc] at this ⊢
    exact this
def eturn (x : Int × Int) : Value := .agg #[.int .i64 x.1, .int .i64 x.2]
theorem keyTurn : KeyOps Try.prog 77 eturn false where
  chk em w x := by
    unfold eturn
    obtain ⟨N, hN⟩ : ∃ N, 10000 = N + 2 := ⟨9998, rfl⟩
    rw [hN]
    simp [Instr.checkKey, Sem.run_bind, run_underlying Try.underlying77, run_underlying Try.underlying3, go_sem]
  eq w x y := by
    have hS : Try.prog.underlying 77 = some (.struct (Try.prog.fieldsOf 77)) := by kernel_rfl
    have hp : Try.prog.stoodInHeld 77 = false := by kernel_rfl
    have u3 := Try.underlying3
    have a3 := Try.isAgg3
    have z3 := Try.sizeOf3
    unfold eturn
    show (Op.equalIn (9999 + 1) _ _ _).run _ _ = _
    rw [run_equalIn_struct w 9999 77 _ _ hS hp]
    simp only [Program.fieldsOf, Try.underlying77]
    go_simp
    by_cases h1 : x.1 = y.1 <;> by_cases h2 : x.2 = y.2 <;> simp [h1, h2, Prod.ext_iff]
  und := ⟨_, Try.underlying77, fun x y => rfl⟩
  bits x := by
    unfold eturn
    rw [show (10000 : Nat) = 9999 + 1 from rfl]
    simp [Instr.sameBits]
theorem zeroInt (w : World) : (zeroValue 3).run Try.prog w = .ok (.int .i64 0) w := by kernel_rfl
theorem Nums.congr {w : World} {g n : Nat} {f f' : Nat → Int} (h : Nums w g n f) (he : ∀ j, j < n → f j = f' j) : Nums w g n f' :=
  ⟨h.lt, fun j hj => by rw [h.c j hj, he j hj], h.f⟩
theorem BoxIs.ride {w : World} {g : Nat} {r : Ride} (h : BoxIs w g r.cs) : RideBox w g r := ⟨h.lt, h.c⟩
theorem RideBox.to {w W : World} {g : Nat} {r : Ride} (h : RideBox w g r) (hW : ∃ z : Since w, W = z.w) : RideBox W g r := by
  obtain ⟨z, rfl⟩ := hW; exact h.since z
theorem RideBox.setOther {w : World} {g : Nat} {r : Ride} (h : RideBox w g r) (p : Addr) (hp : p.block ≠ g) (v : Value) : RideBox (w.setCell p v) g r := by
  have hh := Below.heap_setCell w p v g (fun e => hp e.symm)
  exact ⟨by simpa [World.setCell] using h.lt, fun j u hu => by rw [World.cell?_of_block (w := w) (a := ⟨g, j, none⟩) hh]; exact h.c j u hu⟩
/-- the map in block b holds how many rides of a day a pass pays -/
def Paid (w : World) (b : Nat) (R : List Ride) (u : Nat → Int) (l : List Nat) : Prop :=
  ∃ L : List ((Int × Int) × Value), MapAt eturn w b L ∧ ∀ k d : Int, 0 ≤ k → lkV (k, d) L (.int .i64 0) = .int .i64 (pd R u l k d : Int)
theorem Paid.to {w W : World} {b : Nat} {R : List Ride} {u : Nat → Int} {l : List Nat} (h : Paid w b R u l) (hW : ∃ z : Since w, W = z.w) : Paid W b R u l := by
  obtain ⟨L, h1, h2⟩ := h; exact ⟨L, h1.to' hW, h2⟩
theorem Paid.keep {w w' : World} {b : Nat} {R : List Ride} {u : Nat → Int} {l : List Nat} (h : Paid w b R u l) (hb : w'.heap[b]? = w.heap[b]?) : Paid w' b R u l := by
  obtain ⟨L, h1, h2⟩ := h; exact ⟨L, hb.trans h1, h2⟩
theorem Paid.lt {w : World} {b : Nat} {R : List Ride} {u : Nat → Int} {l : List Nat} (h : Paid w b R u l) : b < w.heap.size := by
  obtain ⟨L, h1, _⟩ := h; exact h1.lt'
/-- what the rounds keep -/
structure UseAt (w : World) (g0 g1 bm n : Nat) (o : List Nat) (f : Nat → Int) (R : List Ride) (u : Nat → Int) (l : List Nat) : Prop where
  ord : Nums w g0 n (fun j => (o.getD j 0 : Nat))
  out : Nums w g1 n f
  paid : Paid w bm R u l
theorem UseAt.to {w W : World} {g0 g1 bm n : Nat} {o : List Nat} {f : Nat → Int} {R : List Ride} {u : Nat → Int} {l : List Nat} (h : UseAt w g0 g1 bm n o f R u l) (hW : ∃ z : Since w, W = z.w) : UseAt W g0 g1 bm n o f R u l :=
  ⟨h.ord.to hW, h.out.to hW, h.paid.to hW⟩
theorem map_ne_cells {w : World} {b g n : Nat} {f : Nat → Int} {R : List Ride} {u : Nat → Int} {l : List Nat} (h : Paid w b R u l) (hn : Nums w g n f) (h0 : 0 < n) : b ≠ g := by
  obtain ⟨L, h1, _⟩ := h
  rintro rfl
  have := hn.c 0 h0
  unfold MapAt at h1
  simp [World.cell?, h1] at this
/-- out[i] = v -/
theorem UseAt.set {w : World} {g0 g1 bm n i : Nat} {o : List Nat} {f f' : Nat → Int} {R : List Ride} {u : Nat → Int} {l : List Nat} (h : UseAt w g0 g1 bm n o f R u l) (hi : i < n) (hne : g0 ≠ g1) (v : Int) (hv : f' i = v) (ho : ∀ j, j < n → j ≠ i → f' j = f j) : UseAt (w.setCell ⟨g1, i, none⟩ (.int .i64 v)) g0 g1 bm n o f' R u l :=
  ⟨h.ord.setOther _ (fun e => hne e.symm) _, h.out.set hi v hv ho, h.paid.keep (Below.heap_setCell w _ _ bm (map_ne_cells h.paid h.out (by omega)))⟩
/-- ride i has got its pass -/
theorem UseAt.next {w : World} {g0 g1 bm m i : Nat} {o : List Nat} {R : List Ride} {u : Nat → Int} {f : Nat → Int} (h : UseAt w g0 g1 bm R.length o f R u (o.take m)) (hO : Ord R o) (hi : o[m]? = some i) (x : Int) (hf : ∀ j, f j = if j = i then x else if j ∈ o.take m then u j else 0)
    (hp : ∀ k d : Int, 0 ≤ k → pd R (upd u i x) (o.take (m + 1)) k d = pd R u (o.take m) k d) : UseAt w g0 g1 bm R.length o (fun j => if j ∈ o.take (m + 1) then upd u i x j else 0) R (upd u i x) (o.take (m + 1)) := by
  refine ⟨h.ord, h.out.congr fun j hj => ?_, ?_⟩
  · rw [hf j, hO.take_next hi]
    by_cases hji : j = i
    · subst hji; simp [upd_same]
    · rw [if_neg hji, upd_ne _ _ _ hji]
      simp [hji]
  · obtain ⟨L, h1, h2⟩ := h.paid
    exact ⟨L, h1, fun k d hk => by rw [h2 k d hk, hp k d hk]⟩
theorem setBlock_grown {V : World} {b : Nat} {o o' : Obj} (h : V.heap[b]? = some o) : V.grownBy (setBlock V b o') (some b) :=
  ⟨rfl, rfl, rfl, by rw [setBlock_size]; exact Nat.le_refl _, fun j hj hne => setBlock_ne (fun e => hne (by rw [e]))⟩
/-- 'm[x]++' : in whatever order it is done -/
theorem bump_run {V : World} {bm : Nat} {L : List ((Int × Int) × Value)} (hL : MapAt eturn V bm L) (k d v : Int) (hv : lkV (k, d) L (.int .i64 0) = .int .i64 v) :
    ∃ (w1 w2 : World) (i : Nat), (Instr.mapEntry 74 (.map (some bm)) (.agg #[.int .i64 k, .int .i64 d])).run Try.prog V = .ok (.tuple #[.int .i64 v, .int .i64 (i : Int)]) w1 ∧
      (Instr.lookup 74 (.map (some bm)) (.agg #[.int .i64 k, .int .i64 d]) false).run Try.prog w1 = .ok (.int .i64 v) w1 ∧
      (Instr.entryStore 74 (.map (some bm)) (.int .i64 (i : Int)) (.int .i64 (v + 1))).run Try.prog w1 = .ok () w2 ∧
      MapAt eturn w2 bm (mput (k, d) (.int .i64 (v + 1)) L) ∧ V.grownBy w2 (some bm) := by
  have hlt := hL.lt'
  cases hx : lkF (k, d) L 0 with
  | some r =>
    obtain ⟨i, val⟩ := r
    have hval : val = .int .i64 v := by rw [lkV_eq, hx] at hv; simpa using hv
    subst hval
    obtain ⟨-, hi, -⟩ := lkF_spec L 0 i hx
    rw [Nat.sub_zero] at hi
    have h1 := run_entry_old keyTurn hL Try.underlying74 (k, d) hx
    have h2 := run_look keyTurn hL Try.underlying74 (zeroInt V) (k, d) false
    simp only [Bool.false_eq_true, if_false] at h2
    rw [hv] at h2
    have h3 := run_entry_store (P := Try.prog) (t := 74) hL hi (.int .i64 (v + 1))
    refine ⟨V, _, i, h1, h2, h3, ?_, setBlock_grown hL⟩
    unfold mput
    rw [hx]
    exact setBlock_at hlt
  | none =>
    have hv0 : v = 0 := by rw [lkV_eq, hx] at hv; simpa using hv.symm
    subst hv0
    have h1 := run_entry_new keyTurn hL Try.underlying74 (fun w => zeroInt w) (k, d) hx
    have hM : MapAt eturn (setBlock V bm (.map (entF eturn (L ++ [((k, d), Value.int .i64 0)]) 0).toArray (L ++ [((k, d), Value.int .i64 0)]).length)) bm (L ++ [((k, d), Value.int .i64 0)]) := setBlock_at hlt
    have h2 := run_look keyTurn hM Try.underlying74 (zeroInt _) (k, d) false
    simp only [Bool.false_eq_true, if_false] at h2
    have hlk : lkV (k, d) (L ++ [((k, d), Value.int .i64 0)]) (.int .i64 0) = .int .i64 0 := by
      rw [lkV_eq, lkF_append L _ 0 hx]; simp [lkF]
    rw [hlk] at h2
    have h3 := run_entry_store (P := Try.prog) (t := 74) (i := L.length) hM (x := (k, d)) (v0 := Value.int .i64 0) (by simp) (.int .i64 (0 + 1))
    refine ⟨_, _, L.length, h1, h2, h3, ?_, (setBlock_grown hL).trans (setBlock_grown hM)⟩
    have hset : (L ++ [((k, d), Value.int .i64 0)]).set L.length ((k, d), Value.int .i64 (0 + 1)) = mput (k, d) (.int .i64 (0 + 1)) L := by
      unfold mput
      rw [hx]
      simp
    rw [hset]
    exact setBlock_at (by rw [setBlock_size]; exact hlt)
theorem UseAt.bump {V w2 : World} {g0 g1 bm n : Nat} {o : List Nat} {f : Nat → Int} {R : List Ride} {u : Nat → Int} {l : List Nat} {L : List ((Int × Int) × Value)} {k d v : Int} (h : UseAt V g0 g1 bm n o f R u l) (h0 : 0 < n)
    (hM : MapAt eturn w2 bm (mput (k, d) (.int .i64 (v + 1)) L)) (hG : V.grownBy w2 (some bm)) (hLv : ∀ k d : Int, 0 ≤ k → lkV (k, d) L (.int .i64 0) = .int .i64 (pd R u l k d : Int)) :
    Nums w2 g0 n (fun j => (o.getD j 0 : Nat)) ∧ Nums w2 g1 n f ∧ ∀ (u' : Nat → Int) (l' : List Nat), (∀ k' d' : Int, 0 ≤ k' → (pd R u' l' k' d' : Int) = if (k', d') = (k, d) then v + 1 else (pd R u l k' d' : Int)) → Paid w2 bm R u' l' := by
  have n0 := map_ne_cells h.paid h.ord h0
  have n1 := map_ne_cells h.paid h.out h0
  refine ⟨h.ord.keep hG.size (hG.block g0 h.ord.lt (by simpa using Ne.symm n0)), h.out.keep hG.size (hG.block g1 h.out.lt (by simpa using Ne.symm n1)), fun u' l' hp => ⟨_, hM, fun k' d' hk' => ?_⟩⟩
  rw [lkV_mput, hp k' d' hk']
  split
  · rfl
  · exact hLv k' d' hk'
def UsePost (w : World) (lp : List Pass) (R : List Ride) (o : Ending) (w' : World) : Prop :=
  ∃ (a : Option Addr) (cap : Nat) (y : Since w) (u : Nat → Int), o = .returned (.slice a R.length cap) ∧ w' = y.w ∧ IsUse lp R u ∧ Row y.w a R.length (fun i => .int .i64 (u i))
set_option maxRecDepth 100000 in
set_option maxHeartbeats 16000000 in
theorem use_calls (w : World) (x : Since w) (pa : Option Addr) (lp : List Pass) (pc : Nat) (a : Option Addr) (R : List Ride) (c : Nat) (hp : PassRow w pa lp) (hpl : lp.length ≤ 64) (h : RideRow w a R) (hl : R.length ≤ 256) (hid : (R.map fun r : Ride => r.id).Nodup) (hs0 : ∀ r ∈ R, 0 ≤ r.s0 ∧ r.s0 ≤ 4294943999) :
    Calls Try.prog 28 #[.slice pa lp.length pc, .slice a R.length c] x.w (UsePost w lp R) := by
  have HP := Lib.hid hp
  have HR := Lib.hid h
  have Hid := Lib.hid hid
  have Hs0 := Lib.hid hs0
  clear hp h hid hs0
  go_enter Try.func28, Try.ntmps28
  go_upto_region 1 with fail
  have hb0_0 : ∀ y : Since (x.w.alloc (.cells #[.slice a R.length c] 27)), y.w.cell? ⟨x.w.heap.size, 0, none⟩ = some (.slice a R.length c) := fun y => Since.cell (by simp [go_sem]) (by first | (simp; done) | (simp; omega)) y
  have hf0 : ∀ (y : Since (x.w.alloc (.cells #[.slice a R.length c] 27))) (o : Nat), y.w.frozen? ⟨x.w.heap.size, o, none⟩ = false := fun y o => Since.free (by simp [go_sem]) (by first | (simp; done) | (simp; omega)) y
  have hWup : ∃ z : Since w, (x.w.alloc (.cells #[.slice a R.length c] 27)) = z.w := x.alloc _
  obtain ⟨y0, hy0⟩ := Since.refl (x.w.alloc (.cells #[.slice a R.length c] 27))
  have Hbx := Lib.hid (And.intro x.b.size (show x.w.heap.size + 1 = (x.w.alloc (.cells #[.slice a R.length c] 27)).heap.size from by simp))
  generalize hW : (x.w.alloc (.cells #[.slice a R.length c] 27)) = W at *
  clear hW
  generalize x.w.heap.size = bx at *
  have Hup := Lib.hid (Since.up hWup)
  rw [hy0]
  clear hy0
  replace HP := Lib.hid (HP.out.to hWup); replace HR := Lib.hid (HR.out.to hWup)
  clear hWup
  obtain ⟨i0, hi0, hz0, hsz0, hby0⟩ := info_parts (P := Try.prog) (e := 3) (z := .int .i64 0) (size := 1) (bytes := 8) (by kernel_rfl)
  go_wp2_with (at_make; refine wpList_make_full _ rfl _ _ 29 rfl W.heap.size 3 i0 (.int .i64 0) 1 Try.underlying29 hi0 hz0 hsz0 .i64 .i64 (R.length : Int) (R.length : Int) R.length rfl rfl rfl rfl (by rw [hby0]; omega) (by unfold maxLen; omega) y0.b.size ?_; intro w1 hown hg1)
  have hrow := own_nums hown (fun j hj => by simp [madeCells, List.getD_eq_getElem?_getD, hj]; show (#[Value.int .i64 0] : Array Value)[j % 1]! = _; rw [Nat.mod_one]; rfl)
  obtain ⟨y1, hy1⟩ := y0.grown hg1 (fun k hk => by cases hk)
  have Hg0 := Lib.hid y0.b.size
  subst hy1
  clear hown hg1
  generalize y0.w.heap.size = g0 at *
  have Hrow := Lib.hid hrow
  clear hrow
  go_loopw [19] (fun i wr => ∃ (k : Nat) (y : Since W), k ≤ R.length ∧ i = .int .i64 k ∧ wr = y.w ∧ Nums y.w g0 R.length (fun j => if j < k then (j : Int) else 0)) (fun i _ => R.length - (intOf i).toNat)
  case atStart => exact ⟨0, y1, by omega, rfl, rfl, by simpa using Hrow.out⟩
  case round =>
    clear Hrow
    obtain ⟨k, y, hk, rfl, rfl, hrow⟩ := hrel
    have Hrow := Lib.hid hrow; clear hrow
    by_cases hlt : k < R.length
    · have hc := Hrow.out.c k hlt
      have hf := Hrow.out.f k hlt
      have hk0 : (0 : Int) ≤ (k : Int) := by omega
      have hkl : (k : Int) < (R.length : Int) := by omega
      obtain ⟨y2, h2⟩ := y.set ⟨g0, k, none⟩ Hg0.out (.int .i64 (k : Int))
      have Hset := Lib.hid (Hrow.out.set (f' := fun j => if j < k + 1 then (j : Int) else 0) hlt (k : Int) (by simp) (fun j _ hj => by
        by_cases hjk : j < k
        · rw [if_pos hjk, if_pos (by omega)]
        · rw [if_neg hjk, if_neg (by omega)]))
      have H2 := Lib.hid h2
      clear h2
      go_wp2_with fail
      go_roundw
      case rel => exact ⟨k + 1, y2, by omega, by go_num, H2.out, H2.out ▸ Hset.out⟩
      case measure => simp [intOf] <;> omega
    · obtain rfl : k = R.length := by omega
      have hN : Nums y.w g0 R.length (fun j => (j : Int)) := ⟨Hrow.out.lt, fun j hj => by rw [Hrow.out.c j hj, if_pos hj], Hrow.out.f⟩
      have hsort : Calls Try.prog 36 #[.slice (some ⟨g0, 0, none⟩) R.length R.length, .func (.func 37) #[] #[.pointer (some ⟨bx, 0, none⟩)]] y.w (SortPost y.w g0 R) := by
        by_cases hn : R.length = 0
        · have hc := AnyF.slices_SortFunc_none { Try.sortInt with } (some ⟨g0, 0, none⟩) R.length (.func (.func 37) #[] #[.pointer (some ⟨bx, 0, none⟩)]) y.w
          change Calls Try.prog 36 _ _ _ at hc
          rw [hn] at hc ⊢
          refine hc.mono ?_
          rintro _ _ ⟨rfl, rfl⟩
          exact ⟨rfl, World.grownBy.refl _ _, [], ⟨by rw [hn]; exact .nil, List.Pairwise.nil⟩, ⟨hN.lt, fun j hj => by omega, fun j hj => by omega⟩⟩
        · refine sort_calls y.w g0 bx R.length a c R (by omega) (by omega) hN (hb0_0 y) (HR.out.since y).c (by have := Hbx.out; have := Hg0.out; omega) (fun b hb => ?_) Hid.out
          obtain ⟨e, he⟩ : ∃ e, R[0]? = some e := ⟨_, List.getElem?_eq_getElem (by omega)⟩
          obtain ⟨b', off, ha, hlt, _⟩ := HR.out.c 0 e he
          rw [ha] at hb; cases hb
          have := Hg0.out
          show b' ≠ g0
          omega
      have Hsort := Lib.hid hsort
      clear hN hsort Hrow
      go_wp2_with fail
      refine Hsort.out.mono ?_
      rintro _ w2 ⟨rfl, hg, o, hO, hN⟩
      obtain ⟨y2, rfl⟩ := y.grown hg (fun k hk => by cases hk; exact Hg0.out)
      have HO := Lib.hid hO; have HN := Lib.hid hN
      clear hO hN hg Hsort
      have hmm := @run_makeMap Try.prog
      go_wp2_with (at_make; refine wpList_make_full _ rfl _ _ 29 rfl W.heap.size 3 i0 (.int .i64 0) 1 Try.underlying29 hi0 hz0 hsz0 .i64 .i64 (R.length : Int) (R.length : Int) R.length rfl rfl rfl rfl (by rw [hby0]; omega) (by unfold maxLen; omega) y2.b.size ?_; intro w3 hown hg1)
      have hrow := own_nums hown (fun j hj => by simp [madeCells, List.getD_eq_getElem?_getD, hj]; show (#[Value.int .i64 0] : Array Value)[j % 1]! = _; rw [Nat.mod_one]; rfl)
      have Hg10 := Lib.hid (show g0 < y2.w.heap.size from HN.out.lt)
      have hN3 : Nums w3 g0 R.length (fun j => (o.getD j 0 : Nat)) := HN.out.keep hg1.size (hg1.block g0 HN.out.lt (by simp))
      obtain ⟨y3, hy3⟩ := y2.grown hg1 (fun k hk => by cases hk)
      subst hy3
      have hm0 : MapAt eturn (y3.w.alloc (.map #[] 0)) y3.w.heap.size [] := by
        show (y3.w.heap.push _)[y3.w.heap.size]? = _
        simp [entF]
      have Hg1 := Lib.hid (show W.heap.size ≤ y2.w.heap.size from y2.b.size)
      have Hg2 := Lib.hid (show y2.w.heap.size < y3.w.heap.size from hrow.lt)
      have hst : IsSince y3.w (y3.w.alloc (.map #[] 0)) := IsSince.alloc (IsSince.self _) _
      have hrow4 := hrow.to hst
      have hN4 := hN3.to hst
      obtain ⟨y4, hy4⟩ := y3.alloc (.map #[] 0)
      rw [hy4] at hm0 hrow4 hN4 ⊢
      have Hm := Lib.hid hm0; have Hrow := Lib.hid hrow4; replace HN := Lib.hid hN4
      clear hm0 hrow hrow4 hN3 hN4 hst hy4 hown hg1 hmm hi0 hz0 hsz0 hby0
      generalize y3.w.heap.size = bm at *
      generalize y2.w.heap.size = g1 at *
      have hlo := HO.out.len
      have Hne := Lib.hid (show g0 ≠ g1 by have := Hg10.out; omega)
      have hU0 : UseAt y4.w g0 g1 bm R.length o (fun j => if j ∈ o.take 0 then (0 : Int) else 0) R (fun _ => 0) (o.take 0) :=
        ⟨HN.out, Hrow.out.congr fun j hj => by simp, [], Hm.out, fun k d _ => rfl⟩
      have HU0 := Lib.hid hU0
      clear HN Hrow Hm hU0
      go_wp2_with fail
      go_loopw [36] (fun s wr => ∃ (m : Nat) (u : Nat → Int) (y : Since W), m ≤ R.length ∧ s = .int .i64 m ∧ wr = y.w ∧ UseAt y.w g0 g1 bm R.length o (fun j => if j ∈ o.take m then u j else 0) R u (o.take m) ∧ DoneTo lp R o u m) (fun s _ => R.length - (intOf s).toNat)
      case atStart => exact ⟨0, fun _ => 0, y4, by omega, rfl, rfl, HU0.out, fun j hj => by simp at hj⟩
      case round =>
        clear HU0
        obtain ⟨m, u, y, hm, rfl, rfl, hU, hD⟩ := hrel
        have HU := Lib.hid hU; have HD := Lib.hid hD
        clear hU hD
        by_cases hlt : m < R.length
        · obtain ⟨i, hi⟩ : ∃ i, o[m]? = some i := ⟨_, List.getElem?_eq_getElem (by omega)⟩
          have hir : i < R.length := HO.out.lt (List.mem_of_getElem? hi)
          obtain ⟨e, he⟩ : ∃ e, R[i]? = some e := ⟨_, List.getElem?_eq_getElem hir⟩
          have He := Lib.hid (rAt_eq he)
          obtain ⟨hs0, hs1⟩ := Hs0.out e (List.mem_of_getElem? he)
          have hci := HU.out.ord.c m hlt
          rw [show (o.getD m 0 : Nat) = i by rw [List.getD_eq_getElem?_getD, hi]; rfl] at hci
          have kci : ∀ q : Since y.w, q.w.cell? ⟨g0, m, none⟩ = some (.int .i64 (i : Int)) := fun q => Since.cell hci HU.out.ord.lt q
          obtain ⟨b1, off1, rfl, h1'⟩ := Els.ride HR.out.c he
          have ra0 := h1'.c0
          have ra1 := h1'.c1
          have ra2 := h1'.c2
          have ra3 := h1'.c3
          have ra4 := h1'.c4
          have ra5 := h1'.c5
          have ra6 := h1'.c6
          have ra7 := h1'.c7
          have ra8 := h1'.c8
          have ra9 := h1'.c9
          have ra10 := h1'.c10
          have ra11 := h1'.c11
          have ra12 := h1'.c12
          have hm0 : (0 : Int) ≤ (m : Int) := by omega
          have hml : (m : Int) < (R.length : Int) := by omega
          have hi0 : (0 : Int) ≤ (i : Int) := by omega
          have hil : (i : Int) < (R.length : Int) := by omega
          have Hi := Lib.hid hi
          clear h1' he hi
          go_upto_region 13 with fail
          have hx0 : (y.w.alloc (.cells #[.int .i64 e.id, .int .i64 e.rd, .int .i64 e.s0, .int .i64 e.s1, .int .i64 e.e0, .int .i64 e.e1, .bool e.op, .slice e.la e.legs.length e.lc, .slice e.pa e.pauses.length e.pc, .int .i64 e.fw, .int .i64 e.fp, .int .i64 e.wh, .int .i64 e.pl] 44)).cell? ⟨y.w.heap.size, 0, none⟩ = some (.int .i64 e.id) := by simp [go_sem]
          have hx1 : (y.w.alloc (.cells #[.int .i64 e.id, .int .i64 e.rd, .int .i64 e.s0, .int .i64 e.s1, .int .i64 e.e0, .int .i64 e.e1, .bool e.op, .slice e.la e.legs.length e.lc, .slice e.pa e.pauses.length e.pc, .int .i64 e.fw, .int .i64 e.fp, .int .i64 e.wh, .int .i64 e.pl] 44)).cell? ⟨y.w.heap.size, 1, none⟩ = some (.int .i64 e.rd) := by simp [go_sem]
          have hx2 : (y.w.alloc (.cells #[.int .i64 e.id, .int .i64 e.rd, .int .i64 e.s0, .int .i64 e.s1, .int .i64 e.e0, .int .i64 e.e1, .bool e.op, .slice e.la e.legs.length e.lc, .slice e.pa e.pauses.length e.pc, .int .i64 e.fw, .int .i64 e.fp, .int .i64 e.wh, .int .i64 e.pl] 44)).cell? ⟨y.w.heap.size, 2, none⟩ = some (.int .i64 e.s0) := by simp [go_sem]
          have hx3 : (y.w.alloc (.cells #[.int .i64 e.id, .int .i64 e.rd, .int .i64 e.s0, .int .i64 e.s1, .int .i64 e.e0, .int .i64 e.e1, .bool e.op, .slice e.la e.legs.length e.lc, .slice e.pa e.pauses.length e.pc, .int .i64 e.fw, .int .i64 e.fp, .int .i64 e.wh, .int .i64 e.pl] 44)).cell? ⟨y.w.heap.size, 3, none⟩ = some (.int .i64 e.s1) := by simp [go_sem]
          have hx4 : (y.w.alloc (.cells #[.int .i64 e.id, .int .i64 e.rd, .int .i64 e.s0, .int .i64 e.s1, .int .i64 e.e0, .int .i64 e.e1, .bool e.op, .slice e.la e.legs.length e.lc, .slice e.pa e.pauses.length e.pc, .int .i64 e.fw, .int .i64 e.fp, .int .i64 e.wh, .int .i64 e.pl] 44)).cell? ⟨y.w.heap.size, 4, none⟩ = some (.int .i64 e.e0) := by simp [go_sem]
          have hx5 : (y.w.alloc (.cells #[.int .i64 e.id, .int .i64 e.rd, .int .i64 e.s0, .int .i64 e.s1, .int .i64 e.e0, .int .i64 e.e1, .bool e.op, .slice e.la e.legs.length e.lc, .slice e.pa e.pauses.length e.pc, .int .i64 e.fw, .int .i64 e.fp, .int .i64 e.wh, .int .i64 e.pl] 44)).cell? ⟨y.w.heap.size, 5, none⟩ = some (.int .i64 e.e1) := by simp [go_sem]
          have hx6 : (y.w.alloc (.cells #[.int .i64 e.id, .int .i64 e.rd, .int .i64 e.s0, .int .i64 e.s1, .int .i64 e.e0, .int .i64 e.e1, .bool e.op, .slice e.la e.legs.length e.lc, .slice e.pa e.pauses.length e.pc, .int .i64 e.fw, .int .i64 e.fp, .int .i64 e.wh, .int .i64 e.pl] 44)).cell? ⟨y.w.heap.size, 6, none⟩ = some (.bool e.op) := by simp [go_sem]
          have hx7 : (y.w.alloc (.cells #[.int .i64 e.id, .int .i64 e.rd, .int .i64 e.s0, .int .i64 e.s1, .int .i64 e.e0, .int .i64 e.e1, .bool e.op, .slice e.la e.legs.length e.lc, .slice e.pa e.pauses.length e.pc, .int .i64 e.fw, .int .i64 e.fp, .int .i64 e.wh, .int .i64 e.pl] 44)).cell? ⟨y.w.heap.size, 7, none⟩ = some (.slice e.la e.legs.length e.lc) := by simp [go_sem]
          have hx8 : (y.w.alloc (.cells #[.int .i64 e.id, .int .i64 e.rd, .int .i64 e.s0, .int .i64 e.s1, .int .i64 e.e0, .int .i64 e.e1, .bool e.op, .slice e.la e.legs.length e.lc, .slice e.pa e.pauses.length e.pc, .int .i64 e.fw, .int .i64 e.fp, .int .i64 e.wh, .int .i64 e.pl] 44)).cell? ⟨y.w.heap.size, 8, none⟩ = some (.slice e.pa e.pauses.length e.pc) := by simp [go_sem]
          have hx9 : (y.w.alloc (.cells #[.int .i64 e.id, .int .i64 e.rd, .int .i64 e.s0, .int .i64 e.s1, .int .i64 e.e0, .int .i64 e.e1, .bool e.op, .slice e.la e.legs.length e.lc, .slice e.pa e.pauses.length e.pc, .int .i64 e.fw, .int .i64 e.fp, .int .i64 e.wh, .int .i64 e.pl] 44)).cell? ⟨y.w.heap.size, 9, none⟩ = some (.int .i64 e.fw) := by simp [go_sem]
          have hx10 : (y.w.alloc (.cells #[.int .i64 e.id, .int .i64 e.rd, .int .i64 e.s0, .int .i64 e.s1, .int .i64 e.e0, .int .i64 e.e1, .bool e.op, .slice e.la e.legs.length e.lc, .slice e.pa e.pauses.length e.pc, .int .i64 e.fw, .int .i64 e.fp, .int .i64 e.wh, .int .i64 e.pl] 44)).cell? ⟨y.w.heap.size, 10, none⟩ = some (.int .i64 e.fp) := by simp [go_sem]
          have hx11 : (y.w.alloc (.cells #[.int .i64 e.id, .int .i64 e.rd, .int .i64 e.s0, .int .i64 e.s1, .int .i64 e.e0, .int .i64 e.e1, .bool e.op, .slice e.la e.legs.length e.lc, .slice e.pa e.pauses.length e.pc, .int .i64 e.fw, .int .i64 e.fp, .int .i64 e.wh, .int .i64 e.pl] 44)).cell? ⟨y.w.heap.size, 11, none⟩ = some (.int .i64 e.wh) := by simp [go_sem]
          have hx12 : (y.w.alloc (.cells #[.int .i64 e.id, .int .i64 e.rd, .int .i64 e.s0, .int .i64 e.s1, .int .i64 e.e0, .int .i64 e.e1, .bool e.op, .slice e.la e.legs.length e.lc, .slice e.pa e.pauses.length e.pc, .int .i64 e.fw, .int .i64 e.fp, .int .i64 e.wh, .int .i64 e.pl] 44)).cell? ⟨y.w.heap.size, 12, none⟩ = some (.int .i64 e.pl) := by simp [go_sem]
          have hxf : ∀ o, (y.w.alloc (.cells #[.int .i64 e.id, .int .i64 e.rd, .int .i64 e.s0, .int .i64 e.s1, .int .i64 e.e0, .int .i64 e.e1, .bool e.op, .slice e.la e.legs.length e.lc, .slice e.pa e.pauses.length e.pc, .int .i64 e.fw, .int .i64 e.fp, .int .i64 e.wh, .int .i64 e.pl] 44)).frozen? ⟨y.w.heap.size, o, none⟩ = false := fun o => by simp [go_sem]
          have hlt0 : y.w.heap.size < (y.w.alloc (.cells #[.int .i64 e.id, .int .i64 e.rd, .int .i64 e.s0, .int .i64 e.s1, .int .i64 e.e0, .int .i64 e.e1, .bool e.op, .slice e.la e.legs.length e.lc, .slice e.pa e.pauses.length e.pc, .int .i64 e.fw, .int .i64 e.fp, .int .i64 e.wh, .int .i64 e.pl] 44)).heap.size := by simp
          have hst0 : ∃ zz : Since y.w, (y.w.alloc (.cells #[.int .i64 e.id, .int .i64 e.rd, .int .i64 e.s0, .int .i64 e.s1, .int .i64 e.e0, .int .i64 e.e1, .bool e.op, .slice e.la e.legs.length e.lc, .slice e.pa e.pauses.length e.pc, .int .i64 e.fw, .int .i64 e.fp, .int .i64 e.wh, .int .i64 e.pl] 44)) = zz.w := IsSince.alloc (IsSince.self _) _
          have hsz0 := y.b.size
          obtain ⟨y5, e2⟩ := IsSince.alloc (IsSince.of y) (.cells #[.int .i64 e.id, .int .i64 e.rd, .int .i64 e.s0, .int .i64 e.s1, .int .i64 e.e0, .int .i64 e.e1, .bool e.op, .slice e.la e.legs.length e.lc, .slice e.pa e.pauses.length e.pc, .int .i64 e.fw, .int .i64 e.fp, .int .i64 e.wh, .int .i64 e.pl] 44)
          rw [e2] at hx0 hx1 hx2 hx3 hx4 hx5 hx6 hx7 hx8 hx9 hx10 hx11 hx12 hxf hlt0 hst0 ⊢
          (have hbr := BoxIs.new y.w [.int .i64 e.id, .int .i64 e.rd, .int .i64 e.s0, .int .i64 e.s1, .int .i64 e.e0, .int .i64 e.e1, .bool e.op, .slice e.la e.legs.length e.lc, .slice e.pa e.pauses.length e.pc, .int .i64 e.fw, .int .i64 e.fp, .int .i64 e.wh, .int .i64 e.pl] 44; rw [e2] at hbr; have hlg := HU.out.out.lt; have hlm := HU.out.paid.lt; replace HU := Lib.hid (HU.out.to hst0))
          clear e2 hst0
          generalize y.w.heap.size = gr at *
          have Hhx0 : ∀ q : Since y5.w, q.w.cell? ⟨gr, 0, none⟩ = some (.int .i64 e.id) := fun q => Since.cell hx0 (by omega) q
          have Hhx1 : ∀ q : Since y5.w, q.w.cell? ⟨gr, 1, none⟩ = some (.int .i64 e.rd) := fun q => Since.cell hx1 (by omega) q
          have Hhx2 : ∀ q : Since y5.w, q.w.cell? ⟨gr, 2, none⟩ = some (.int .i64 e.s0) := fun q => Since.cell hx2 (by omega) q
          have Hhx3 : ∀ q : Since y5.w, q.w.cell? ⟨gr, 3, none⟩ = some (.int .i64 e.s1) := fun q => Since.cell hx3 (by omega) q
          have Hhx4 : ∀ q : Since y5.w, q.w.cell? ⟨gr, 4, none⟩ = some (.int .i64 e.e0) := fun q => Since.cell hx4 (by omega) q
          have Hhx5 : ∀ q : Since y5.w, q.w.cell? ⟨gr, 5, none⟩ = some (.int .i64 e.e1) := fun q => Since.cell hx5 (by omega) q
          have Hhx6 : ∀ q : Since y5.w, q.w.cell? ⟨gr, 6, none⟩ = some (.bool e.op) := fun q => Since.cell hx6 (by omega) q
          have Hhx7 : ∀ q : Since y5.w, q.w.cell? ⟨gr, 7, none⟩ = some (.slice e.la e.legs.length e.lc) := fun q => Since.cell hx7 (by omega) q
          have Hhx8 : ∀ q : Since y5.w, q.w.cell? ⟨gr, 8, none⟩ = some (.slice e.pa e.pauses.length e.pc) := fun q => Since.cell hx8 (by omega) q
          have Hhx9 : ∀ q : Since y5.w, q.w.cell? ⟨gr, 9, none⟩ = some (.int .i64 e.fw) := fun q => Since.cell hx9 (by omega) q
          have Hhx10 : ∀ q : Since y5.w, q.w.cell? ⟨gr, 10, none⟩ = some (.int .i64 e.fp) := fun q => Since.cell hx10 (by omega) q
          have Hhx11 : ∀ q : Since y5.w, q.w.cell? ⟨gr, 11, none⟩ = some (.int .i64 e.wh) := fun q => Since.cell hx11 (by omega) q
          have Hhx12 : ∀ q : Since y5.w, q.w.cell? ⟨gr, 12, none⟩ = some (.int .i64 e.pl) := fun q => Since.cell hx12 (by omega) q
          have Hhxf : ∀ (q : Since y5.w) (o : Nat), q.w.frozen? ⟨gr, o, none⟩ = false := fun q o => Since.free (hxf o) (by omega) q
          have Hhxg := Lib.hid (And.intro hsz0 hlt0)
          clear hlt0 hsz0
          have HB := Lib.hid (BoxIs.ride (r := e) hbr)
          have HP5 := Lib.hid (Since.els HP.out y5)
          clear hbr kci hci ra0 ra1 ra2 ra3 ra4 ra5 ra6 ra7 ra8 ra9 ra10 ra11 ra12
          obtain ⟨q0, hq0⟩ := Since.refl y5.w
          rw [hq0]
          clear hq0
          go_wp2_with fail
          refine (idx_calls y5.w _ pa lp pc gr e HP5.out (by omega) HB.out hs0 hs1).mono ?_
          rintro _ _ ⟨rfl, z1, rfl⟩
          replace HU := Lib.hid (HU.out.to ⟨z1, rfl⟩)
          replace HB := Lib.hid (HB.out.since z1)
          obtain ⟨y6, h6⟩ := y5.trans z1
          rw [h6] at HU HB ⊢
          have kc6 := HU.out.out.c i hir
          have kf6 := HU.out.out.f i hir
          obtain ⟨y7, h7⟩ := y6.set ⟨g1, i, none⟩ Hg1.out (.int .i64 (idxV lp e))
          have HU7 := Lib.hid (HU.out.set (f' := fun j => if j = i then idxV lp e else if j ∈ o.take m then u j else 0) hir Hne.out (idxV lp e) (by simp) (fun j _ hj => by simp [hj]))
          have HB7 : RideBox (y6.w.setCell ⟨g1, i, none⟩ (.int .i64 (idxV lp e))) gr e := HB.out.setOther _ (fun hh => by have h9 : g1 = gr := hh; omega) _
          clear h6 hx0 hx1 hx2 hx3 hx4 hx5 hx6 hx7 hx8 hx9 hx10 hx11 hx12 hxf Hhx0 Hhx1 Hhx2 Hhx3 Hhx4 Hhx5 Hhx6 Hhx7 Hhx8 Hhx9 Hhx10 Hhx11 Hhx12 Hhxf HP5
          go_upto_region 14 with fail
          rw [h7] at HU7 HB7
          clear h7 HU HB kc6 kf6
          replace HU7 := Lib.hid HU7.out
          replace HB7 := Lib.hid HB7
          have Hlm := Lib.hid (And.intro hlg hlm)
          clear hlg hlm
          rcases idxV_cases lp e with ⟨hx, hno⟩ | ⟨k0, hk0, hx, -, hno⟩
          · have Hres := Lib.hid (show (-1 : Int) = firstP lp (rAt R i) (cnt R u (rAt R i)) by
              rw [He.out]
              exact (firstP_no fun j hj => by rw [hno j hj]; rfl).symm)
            rw [hx] at HU7
            have kc7 := HU7.out.out.c i hir
            rw [if_pos rfl] at kc7
            clear hno hx
            have HU8 := Lib.hid (HU7.out.next HO.out Hi.out (-1) (fun j => rfl) (fun k d hk => by rw [pd_next HO.out Hi.out, if_neg (by omega), Nat.add_zero]))
            clear HU7 HB7
            have kc8 : ∀ q : Since y7.w, q.w.cell? ⟨g1, i, none⟩ = some (.int .i64 (-1)) := fun q => Since.cell kc7 HU8.out.out.lt q
            clear kc7
            obtain ⟨q7, hq0⟩ := Since.refl y7.w
            rw [hq0]
            clear hq0
            go_wp2_with fail
            go_loopw [12] (fun s wr => s = .int .i64 (-1) ∧ wr = q7.w) (fun _ _ => 0)
            case atStart => exact ⟨rfl, rfl⟩
            case round =>
              obtain ⟨rfl, rfl⟩ := hrel
              obtain ⟨y8, h8⟩ := y7.trans q7
              have HU9 := Lib.hid (HU8.out.to ⟨q7, rfl⟩)
              rw [h8] at HU9 ⊢
              clear HU8 h8
              go_wp2_with fail
              go_roundw
              case rel => exact ⟨m + 1, upd u i (-1), y8, by omega, by go_num, rfl, HU9.out, done_next HO.out Hi.out HD.out Hres.out⟩
              case measure => simp [intOf] <;> omega
          · rw [hx] at HU7
            have kc7 := HU7.out.out.c i hir
            rw [if_pos rfl] at kc7
            have kc7' : ∀ q : Since y7.w, q.w.cell? ⟨g1, i, none⟩ = some (.int .i64 (k0 : Int)) := fun q => Since.cell kc7 HU7.out.out.lt q
            clear hx kc7
            have Hkc := Lib.hid kc7'
            obtain ⟨q7, hq0⟩ := Since.refl y7.w
            rw [hq0]
            clear hq0
            go_wp2_with fail
            go_loopw [12] (fun s wr => ∃ (k : Nat) (y : Since W), k0 ≤ k ∧ k ≤ lp.length ∧ s = .int .i64 k ∧ wr = y.w ∧ UseAt y.w g0 g1 bm R.length o (fun j => if j = i then (if k < lp.length then (k0 : Int) else -1) else if j ∈ o.take m then u j else 0) R u (o.take m) ∧ RideBox y.w gr e ∧ ∀ j, j < k → (vP (pAt lp j) e && decide ((pd R u (o.take m) (j : Int) (day e) : Int) < (pAt lp j).n)) = false) (fun s _ => lp.length - (intOf s).toNat)
            case atStart =>
              obtain ⟨y8, h8⟩ := y7.trans q7
              refine ⟨k0, y8, Nat.le_refl _, by omega, rfl, h8, ?_, h8 ▸ HB7.out.since q7, fun j hj => by rw [hno j hj]; rfl⟩
              rw [← h8, if_pos hk0]
              exact HU7.out.to ⟨q7, rfl⟩
            case round =>
              clear HU7 HB7 kc7' Hkc hno
              obtain ⟨k, y8, hk1, hk2, rfl, rfl, hU, hB, hno⟩ := hrel
              have HU := Lib.hid hU; have HB := Lib.hid hB; have Hno := Lib.hid hno
              clear hU hB hno
              by_cases hkl : k < lp.length
              · rw [if_pos hkl] at HU
                obtain ⟨p, hp⟩ : ∃ p, lp[k]? = some p := ⟨_, List.getElem?_eq_getElem hkl⟩
                obtain ⟨b2, off2, rfl, h2'⟩ := Els.pass HP.out hp
                have pa0 := h2'.c0
                have pa1 := h2'.c1
                have pa2 := h2'.c2
                have pa3 := h2'.c3
                have pa4 := h2'.c4
                have pa5 := h2'.c5
                have Hpe := Lib.hid (pAt_eq hp)
                have hbc := HB.out.cells
                have ra0 := hbc.c0
                have ra1 := hbc.c1
                have ra2 := hbc.c2
                have ra3 := hbc.c3
                have ra4 := hbc.c4
                have ra5 := hbc.c5
                have ra6 := hbc.c6
                have ra7 := hbc.c7
                have ra8 := hbc.c8
                have ra9 := hbc.c9
                have ra10 := hbc.c10
                have ra11 := hbc.c11
                have ra12 := hbc.c12
                simp only [Nat.zero_add] at ra1 ra2 ra3 ra4 ra5 ra6 ra7 ra8 ra9 ra10 ra11 ra12
                have hk0' : (0 : Int) ≤ (k : Int) := by omega
                have hkl' : (k : Int) < (lp.length : Int) := by omega
                clear h2' hp hbc
                obtain ⟨q8, hq0⟩ := Since.refl y8.w
                rw [hq0]
                clear hq0
                go_wp2_with fail
                refine (day_calls y8.w _ e hs0 hs1).mono ?_
                rintro _ _ ⟨rfl, z9, rfl⟩
                go_upto_region 18 with fail
                have HU9 := HU.out.to (⟨z9, rfl⟩ : ∃ zz : Since y8.w, z9.w = zz.w)
                have ht0 : (z9.w.alloc (.cells #[.int .i64 (k : Int), .int .i64 (day e)] 77)).cell? ⟨z9.w.heap.size, 0, none⟩ = some (.int .i64 (k : Int)) := by simp [go_sem]
                have ht1 : (z9.w.alloc (.cells #[.int .i64 (k : Int), .int .i64 (day e)] 77)).cell? ⟨z9.w.heap.size, 1, none⟩ = some (.int .i64 (day e)) := by simp [go_sem]
                have htf : ∀ o, (z9.w.alloc (.cells #[.int .i64 (k : Int), .int .i64 (day e)] 77)).frozen? ⟨z9.w.heap.size, o, none⟩ = false := fun o => by simp [go_sem]
                have hlt0 : z9.w.heap.size < (z9.w.alloc (.cells #[.int .i64 (k : Int), .int .i64 (day e)] 77)).heap.size := by simp
                have hst0 : ∃ zz : Since z9.w, (z9.w.alloc (.cells #[.int .i64 (k : Int), .int .i64 (day e)] 77)) = zz.w := IsSince.alloc (IsSince.self _) _
                have hsz0 := z9.b.size
                obtain ⟨z10, e2⟩ := IsSince.alloc (IsSince.of z9) (.cells #[.int .i64 (k : Int), .int .i64 (day e)] 77)
                rw [e2] at ht0 ht1 htf hlt0 hst0 ⊢
                (replace HU9 := HU9.to hst0)
                clear e2 hst0
                generalize z9.w.heap.size = gt at *
                have Hht0 : ∀ q : Since z10.w, q.w.cell? ⟨gt, 0, none⟩ = some (.int .i64 (k : Int)) := fun q => Since.cell ht0 (by omega) q
                have Hht1 : ∀ q : Since z10.w, q.w.cell? ⟨gt, 1, none⟩ = some (.int .i64 (day e)) := fun q => Since.cell ht1 (by omega) q
                have Hhtf : ∀ (q : Since z10.w) (o : Nat), q.w.frozen? ⟨gt, o, none⟩ = false := fun q o => Since.free (htf o) (by omega) q
                have Hhtg := Lib.hid (And.intro hsz0 hlt0)
                clear hlt0 hsz0
                have hz10 := y8.trans z10
                obtain ⟨L, hL, hLv⟩ := HU9.paid
                have hlk : ∀ q : Since z10.w, (Instr.lookup 74 (.map (some bm)) (.agg #[.int .i64 (k : Int), .int .i64 (day e)]) false).run Try.prog q.w = .ok (.int .i64 (pd R u (o.take m) (k : Int) (day e) : Int)) q.w := fun q => by
                  have h1 := run_look keyTurn (hL.to' ⟨q, rfl⟩) Try.underlying74 (zeroInt _) ((k : Int), day e) false
                  simp only [Bool.false_eq_true, if_false] at h1
                  rw [hLv (k : Int) (day e) (by omega)] at h1
                  exact h1
                have hvc := fun y : Since z10.w => valid_calls z10.w y p (day e)
                have Hvc := Lib.hid hvc
                have Hvp := Lib.hid (show vP p e = (decide (p.rd = e.rd) && vpd p (day e)) from rfl)
                have HL := Lib.hid (And.intro hL hLv)
                replace HU9 := Lib.hid HU9
                replace pa0 := Since.cellTo hz10 pa0
                replace pa1 := Since.cellTo hz10 pa1
                replace pa2 := Since.cellTo hz10 pa2
                replace pa3 := Since.cellTo hz10 pa3
                replace pa4 := Since.cellTo hz10 pa4
                replace pa5 := Since.cellTo hz10 pa5
                replace ra1 := Since.cellTo (⟨z10, rfl⟩ : ∃ zz : Since y8.w, z10.w = zz.w) ra1
                have Hz10 := Lib.hid hz10
                clear hvc hL hLv hz10 ht0 ht1 htf ra0 ra2 ra3 ra4 ra5 ra6 ra7 ra8 ra9 ra10 ra11 ra12
                have hcase : ((p.rd == e.rd) = true ∧ vpd p (day e) = true ∧ decide ((pd R u (o.take m) (k : Int) (day e) : Int) < p.n) = true ∧ (vP p e && decide ((pd R u (o.take m) (k : Int) (day e) : Int) < p.n)) = true) ∨
                    ((p.rd == e.rd) = false ∧ (vP p e && decide ((pd R u (o.take m) (k : Int) (day e) : Int) < p.n)) = false) ∨
                    ((p.rd == e.rd) = true ∧ vpd p (day e) = false ∧ (vP p e && decide ((pd R u (o.take m) (k : Int) (day e) : Int) < p.n)) = false) ∨
                    ((p.rd == e.rd) = true ∧ vpd p (day e) = true ∧ decide ((pd R u (o.take m) (k : Int) (day e) : Int) < p.n) = false ∧ (vP p e && decide ((pd R u (o.take m) (k : Int) (day e) : Int) < p.n)) = false) := by
                  rw [Hvp.out]
                  by_cases h1 : p.rd = e.rd
                  · cases h2 : vpd p (day e)
                    · exact .inr (.inr (.inl ⟨by simpa using h1, rfl, by simp⟩))
                    · cases h3 : decide ((pd R u (o.take m) (k : Int) (day e) : Int) < p.n)
                      · exact .inr (.inr (.inr ⟨by simpa using h1, rfl, rfl, by simp⟩))
                      · exact .inl ⟨by simpa using h1, rfl, rfl, by simp [h1]⟩
                  · exact .inr (.inl ⟨by simpa using h1, by simp [h1]⟩)
                clear Hvp
                obtain ⟨q10, hq0⟩ := Since.refl z10.w
                rw [hq0]
                clear hq0
                rcases hcase with ⟨t1, t2, t3, ht⟩ | hcase
                · rw [t2] at Hvc
                  clear t2
                  go_wp2_with fail
                  refine wp_region_since (by kernel_rfl) (by kernel_rfl) ?_
                  repeat (go_big_quiet_step ((go_at_call 33; exact Hvc.out _)))
                  refine wpQuiet_nil ?_
                  rintro _ ⟨z11, rfl⟩
                  go_upto_region 19 with fail
                  have hLz := HL.out.1.to' (⟨z11, rfl⟩ : ∃ zz : Since z10.w, z11.w = zz.w)
                  have hLd : MapAt eturn z11.w.drew bm L := hLz
                  obtain ⟨w1, w2, iE, hE, hK, hS, hM, hG⟩ := bump_run hLd (k : Int) (day e) _ (HL.out.2 (k : Int) (day e) (by omega))
                  have HM := Lib.hid (And.intro hM hG)
                  have hb0 : 0 ≤ (pd R u (o.take m) (k : Int) (day e) : Int) := by omega
                  have hb1 : (pd R u (o.take m) (k : Int) (day e) : Int) ≤ 256 := by
                    have h1 : pd R u (o.take m) (k : Int) (day e) ≤ (o.take m).length := List.length_filter_le _ _
                    have h2 : (o.take m).length ≤ o.length := by rw [List.length_take]; omega
                    omega
                  have hg0 : z11.w.drew.cell? ⟨gt, 0, none⟩ = some (.int .i64 (k : Int)) := Hht0 z11
                  have hg1 : z11.w.drew.cell? ⟨gt, 1, none⟩ = some (.int .i64 (day e)) := Hht1 z11
                  have hlkd : (Instr.lookup 74 (.map (some bm)) (.agg #[.int .i64 (k : Int), .int .i64 (day e)]) false).run Try.prog z11.w.drew = .ok (.int .i64 (pd R u (o.take m) (k : Int) (day e) : Int)) z11.w.drew := by
                    obtain ⟨zz, hzz⟩ := z11.drew
                    rw [hzz]; exact hlk zz
                  clear hLz hLd hM hG
                  have hpd : (pd R u (o.take m) (k : Int) (day e) : Int) = (pd R u (o.take m) (k : Int) (day e) : Nat) := rfl
                  obtain ⟨y11, h11⟩ : ∃ y : Since W, z11.w.drew = y.w := by
                    obtain ⟨zz, hzz⟩ := z11.drew
                    rw [hzz]
                    exact Since.up Hz10.out zz
                  have HV := Lib.hid (HU9.out.to (show ∃ zz : Since z10.w, z11.w.drew = zz.w from z11.drew))
                  rw [h11] at HM HV
                  obtain ⟨y12, h12⟩ := y11.grown HM.out.2 (fun j hj => by cases hj; have := Hg1.out; have := Hg2.out; omega)
                  have HB12 := HV.out.bump (by omega) HM.out.1 HM.out.2 HL.out.2
                  have HU12 : UseAt w2 g0 g1 bm R.length o (fun j => if j = i then (k0 : Int) else if j ∈ o.take m then u j else 0) R (upd u i (k : Int)) (o.take (m + 1)) := ⟨HB12.1, HB12.2.1, HB12.2.2 _ _ (fun k' d' hk' => by
                    rw [pd_next HO.out Hi.out, He.out]
                    by_cases hkd : (k : Int) = k' ∧ day e = d'
                    · obtain ⟨rfl, rfl⟩ := hkd; simp
                    · rw [if_neg hkd, if_neg (fun hh => hkd (by simp at hh; exact ⟨hh.1.symm, hh.2.symm⟩))]; simp)⟩
                  subst h12
                  have HU13 := Lib.hid HU12
                  have hTk := Lib.hid (show (k : Int) = firstP lp (rAt R i) (cnt R u (rAt R i)) by
                    have hc : ∀ j : Int, cnt R u (rAt R i) j = pd R u (o.take m) j (day e) := fun j => by rw [cnt_ord HO.out Hid.out Hi.out, He.out]
                    rw [He.out] at hc ⊢
                    exact (firstP_yes hkl (by rw [hc, Hpe.out]; exact ht) (fun j hj => by rw [hc]; exact Hno.out j hj)).symm)
                  have kc12 := HU12.out.c i hir
                  have kf12 := HU12.out.f i hir
                  obtain ⟨y13, h13⟩ := y12.set ⟨g1, i, none⟩ Hg1.out (.int .i64 (k : Int))
                  have HU14 := Lib.hid ((HU12.set (f' := fun j => if j ∈ o.take (m + 1) then upd u i (k : Int) j else 0) hir Hne.out (k : Int) (by rw [HO.out.take_next Hi.out, upd_same]; simp) (fun j _ hj => by rw [HO.out.take_next Hi.out, upd_ne _ _ _ hj]; simp [hj])))
                  rw [h13] at HU14
                  clear HU12 HB12 HV HM h11 ht hpd hb0
                  go_region
                  go_upto_region 20 with fail
                  clear hE hK hS hg0 hg1 hlkd hlk
                  go_wp2_with fail
                  go_roundw
                  case rel => exact ⟨m + 1, upd u i (k : Int), y13, by omega, by go_num, rfl, HU14.out, done_next HO.out Hi.out HD.out hTk.out⟩
                  case measure => simp [intOf] <;> omega
                · have HF := Lib.hid (show (vP p e && decide ((pd R u (o.take m) (k : Int) (day e) : Int) < p.n)) = false by
                    rcases hcase with ⟨_, h⟩ | ⟨_, _, h⟩ | ⟨_, _, _, h⟩ <;> exact h)
                  have Hno2 := Lib.hid (show ∀ j, j < k + 1 → (vP (pAt lp j) e && decide ((pd R u (o.take m) (j : Int) (day e) : Int) < (pAt lp j).n)) = false from fun j hj => by
                    by_cases hjk : j = k
                    · subst hjk; rw [Hpe.out]; exact HF.out
                    · exact Hno.out j (by omega))
                  clear HF Hno HL
                  rcases hcase with ⟨t1, -⟩ | ⟨t1, t2, -⟩ | ⟨t1, t2, t3, -⟩
                  all_goals
                    try rw [t2] at Hvc
                    go_wp2_with fail
                    refine wp_region_since (by kernel_rfl) (by kernel_rfl) ?_
                    repeat (go_big_quiet_step ((go_at_call 33; exact Hvc.out _)))
                    refine wpQuiet_nil ?_
                    rintro _ ⟨z11, rfl⟩
                    replace HU9 := Lib.hid (HU9.out.to ⟨z11, rfl⟩)
                    obtain ⟨y11, h11⟩ := Since.up Hz10.out z11
                    rw [h11] at HU9 ⊢
                    have HB11 := Lib.hid (show RideBox y11.w gr e by
                      rw [← h11]
                      obtain ⟨zz, hzz⟩ := z10.trans z11
                      rw [hzz]
                      exact HB.out.since zz)
                    clear hlk Hvc HB pa0 pa1 pa2 pa3 pa4 pa5 ra1 Hz10 h11
                    by_cases hlast : k + 1 = lp.length
                    · have hlb : ((k : Int) == (lp.length : Int) - 1) = true := by simp; omega
                      have kc11 := HU9.out.out.c i hir
                      have kf11 := HU9.out.out.f i hir
                      obtain ⟨y12, h12⟩ := y11.set ⟨g1, i, none⟩ Hg1.out (.int .i64 (-1))
                      have HU12 := Lib.hid (HU9.out.set (f' := fun j => if j = i then (if k + 1 < lp.length then (k0 : Int) else -1) else if j ∈ o.take m then u j else 0) hir Hne.out (-1) (by rw [if_pos rfl, if_neg (by omega)]) (fun j _ hj => by simp [hj]))
                      have HB12 := Lib.hid (show RideBox (y11.w.setCell ⟨g1, i, none⟩ (.int .i64 (-1))) gr e from HB11.out.setOther _ (fun hh => by have h9 : g1 = gr := hh; have := Hlm.out; omega) _)
                      rw [h12] at HU12 HB12
                      go_wp2_with fail
                      go_roundw
                      case rel => exact ⟨k + 1, y12, by omega, by omega, by go_num, rfl, HU12.out, HB12.out, Hno2.out⟩
                      case measure => simp [intOf] <;> omega
                    · have hlb : ((k : Int) == (lp.length : Int) - 1) = false := by simp; omega
                      go_wp2_with fail
                      go_roundw
                      case rel =>
                        refine ⟨k + 1, y11, by omega, by omega, by go_num, rfl, ?_, HB11.out, Hno2.out⟩
                        rw [if_pos (show k + 1 < lp.length by omega)]
                        exact HU9.out
                      case measure => simp [intOf] <;> omega
              · obtain rfl : k = lp.length := by omega
                rw [if_neg hkl] at HU
                have Hres := Lib.hid (show (-1 : Int) = firstP lp (rAt R i) (cnt R u (rAt R i)) by
                  have hc : ∀ j : Int, cnt R u (rAt R i) j = pd R u (o.take m) j (day e) := fun j => by rw [cnt_ord HO.out Hid.out Hi.out, He.out]
                  rw [He.out] at hc ⊢
                  exact (firstP_no fun j hj => by rw [hc]; exact Hno.out j hj).symm)
                have HU9 := Lib.hid (HU.out.next HO.out Hi.out (-1) (fun j => rfl) (fun k' d hk => by rw [pd_next HO.out Hi.out, if_neg (by omega), Nat.add_zero]))
                clear HU HB Hno
                go_wp2_with fail
                go_roundw
                case rel => exact ⟨m + 1, upd u i (-1), y8, by omega, by go_num, rfl, HU9.out, done_next HO.out Hi.out HD.out Hres.out⟩
                case measure => simp [intOf] <;> omega
        · obtain rfl : m = R.length := by omega
          go_wp2_with fail
          go_ret
          obtain ⟨yy, hyy⟩ := Hup.out y
          refine ⟨some ⟨g1, 0, none⟩, R.length, yy, u, rfl, hyy, done_all HO.out HD.out, ?_⟩
          rw [← hyy]
          intro i hi
          have hc := HU.out.out.c i hi
          rw [if_pos (by rw [List.take_of_length_le (by rw [HO.out.len]; exact Nat.le_refl _)]; exact HO.out.perm.mem_iff.2 (List.mem_range.2 hi))] at hc
          exact ⟨g1, 0, rfl, HU.out.out.lt, by rw [Nat.zero_add]; exact hc⟩
end Go.Proofs.Ytbkfcdheckkjaaa
