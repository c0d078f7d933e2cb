/- The walks of replicas, eighth part: Seen. -/
import Derived.Test.YtcpfogbjbinjcaaGsW7
import Derived.Test.YtcpfogbjbinjcaaReg
import Derived.Test.YtcpfogbjbinjcaaGsW3
import Derived.IntWalk
set_option linter.all false
namespace Go.Proofs.Ytcpfogbjbinjcaa
open Go.RowKit Go.ChangeMaps Go.Sort

theorem ints : SliceOf Try.prog 23 3 (.int .i64 0) 1 8 := SliceOf.mk' (by kernel_rfl) (by kernel_rfl) rfl (by decide)
/-- no event -/
def ev0 : Ev := ⟨0, 0, 0, 0, 0, 0, 0, 0, 0⟩
theorem lk_at (l : List Ev) (d s : Int) : ∃ z : Ev, lkV (d, s) (l.map evP) ev0.ag = z.ag ∧ z.a = atS l d s ∧ lkB (d, s) (l.map evP) = hasB l d s := by
  have h1 := lkV_ev (⟨d, s, 0, 0, 0, 0, 0, 0, 0⟩ : Ev) l ev0.ag
  have h2 := lkB_ev (⟨d, s, 0, 0, 0, 0, 0, 0, 0⟩ : Ev) l
  have e : findE l (⟨d, s, 0, 0, 0, 0, 0, 0, 0⟩ : Ev) = l.find? (fun x => decide (x.d = d) && decide (x.q = s)) := rfl
  rw [e] at h1 h2
  have h3 : hasB l d s = (l.find? (fun x => decide (x.d = d) && decide (x.q = s))).isSome := by
    unfold hasB
    rw [Bool.eq_iff_iff, List.any_eq_true, List.find?_isSome]
  rw [h1, h2, h3]
  unfold atS
  cases l.find? (fun x => decide (x.d = d) && decide (x.q = s)) with
  | none => exact ⟨ev0, rfl, rfl, rfl⟩
  | some x => exact ⟨x, rfl, rfl, rfl⟩

/-- numbers of the call's own in block g -/
structure RowF (w : World) (g N : Nat) (f : Nat → Int) : Prop where
  lt : g < w.heap.size
  c : ∀ j, j < N → w.cell? ⟨g, j, none⟩ = some (.int .i64 (f j))
  f : ∀ j, j < N → w.frozen? ⟨g, j, none⟩ = false
theorem RowF.to {w W : World} {g N : Nat} {f : Nat → Int} (h : RowF w g N f) (hW : ∃ z : Since w, W = z.w) : RowF W g N f := by
  obtain ⟨z, rfl⟩ := hW
  exact ⟨Nat.lt_of_lt_of_le h.lt z.b.size, fun j hj => Since.cell (h.c j hj) h.lt z, fun j hj => Since.free (h.f j hj) h.lt z⟩
theorem RowF.set {w : World} {g N k : Nat} {f f' : Nat → Int} (h : RowF w g N f) (hk : k < N) (v : Int) (hv : f' k = v) (ho : ∀ j, j < N → j ≠ k → f' j = f j) : RowF (w.setCell ⟨g, k, none⟩ (.int .i64 v)) g N f' := by
  refine ⟨by simpa [World.setCell] using h.lt, fun j hj => ?_, fun j hj => ?_⟩
  · by_cases hjk : j = k
    · subst hjk
      rw [World.cell?_setCell_same _ _ _ (h.c j hj), hv]
    · show ((w.setCells g k [.int .i64 v]).cell? _) = _
      rw [World.cell?_setCells_out g [.int .i64 v] k w ⟨g, j, none⟩ (fun _ _ => by simp; omega), h.c j hj, ho j hj hjk]
  · rw [World.frozen?_setCell]; exact h.f j hj
/-- new numbers in memory -/
def NewNums (w0 : World) (l : List Int) (o : Ending) (w' : World) : Prop :=
  ∃ (a : Option Addr) (cap : Nat) (y : Since w0), o = .returned (.slice a l.length cap) ∧ w' = y.w ∧ l.length ≤ cap ∧ IntRow y.w a l ∧ (∀ b, a = some b → w0.heap.size ≤ b.block) ∧ (∀ b off, a = some ⟨b, off, none⟩ → ∀ j, j < l.length → y.w.frozen? ⟨b, off + j, none⟩ = false)
theorem own_rowF {w : World} {base : Nat} {e : TypeId} {g n N : Nat} {xs : List Value} (h : w.ownsRow base e 1 (.slice (some ⟨g, 0, none⟩) N n) N xs) (hx : ∀ j, j < N → xs.getD j undef = .int .i64 0) : RowF w g N fun _ => 0 := by
  obtain ⟨hl, ⟨hbad, _⟩ | ⟨g', cap, cur, he, hg, hh, h1, h2, h3, h4⟩⟩ := h
  · cases hbad
  · obtain ⟨rfl, rfl⟩ : g = g' ∧ n = cap := by simpa using he
    refine ⟨(Array.getElem?_eq_some_iff.1 hh).1, fun j hj => ?_, fun j hj => by simp [World.frozen?, hh]⟩
    have := hx j hj
    rw [← h4] at this
    simp only [Nat.mul_one] at *
    have hjc : j < cur.size := by omega
    simp [World.cell?, hh, List.getD_eq_getElem?_getD, List.getElem?_take, hj, hjc] at this ⊢
    exact this

/-- the numbers while device k is looked at -/
def seenF (l : List Ev) (k c : Nat) (j : Nat) : Int := if j < k then (seenN l (j : Int) : Int) else if j = k then c else 0
theorem seenF_start (l : List Ev) : seenF l 0 0 = fun _ => 0 := by funext j; unfold seenF; simp
theorem seenF_at (l : List Ev) (k c : Nat) : seenF l k c k = c := by unfold seenF; simp
theorem seenF_next (l : List Ev) (k : Nat) : seenF l k (seenN l (k : Int)) = seenF l (k + 1) 0 := by
  funext j; unfold seenF
  by_cases h1 : j < k
  · rw [if_pos h1, if_pos (by omega)]
  · by_cases h2 : j = k
    · subst h2; rw [if_neg h1, if_pos rfl, if_pos (by omega)]
    · rw [if_neg h1, if_neg h2, if_neg (by omega)]
      by_cases h3 : j = k + 1 <;> simp [h3]
theorem seenF_other (l : List Ev) (k c c' j : Nat) (h : j ≠ k) : seenF l k c j = seenF l k c' j := by unfold seenF; simp [h]
/-- the number in a cell -/
def cellN (w : World) (a : Addr) : Nat := match w.cell? a with | some (.int _ z) => z.toNat | _ => 0
theorem cellN_eq {w : World} {a : Addr} {k : IntKind} {c : Nat} (h : w.cell? a = some (.int k c)) : cellN w a = c := by unfold cellN; rw [h]; simp

set_option maxRecDepth 100000 in
set_option maxHeartbeats 4000000 in
theorem seen_calls (w : World) (x : Since w) (p bm N : Nat) (l : List Ev) (hR : RepAt w p bm N l) (hI : Inv N l) (hN : N ≤ 256) :
    Calls Try.prog 23 #[.pointer (some ⟨p, 0, none⟩)] x.w (NewNums w (seenL N l)) := by
  have hc0 : ∀ y : Since w, y.w.cell? ⟨p, 0, none⟩ = some (.int .i64 N) := fun y => (hR.since y).c0
  have hlen := hI.len
  clear hI
  go_enter Try.func23, Try.ntmps23
  obtain ⟨i0, hi0, hz0, hsz0, hby0⟩ := info_parts (P := Try.prog) (e := 3) (z := .int .i64 0) (size := 1) (bytes := 8) (by kernel_rfl)
  go_wp2_with (at_make; refine wpList_make_full _ rfl _ _ 23 rfl w.heap.size 3 i0 (.int .i64 0) 1 Try.underlying23 hi0 hz0 hsz0 .i64 .i64 (N : Int) (N : Int) N rfl rfl rfl rfl (by rw [hby0]; omega) (by unfold maxLen; omega) x.b.size ?_; intro w1 hown hg1)
  have hrow := own_rowF hown (fun j hj => by simp [madeCells, List.getD_eq_getElem?_getD, hj]; show (#[Value.int .i64 0] : Array Value)[j % 1]! = _; rw [Nat.mod_one]; rfl)
  obtain ⟨y1, hy1⟩ := x.grown hg1 (fun k hk => by cases hk)
  have hgb : w.heap.size ≤ x.w.heap.size := x.b.size
  subst hy1
  clear hown hg1 hi0 hz0 hsz0 hby0
  generalize x.w.heap.size = g at *
  go_loopw [16] (fun i wr => ∃ (k : Nat) (y : Since w), k ≤ N ∧ i = .int .i64 k ∧ wr = y.w ∧ RowF wr g N (seenF l k 0)) (fun i _ => N - (intOf i).toNat)
  case atStart => exact ⟨0, y1, by omega, rfl, rfl, by rw [seenF_start]; exact hrow⟩
  case round =>
    clear hrow
    obtain ⟨k, y, hk, rfl, rfl, hrow⟩ := hrel
    by_cases hlt : k < N
    · have Hrow := Lib.hid hrow
      clear hrow
      go_wp2_with fail
      go_loopw [6] (fun _ wr => ∃ (c : Nat) (y : Since w), c ≤ seenN l (k : Int) ∧ wr = y.w ∧ RowF wr g N (seenF l k c)) (fun _ wr => seenN l (k : Int) - cellN wr ⟨g, k, none⟩)
      case atStart => exact ⟨0, y, by omega, rfl, Hrow.out⟩
      case round =>
        obtain ⟨c, y, hc, rfl, hrow⟩ := hrel
        obtain ⟨z, hz1, -, hz3⟩ := lk_at l (k : Int) ((c : Int) + 1)
        have hcg : y.w.cell? ⟨g, k, none⟩ = some (.int .i64 (c : Int)) := by have := hrow.c k hlt; rwa [seenF_at] at this
        have hN1 := Lib.hid (cellN_eq hcg)
        have hIy : ∀ w', IsSince y.w w' → IsSince w w' := fun _ h => by obtain ⟨u, rfl⟩ := h; obtain ⟨v, e⟩ := y.trans u; exact ⟨v, e⟩
        have cg : ∀ w', IsSince y.w w' → w'.cell? ⟨g, k, none⟩ = some (.int .i64 (c : Int)) := fun _ h => by obtain ⟨u, rfl⟩ := h; exact Since.cell hcg hrow.lt u
        have cp : ∀ w', IsSince y.w w' → w'.cell? ⟨p, 1, none⟩ = some (.map (some bm)) := fun _ h => by obtain ⟨u, rfl⟩ := hIy _ h; exact (hR.since u).c1
        have cl : ∀ w', IsSince y.w w' → (Instr.lookup 67 (.map (some bm)) (.agg #[.int .i64 (k : Int), .int .i64 ((c : Int) + 1)]) true).run Try.prog w' = .ok (.tuple #[.agg #[.int .i64 z.d, .int .i64 z.q, .int .i64 z.a, .int .i64 z.t, .int .i64 z.k, .int .i64 z.b, .int .i64 z.p, .int .i64 z.r, .int .i64 z.i], .bool (hasB l (k : Int) ((c : Int) + 1))]) w' := fun _ h => by
          obtain ⟨u, rfl⟩ := hIy _ h
          have := run_look keyOps (hR.since u).m Try.underlying67 (zeroEv _) ((k : Int), (c : Int) + 1) true
          rw [if_pos rfl] at this
          rw [show (⟨0, 0, 0, 0, 0, 0, 0, 0, 0⟩ : Ev) = ev0 from rfl, hz1, hz3] at this
          exact this
        clear hIy
        have hsl := seen_le l (k : Int)
        have k0 : (0 : Int) ≤ (k : Int) := by omega
        have k1 : (k : Int) < (N : Int) := by omega
        have Hrow2 := Lib.hid hrow
        clear hrow hcg hz1 hz3
        by_cases hcs : c < seenN l (k : Int)
        · rw [seen_all l (k : Int) c hcs] at cl
          have hsum : IntKind.i64.wrap ((c : Int) + 1) = (c : Int) + 1 := IntWalk.i64_in _ (by omega)
          go_wp2_with fail
          go_region_held3 (fun w' => IsSince y.w w') (first | assumption | exact IsSince.drew' (IsSince.self _) | exact IsSince.drew' (IsSince.alloc (IsSince.self _) _)) (fail)
          all_goals
            go_upto_region 8 with fail
            have hx0 : ((y.w.alloc (.cells #[.int .i64 z.d, .int .i64 z.q, .int .i64 z.a, .int .i64 z.t, .int .i64 z.k, .int .i64 z.b, .int .i64 z.p, .int .i64 z.r, .int .i64 z.i] 33)).drew).cell? ⟨y.w.heap.size, 0, none⟩ = some (.int .i64 z.d) := by simp [go_sem]
            have hx1 : ((y.w.alloc (.cells #[.int .i64 z.d, .int .i64 z.q, .int .i64 z.a, .int .i64 z.t, .int .i64 z.k, .int .i64 z.b, .int .i64 z.p, .int .i64 z.r, .int .i64 z.i] 33)).drew).cell? ⟨y.w.heap.size, 1, none⟩ = some (.int .i64 z.q) := by simp [go_sem]
            have hx2 : ((y.w.alloc (.cells #[.int .i64 z.d, .int .i64 z.q, .int .i64 z.a, .int .i64 z.t, .int .i64 z.k, .int .i64 z.b, .int .i64 z.p, .int .i64 z.r, .int .i64 z.i] 33)).drew).cell? ⟨y.w.heap.size, 2, none⟩ = some (.int .i64 z.a) := by simp [go_sem]
            have hx3 : ((y.w.alloc (.cells #[.int .i64 z.d, .int .i64 z.q, .int .i64 z.a, .int .i64 z.t, .int .i64 z.k, .int .i64 z.b, .int .i64 z.p, .int .i64 z.r, .int .i64 z.i] 33)).drew).cell? ⟨y.w.heap.size, 3, none⟩ = some (.int .i64 z.t) := by simp [go_sem]
            have hx4 : ((y.w.alloc (.cells #[.int .i64 z.d, .int .i64 z.q, .int .i64 z.a, .int .i64 z.t, .int .i64 z.k, .int .i64 z.b, .int .i64 z.p, .int .i64 z.r, .int .i64 z.i] 33)).drew).cell? ⟨y.w.heap.size, 4, none⟩ = some (.int .i64 z.k) := by simp [go_sem]
            have hx5 : ((y.w.alloc (.cells #[.int .i64 z.d, .int .i64 z.q, .int .i64 z.a, .int .i64 z.t, .int .i64 z.k, .int .i64 z.b, .int .i64 z.p, .int .i64 z.r, .int .i64 z.i] 33)).drew).cell? ⟨y.w.heap.size, 5, none⟩ = some (.int .i64 z.b) := by simp [go_sem]
            have hx6 : ((y.w.alloc (.cells #[.int .i64 z.d, .int .i64 z.q, .int .i64 z.a, .int .i64 z.t, .int .i64 z.k, .int .i64 z.b, .int .i64 z.p, .int .i64 z.r, .int .i64 z.i] 33)).drew).cell? ⟨y.w.heap.size, 6, none⟩ = some (.int .i64 z.p) := by simp [go_sem]
            have hx7 : ((y.w.alloc (.cells #[.int .i64 z.d, .int .i64 z.q, .int .i64 z.a, .int .i64 z.t, .int .i64 z.k, .int .i64 z.b, .int .i64 z.p, .int .i64 z.r, .int .i64 z.i] 33)).drew).cell? ⟨y.w.heap.size, 7, none⟩ = some (.int .i64 z.r) := by simp [go_sem]
            have hx8 : ((y.w.alloc (.cells #[.int .i64 z.d, .int .i64 z.q, .int .i64 z.a, .int .i64 z.t, .int .i64 z.k, .int .i64 z.b, .int .i64 z.p, .int .i64 z.r, .int .i64 z.i] 33)).drew).cell? ⟨y.w.heap.size, 8, none⟩ = some (.int .i64 z.i) := by simp [go_sem]
            have hxf : ∀ o, ((y.w.alloc (.cells #[.int .i64 z.d, .int .i64 z.q, .int .i64 z.a, .int .i64 z.t, .int .i64 z.k, .int .i64 z.b, .int .i64 z.p, .int .i64 z.r, .int .i64 z.i] 33)).drew).frozen? ⟨y.w.heap.size, o, none⟩ = false := fun o => by simp [go_sem]
            have hlt0 : y.w.heap.size < ((y.w.alloc (.cells #[.int .i64 z.d, .int .i64 z.q, .int .i64 z.a, .int .i64 z.t, .int .i64 z.k, .int .i64 z.b, .int .i64 z.p, .int .i64 z.r, .int .i64 z.i] 33)).drew).heap.size := by simp
            have hst0 : ∃ zz : Since y.w, ((y.w.alloc (.cells #[.int .i64 z.d, .int .i64 z.q, .int .i64 z.a, .int .i64 z.t, .int .i64 z.k, .int .i64 z.b, .int .i64 z.p, .int .i64 z.r, .int .i64 z.i] 33)).drew) = zz.w := IsSince.drew' (IsSince.alloc (IsSince.self _) _)
            have hsz0 := y.b.size
            obtain ⟨y3, e2⟩ := IsSince.drew' (IsSince.alloc (IsSince.of y) (.cells #[.int .i64 z.d, .int .i64 z.q, .int .i64 z.a, .int .i64 z.t, .int .i64 z.k, .int .i64 z.b, .int .i64 z.p, .int .i64 z.r, .int .i64 z.i] 33))
            rw [e2] at hx0 hx1 hx2 hx3 hx4 hx5 hx6 hx7 hx8 hxf hlt0 hst0 ⊢
            (have hrow3 := Hrow2.out.to hst0)
            clear e2 hst0
            generalize y.w.heap.size = gx at *
            have Hhx0 : ∀ q : Since y3.w, q.w.cell? ⟨gx, 0, none⟩ = some (.int .i64 z.d) := fun q => Since.cell hx0 (by omega) q
            have Hhx1 : ∀ q : Since y3.w, q.w.cell? ⟨gx, 1, none⟩ = some (.int .i64 z.q) := fun q => Since.cell hx1 (by omega) q
            have Hhx2 : ∀ q : Since y3.w, q.w.cell? ⟨gx, 2, none⟩ = some (.int .i64 z.a) := fun q => Since.cell hx2 (by omega) q
            have Hhx3 : ∀ q : Since y3.w, q.w.cell? ⟨gx, 3, none⟩ = some (.int .i64 z.t) := fun q => Since.cell hx3 (by omega) q
            have Hhx4 : ∀ q : Since y3.w, q.w.cell? ⟨gx, 4, none⟩ = some (.int .i64 z.k) := fun q => Since.cell hx4 (by omega) q
            have Hhx5 : ∀ q : Since y3.w, q.w.cell? ⟨gx, 5, none⟩ = some (.int .i64 z.b) := fun q => Since.cell hx5 (by omega) q
            have Hhx6 : ∀ q : Since y3.w, q.w.cell? ⟨gx, 6, none⟩ = some (.int .i64 z.p) := fun q => Since.cell hx6 (by omega) q
            have Hhx7 : ∀ q : Since y3.w, q.w.cell? ⟨gx, 7, none⟩ = some (.int .i64 z.r) := fun q => Since.cell hx7 (by omega) q
            have Hhx8 : ∀ q : Since y3.w, q.w.cell? ⟨gx, 8, none⟩ = some (.int .i64 z.i) := fun q => Since.cell hx8 (by omega) q
            have Hhxf : ∀ (q : Since y3.w) (o : Nat), q.w.frozen? ⟨gx, o, none⟩ = false := fun q o => Since.free (hxf o) (by omega) q
            have Hhxg := Lib.hid (And.intro hsz0 hlt0)
            clear hlt0 hsz0
            clear hsum cg cp cl
            have hcg3 : y3.w.cell? ⟨g, k, none⟩ = some (.int .i64 (c : Int)) := by have := hrow3.c k hlt; rwa [seenF_at] at this
            have hfg3 := hrow3.f k hlt
            have Hrow3 := Lib.hid hrow3
            clear hrow3
            go_wp2_with fail
            obtain ⟨y4, h4⟩ := y3.set ⟨g, k, none⟩ hgb (.int .i64 ((c : Int) + 1))
            have hset := Hrow3.out.set (f' := seenF l (k : Int).toNat (c + 1)) hlt ((c : Int) + 1) (by rw [Int.toNat_natCast, seenF_at]; rfl) (fun j _ hj => by rw [Int.toNat_natCast]; exact seenF_other l k _ _ j hj)
            rw [Int.toNat_natCast] at hset
            refine ⟨⟨c + 1, y4, by omega, h4, hset⟩, ?_⟩
            have hcn : cellN (y3.w.setCell ⟨g, k, none⟩ (.int .i64 ((c : Int) + 1))) ⟨g, k, none⟩ = c + 1 := cellN_eq (k := .i64) (by rw [World.cell?_setCell_same _ _ _ hcg3]; rfl)
            rw [hcn, hN1.out]
            omega
        · have hce : c = seenN l (k : Int) := by omega
          subst hce
          rw [seen_next l (k : Int)] at cl
          have hsum : IntKind.i64.wrap ((seenN l (k : Int) : Int) + 1) = (seenN l (k : Int) : Int) + 1 := IntWalk.i64_in _ (by omega)
          go_wp2_with fail
          go_region_held3 (fun w' => IsSince y.w w') (first | assumption | exact IsSince.drew' (IsSince.self _) | exact IsSince.drew' (IsSince.alloc (IsSince.self _) _)) (fail)
          all_goals
            go_upto_region 8 with fail
            have hx0 : ((y.w.alloc (.cells #[.int .i64 z.d, .int .i64 z.q, .int .i64 z.a, .int .i64 z.t, .int .i64 z.k, .int .i64 z.b, .int .i64 z.p, .int .i64 z.r, .int .i64 z.i] 33)).drew).cell? ⟨y.w.heap.size, 0, none⟩ = some (.int .i64 z.d) := by simp [go_sem]
            have hx1 : ((y.w.alloc (.cells #[.int .i64 z.d, .int .i64 z.q, .int .i64 z.a, .int .i64 z.t, .int .i64 z.k, .int .i64 z.b, .int .i64 z.p, .int .i64 z.r, .int .i64 z.i] 33)).drew).cell? ⟨y.w.heap.size, 1, none⟩ = some (.int .i64 z.q) := by simp [go_sem]
            have hx2 : ((y.w.alloc (.cells #[.int .i64 z.d, .int .i64 z.q, .int .i64 z.a, .int .i64 z.t, .int .i64 z.k, .int .i64 z.b, .int .i64 z.p, .int .i64 z.r, .int .i64 z.i] 33)).drew).cell? ⟨y.w.heap.size, 2, none⟩ = some (.int .i64 z.a) := by simp [go_sem]
            have hx3 : ((y.w.alloc (.cells #[.int .i64 z.d, .int .i64 z.q, .int .i64 z.a, .int .i64 z.t, .int .i64 z.k, .int .i64 z.b, .int .i64 z.p, .int .i64 z.r, .int .i64 z.i] 33)).drew).cell? ⟨y.w.heap.size, 3, none⟩ = some (.int .i64 z.t) := by simp [go_sem]
            have hx4 : ((y.w.alloc (.cells #[.int .i64 z.d, .int .i64 z.q, .int .i64 z.a, .int .i64 z.t, .int .i64 z.k, .int .i64 z.b, .int .i64 z.p, .int .i64 z.r, .int .i64 z.i] 33)).drew).cell? ⟨y.w.heap.size, 4, none⟩ = some (.int .i64 z.k) := by simp [go_sem]
            have hx5 : ((y.w.alloc (.cells #[.int .i64 z.d, .int .i64 z.q, .int .i64 z.a, .int .i64 z.t, .int .i64 z.k, .int .i64 z.b, .int .i64 z.p, .int .i64 z.r, .int .i64 z.i] 33)).drew).cell? ⟨y.w.heap.size, 5, none⟩ = some (.int .i64 z.b) := by simp [go_sem]
            have hx6 : ((y.w.alloc (.cells #[.int .i64 z.d, .int .i64 z.q, .int .i64 z.a, .int .i64 z.t, .int .i64 z.k, .int .i64 z.b, .int .i64 z.p, .int .i64 z.r, .int .i64 z.i] 33)).drew).cell? ⟨y.w.heap.size, 6, none⟩ = some (.int .i64 z.p) := by simp [go_sem]
            have hx7 : ((y.w.alloc (.cells #[.int .i64 z.d, .int .i64 z.q, .int .i64 z.a, .int .i64 z.t, .int .i64 z.k, .int .i64 z.b, .int .i64 z.p, .int .i64 z.r, .int .i64 z.i] 33)).drew).cell? ⟨y.w.heap.size, 7, none⟩ = some (.int .i64 z.r) := by simp [go_sem]
            have hx8 : ((y.w.alloc (.cells #[.int .i64 z.d, .int .i64 z.q, .int .i64 z.a, .int .i64 z.t, .int .i64 z.k, .int .i64 z.b, .int .i64 z.p, .int .i64 z.r, .int .i64 z.i] 33)).drew).cell? ⟨y.w.heap.size, 8, none⟩ = some (.int .i64 z.i) := by simp [go_sem]
            have hxf : ∀ o, ((y.w.alloc (.cells #[.int .i64 z.d, .int .i64 z.q, .int .i64 z.a, .int .i64 z.t, .int .i64 z.k, .int .i64 z.b, .int .i64 z.p, .int .i64 z.r, .int .i64 z.i] 33)).drew).frozen? ⟨y.w.heap.size, o, none⟩ = false := fun o => by simp [go_sem]
            have hlt0 : y.w.heap.size < ((y.w.alloc (.cells #[.int .i64 z.d, .int .i64 z.q, .int .i64 z.a, .int .i64 z.t, .int .i64 z.k, .int .i64 z.b, .int .i64 z.p, .int .i64 z.r, .int .i64 z.i] 33)).drew).heap.size := by simp
            have hst0 : ∃ zz : Since y.w, ((y.w.alloc (.cells #[.int .i64 z.d, .int .i64 z.q, .int .i64 z.a, .int .i64 z.t, .int .i64 z.k, .int .i64 z.b, .int .i64 z.p, .int .i64 z.r, .int .i64 z.i] 33)).drew) = zz.w := IsSince.drew' (IsSince.alloc (IsSince.self _) _)
            have hsz0 := y.b.size
            obtain ⟨y3, e2⟩ := IsSince.drew' (IsSince.alloc (IsSince.of y) (.cells #[.int .i64 z.d, .int .i64 z.q, .int .i64 z.a, .int .i64 z.t, .int .i64 z.k, .int .i64 z.b, .int .i64 z.p, .int .i64 z.r, .int .i64 z.i] 33))
            rw [e2] at hx0 hx1 hx2 hx3 hx4 hx5 hx6 hx7 hx8 hxf hlt0 hst0 ⊢
            (have hrow3 := Lib.hid (Hrow2.out.to hst0))
            clear e2 hst0
            generalize y.w.heap.size = gx at *
            have Hhx0 : ∀ q : Since y3.w, q.w.cell? ⟨gx, 0, none⟩ = some (.int .i64 z.d) := fun q => Since.cell hx0 (by omega) q
            have Hhx1 : ∀ q : Since y3.w, q.w.cell? ⟨gx, 1, none⟩ = some (.int .i64 z.q) := fun q => Since.cell hx1 (by omega) q
            have Hhx2 : ∀ q : Since y3.w, q.w.cell? ⟨gx, 2, none⟩ = some (.int .i64 z.a) := fun q => Since.cell hx2 (by omega) q
            have Hhx3 : ∀ q : Since y3.w, q.w.cell? ⟨gx, 3, none⟩ = some (.int .i64 z.t) := fun q => Since.cell hx3 (by omega) q
            have Hhx4 : ∀ q : Since y3.w, q.w.cell? ⟨gx, 4, none⟩ = some (.int .i64 z.k) := fun q => Since.cell hx4 (by omega) q
            have Hhx5 : ∀ q : Since y3.w, q.w.cell? ⟨gx, 5, none⟩ = some (.int .i64 z.b) := fun q => Since.cell hx5 (by omega) q
            have Hhx6 : ∀ q : Since y3.w, q.w.cell? ⟨gx, 6, none⟩ = some (.int .i64 z.p) := fun q => Since.cell hx6 (by omega) q
            have Hhx7 : ∀ q : Since y3.w, q.w.cell? ⟨gx, 7, none⟩ = some (.int .i64 z.r) := fun q => Since.cell hx7 (by omega) q
            have Hhx8 : ∀ q : Since y3.w, q.w.cell? ⟨gx, 8, none⟩ = some (.int .i64 z.i) := fun q => Since.cell hx8 (by omega) q
            have Hhxf : ∀ (q : Since y3.w) (o : Nat), q.w.frozen? ⟨gx, o, none⟩ = false := fun q o => Since.free (hxf o) (by omega) q
            have Hhxg := Lib.hid (And.intro hsz0 hlt0)
            clear hlt0 hsz0
            clear hsum cg cp cl
            go_wp2_with fail
            go_roundw
            case rel => exact ⟨k + 1, y3, by omega, by go_num, rfl, by rw [← seenF_next]; exact hrow3.out⟩
            case measure => simp [intOf]; omega
    · obtain rfl : k = N := by omega
      have Hrow := Lib.hid hrow
      clear hrow
      go_wp2_with fail
      go_ret
      have hl := seenL_length k l
      refine ⟨some ⟨g, 0, none⟩, k, y, ret_slice hl.symm, rfl, by omega, fun i hi => ?_, fun b hb => ?_, fun b off hb j hj => ?_⟩
      · rw [hl] at hi
        refine ⟨g, 0, rfl, Hrow.out.lt, ?_⟩
        rw [Nat.zero_add, Hrow.out.c i hi]
        show some (Value.int .i64 _) = some (.int .i64 (at0 (seenL k l) i))
        rw [seenL_at l hi]
        unfold seenF
        rw [if_pos hi]
      · cases hb; exact hgb
      · have hb' : g = b ∧ 0 = off := by simpa using hb
        obtain ⟨rfl, rfl⟩ := hb'
        rw [Nat.zero_add]
        exact Hrow.out.f j (by omega)
end Go.Proofs.Ytcpfogbjbinjcaa
