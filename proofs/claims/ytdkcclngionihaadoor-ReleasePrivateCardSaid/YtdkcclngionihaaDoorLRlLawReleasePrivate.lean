/- The walks of noise, seventh part: Make. -/
import Derived.Test.YtdkcclngionihaaDoorRlMm
import Derived.IntWalk
set_option linter.all false
namespace Go.Proofs.YtdkcclngionihaaDoor
open Go.RowKit

theorem ints : SliceOf Tryd.prog 22 3 (.int .i64 0) 1 8 := SliceOf.mk' (by kernel_rfl) (by kernel_rfl) rfl (by decide)

theorem nmap_at {l : List Int} {n i : Nat} (hn : l.length = n) (h : i < n) : (l.map (Value.int .i64)).getD i undef = .int .i64 (at0 l i) := by
  unfold at0
  simp [List.getD_eq_getElem?_getD, List.getElem?_map, List.getElem?_eq_getElem (show i < l.length by omega)]
/-- new numbers in memory -/
def NewInts (w0 : World) (l : List Int) (v : Value) (w' : World) : Prop := ∃ a cap, v = .slice a l.length cap ∧ l.length ≤ cap ∧ ∃ y : Since w0, w' = y.w ∧ IntRow y.w a l
/-- what Make gives back -/
instance (num den : Int) : Decidable (Right num den) := by unfold Right; infer_instance
def Made (w0 : World) (r num den : Int) (e : Ending) (w' : World) : Prop :=
  if 0 ≤ r ∧ r ≤ 32 ∧ Right num den then ∃ v, e = .returned (.tuple #[.agg #[v], .int .i64 0]) ∧ NewInts w0 (mkL num den (r.toNat + 1)) v w'
  else e = .returned (.tuple #[.agg #[.slice none 0 0], .int .i64 1]) ∧ ∃ y : Since w0, w' = y.w

set_option maxHeartbeats 1000000 in
theorem make_calls (w : World) (x : Since w) (r num den : Int) :
    Calls Tryd.prog 24 #[.int .i64 r, .agg #[.int .i64 num, .int .i64 den]] x.w (Made w r num den) := by
  by_cases hok : 0 ≤ r ∧ r ≤ 32 ∧ Right num den
  · have hm : Made w r num den = fun e w' => ∃ v, e = .returned (.tuple #[.agg #[v], .int .i64 0]) ∧ NewInts w (mkL num den (r.toNat + 1)) v w' := by funext e w'; unfold Made; rw [if_pos hok]
    obtain ⟨r0, r1, hR⟩ := hok
    obtain ⟨n, rfl⟩ : ∃ n : Nat, r = n := ⟨r.toNat, by omega⟩
    have hrb := rightB_yes hR
    have HR := Lib.hid hR
    obtain ⟨q0, q1, q2⟩ := hR
    have HM := Lib.hid hm; clear hm
    go_enter Tryd.func24, Tryd.ntmps24
    go_upto_region 1 with fail
    have hb0_0 : ∀ y : Since ((x.w.alloc (.cells #[.int .i64 num, .int .i64 den] 50)).alloc (.cells #[.slice none 0 0] 34)), y.w.cell? ⟨x.w.heap.size, 0, none⟩ = some (.int .i64 num) := fun y => Since.cell (by simp [go_sem]) (by first | (simp; done) | (simp; omega)) y
    have hb0_1 : ∀ y : Since ((x.w.alloc (.cells #[.int .i64 num, .int .i64 den] 50)).alloc (.cells #[.slice none 0 0] 34)), y.w.cell? ⟨x.w.heap.size, 1, none⟩ = some (.int .i64 den) := fun y => Since.cell (by simp [go_sem]) (by first | (simp; done) | (simp; omega)) y
    have hf0 : ∀ (y : Since ((x.w.alloc (.cells #[.int .i64 num, .int .i64 den] 50)).alloc (.cells #[.slice none 0 0] 34))) (o : Nat), y.w.frozen? ⟨x.w.heap.size, o, none⟩ = false := fun y o => Since.free (by simp [go_sem]) (by first | (simp; done) | (simp; omega)) y
    have hb1_0 : ∀ y : Since ((x.w.alloc (.cells #[.int .i64 num, .int .i64 den] 50)).alloc (.cells #[.slice none 0 0] 34)), y.w.cell? ⟨x.w.heap.size + 1, 0, none⟩ = some (.slice none 0 0) := fun y => Since.cell (by simp [go_sem]) (by first | (simp; done) | (simp; omega)) y
    have hf1 : ∀ (y : Since ((x.w.alloc (.cells #[.int .i64 num, .int .i64 den] 50)).alloc (.cells #[.slice none 0 0] 34))) (o : Nat), y.w.frozen? ⟨x.w.heap.size + 1, o, none⟩ = false := fun y o => Since.free (by simp [go_sem]) (by first | (simp; done) | (simp; omega)) y
    have hWup : ∃ z : Since w, ((x.w.alloc (.cells #[.int .i64 num, .int .i64 den] 50)).alloc (.cells #[.slice none 0 0] 34)) = z.w := Since.allocs x [.cells #[.int .i64 num, .int .i64 den] 50, .cells #[.slice none 0 0] 34]
    obtain ⟨y0, hy0⟩ := Since.refl ((x.w.alloc (.cells #[.int .i64 num, .int .i64 den] 50)).alloc (.cells #[.slice none 0 0] 34))
    have Hbx := Lib.hid (And.intro x.b.size (show x.w.heap.size + 2 = ((x.w.alloc (.cells #[.int .i64 num, .int .i64 den] 50)).alloc (.cells #[.slice none 0 0] 34)).heap.size from by simp))
    generalize hW : ((x.w.alloc (.cells #[.int .i64 num, .int .i64 den] 50)).alloc (.cells #[.slice none 0 0] 34)) = W at *
    clear hW
    generalize x.w.heap.size = bx at *
    have Hup := Lib.hid (Since.up hWup)
    rw [hy0]
    clear hy0
    clear hWup
    go_wp2_with fail
    refine (right_calls W _ num den).mono ?_
    rintro _ _ ⟨rfl, y, rfl⟩
    go_wp2_with fail
    have hown0 := own_new y.w W.heap.size y.b.size 3 [.int .i64 16777216] (by unfold maxLen; decide)
    obtain ⟨y1, hy1⟩ := y.alloc (.cells #[.int .i64 16777216] 3)
    simp only [List.length_cons, List.length_nil, Nat.zero_add] at hown0
    rw [hy1] at hown0
    rw [hy1]
    generalize y.w.heap.size = g at *
    clear hy1
    go_loopw [6, 22] (fun v i wr => ∃ k : Nat, k ≤ n ∧ i = .int .i64 k ∧ ∃ y : Since W, wr = y.w ∧ y.w.ownsRow W.heap.size 3 1 v (k + 1) ((mkL num den (k + 1)).map (.int .i64))) (fun _ i _ => n - (intOf i).toNat)
    case atStart => exact ⟨0, by omega, rfl, _, rfl, hown0⟩
    case round =>
      obtain ⟨k, hk, rfl, y, rfl, hown⟩ := hrel
      by_cases hlt : k < n
      · obtain ⟨a, cap, rfl, hcap, hrow, hbase⟩ := own_row hown
        have hown' := Lib.hid hown; clear hown
        obtain ⟨b, off, rfl, _, hc⟩ := hrow k (by omega)
        have hcell : y.w.cell? ⟨b, off + k, none⟩ = some (.int .i64 (mk num den k)) := by
          rw [hc]; show some ((List.map _ _).getD k undef) = _; rw [nmap_at (mkL_length _ _ _) (by omega), mkL_at (by omega)]
        have hmb := mk_bd HR.out k
        have hmm := mk_mul_bd HR.out k
        have hcq : ∀ q : Since y.w, q.w.cell? ⟨b, off + k, none⟩ = some (.int .i64 (mk num den k)) := fun q => Since.cell hcell (hrow.two k (by omega)).1 q
        have h00 : ∀ q : Since y.w, q.w.cell? ⟨bx, 0, none⟩ = some (.int .i64 num) := fun q => by obtain ⟨z, e⟩ := y.trans q; rw [e]; exact hb0_0 z
        have h01 : ∀ q : Since y.w, q.w.cell? ⟨bx, 1, none⟩ = some (.int .i64 den) := fun q => by obtain ⟨z, e⟩ := y.trans q; rw [e]; exact hb0_1 z
        have hdiv := Lib.hid (show (mk num den k * den + num - 1) / num = mk num den (k + 1) from rfl)
        clear hc hrow hcell
        go_upto_region 7 with fail
        refine wp_region_tail (fun w' => ∃ q : Since (y.w), w' = q.w) [0] [1, 2, 3, 4, 5, 6, 7, 8, 9, 10, 11, 12, 13, 14] 15 (by kernel_rfl) (by kernel_rfl) (fun _ _ _ _ _ h => h) (Since.drawn _) ?_
        simp only [List.cons_append, List.nil_append, picks_cons, picks_nil, List.getD_cons_zero, List.getD_cons_succ]
        repeat (go_big_quiet_step (fail))
        refine wpQuiet_nil ?_
        rintro _ ⟨q, rfl⟩
        simp only [List.drop_succ_cons, List.drop_zero]
        go_wp2_with (at_builtin; (refine wpList_append1 (w0 := W) ?hw rfl _ _ 22 rfl W.heap.size (Nat.le_refl _) ?hb 3 (.int .i64 0) 8 ints (.slice (some ⟨b, off, none⟩) (k + 1) cap) (k + 1) ((mkL num den (k + 1)).map (Value.int .i64)) rfl ?hown (.int .i64 (mk num den (k + 1))) rfl ⟨q.w.heap.size, 0, none⟩ 1 rfl ?hc ?h63 ?hbytes ?_; rotate_right 1; intro v2 q2 hown2 _))
        case hw => obtain ⟨z, e⟩ := y.trans q; rw [e]; exact z.alloc _
        case hb => have := y.b.size; have := q.b.size; simp; omega
        case hown => exact own_since (own_since hown'.out q.b) (below_new _ _)
        case hc => rw [hdiv.out]; simp [go_sem]
        case h63 => unfold maxLen; omega
        case hbytes => omega
        have hown3 := Lib.hid hown2; clear hown2
        go_roundw
        case rel => exact ⟨k + 1, by omega, by go_num, q2, rfl, by rw [mkL_succ]; simpa using hown3.out⟩
        case measure => simp [intOf]; omega
      · obtain rfl : k = n := by omega
        obtain ⟨a, cap, rfl, hcap, hrow, hbase⟩ := own_row hown
        have hz : ∃ z : Since w, y.w.setCell ⟨bx + 1, 0, none⟩ (.slice a (k + 1) cap) = z.w := by
          obtain ⟨z, e⟩ := Hup.out y; rw [e]; exact z.set _ (by have := Hbx.out; simp; omega) _
        have h10 := hb1_0 y
        have hf1' := hf1 y 0
        go_wp2_with fail
        rw [HM.out]
        have hres : (y.w.setCell ⟨bx + 1, 0, none⟩ (.slice a (k + 1) cap)).cell? ⟨bx + 1, 0, none⟩ = some (.slice a (k + 1) cap) := World.cell?_setCell_same _ _ _ h10
        refine bodyPost_ret (v := .tuple #[.agg #[.slice a (k + 1) cap], .int .i64 0]) (by simp [results, Tryd.results24, go_sem, hres]) rfl ?_
        refine ⟨.slice a (k + 1) cap, rfl, a, cap, by rw [mkL_length]; simp, by rw [mkL_length]; simpa using hcap, ?_⟩
        obtain ⟨z, e⟩ := hz
        refine ⟨z, e, ?_⟩
        rw [← e]
        have hr2 := hrow.set ⟨bx + 1, 0, none⟩ (.slice a (k + 1) cap) (fun b hb => by have := hbase b hb; have := Hbx.out; simp; omega)
        intro i hi
        rw [mkL_length] at hi
        have hi' : i < k + 1 := by simpa using hi
        obtain ⟨b, off, ha, hlt, hc⟩ := hr2 i hi'
        refine ⟨b, off, ha, hlt, ?_⟩
        rw [hc]
        show some ((List.map _ _).getD i undef) = some (Value.int .i64 (at0 _ i))
        rw [nmap_at (mkL_length _ _ _) hi']
        simp
  · have hm : Made w r num den = fun e w' => e = .returned (.tuple #[.agg #[.slice none 0 0], .int .i64 1]) ∧ ∃ y : Since w, w' = y.w := by funext e w'; unfold Made; rw [if_neg hok]
    have HM := Lib.hid hm; clear hm
    have hc : (r < 0) ∨ (0 ≤ r ∧ 32 < r) ∨ (0 ≤ r ∧ r ≤ 32 ∧ rightB num den = false) := by
      by_cases h0 : r < 0
      · exact .inl h0
      · by_cases h1 : 32 < r
        · exact .inr (.inl ⟨by omega, h1⟩)
        · exact .inr (.inr ⟨by omega, by omega, rightB_no fun h => hok ⟨by omega, by omega, h⟩⟩)
    clear hok
    go_enter Tryd.func24, Tryd.ntmps24
    go_upto_region 1 with fail
    have hb0_0 : ∀ y : Since ((x.w.alloc (.cells #[.int .i64 num, .int .i64 den] 50)).alloc (.cells #[.slice none 0 0] 34)), y.w.cell? ⟨x.w.heap.size, 0, none⟩ = some (.int .i64 num) := fun y => Since.cell (by simp [go_sem]) (by first | (simp; done) | (simp; omega)) y
    have hb0_1 : ∀ y : Since ((x.w.alloc (.cells #[.int .i64 num, .int .i64 den] 50)).alloc (.cells #[.slice none 0 0] 34)), y.w.cell? ⟨x.w.heap.size, 1, none⟩ = some (.int .i64 den) := fun y => Since.cell (by simp [go_sem]) (by first | (simp; done) | (simp; omega)) y
    have hf0 : ∀ (y : Since ((x.w.alloc (.cells #[.int .i64 num, .int .i64 den] 50)).alloc (.cells #[.slice none 0 0] 34))) (o : Nat), y.w.frozen? ⟨x.w.heap.size, o, none⟩ = false := fun y o => Since.free (by simp [go_sem]) (by first | (simp; done) | (simp; omega)) y
    have hb1_0 : ∀ y : Since ((x.w.alloc (.cells #[.int .i64 num, .int .i64 den] 50)).alloc (.cells #[.slice none 0 0] 34)), y.w.cell? ⟨x.w.heap.size + 1, 0, none⟩ = some (.slice none 0 0) := fun y => Since.cell (by simp [go_sem]) (by first | (simp; done) | (simp; omega)) y
    have hf1 : ∀ (y : Since ((x.w.alloc (.cells #[.int .i64 num, .int .i64 den] 50)).alloc (.cells #[.slice none 0 0] 34))) (o : Nat), y.w.frozen? ⟨x.w.heap.size + 1, o, none⟩ = false := fun y o => Since.free (by simp [go_sem]) (by first | (simp; done) | (simp; omega)) y
    have hWup : ∃ z : Since w, ((x.w.alloc (.cells #[.int .i64 num, .int .i64 den] 50)).alloc (.cells #[.slice none 0 0] 34)) = z.w := Since.allocs x [.cells #[.int .i64 num, .int .i64 den] 50, .cells #[.slice none 0 0] 34]
    obtain ⟨y0, hy0⟩ := Since.refl ((x.w.alloc (.cells #[.int .i64 num, .int .i64 den] 50)).alloc (.cells #[.slice none 0 0] 34))
    have Hbx := Lib.hid (And.intro x.b.size (show x.w.heap.size + 2 = ((x.w.alloc (.cells #[.int .i64 num, .int .i64 den] 50)).alloc (.cells #[.slice none 0 0] 34)).heap.size from by simp))
    generalize hW : ((x.w.alloc (.cells #[.int .i64 num, .int .i64 den] 50)).alloc (.cells #[.slice none 0 0] 34)) = W at *
    clear hW
    generalize x.w.heap.size = bx at *
    have Hup := Lib.hid (Since.up hWup)
    rw [hy0]
    clear hy0
    clear hWup
    have hset : ∀ y : Since W, ∃ z : Since w, y.w.setCell ⟨bx + 1, 0, none⟩ (.slice none 0 0) = z.w := fun y => by
      obtain ⟨z, e⟩ := Hup.out y; rw [e]; exact z.set _ (by have := Hbx.out; simp; omega) _
    have hres : ∀ y : Since W, (y.w.setCell ⟨bx + 1, 0, none⟩ (.slice none 0 0)).cell? ⟨bx + 1, 0, none⟩ = some (.slice none 0 0) := fun y => World.cell?_setCell_same _ _ _ (hb1_0 y)
    have Hset := Lib.hid hset; clear hset
    rcases hc with h | ⟨h, h'⟩ | ⟨h, h', hb⟩
    · go_wp2_with fail
      rw [HM.out]
      exact bodyPost_ret (v := .tuple #[.agg #[.slice none 0 0], .int .i64 1]) (by simp [results, Tryd.results24, go_sem, hres]) rfl ⟨rfl, Hset.out _⟩
    · go_wp2_with fail
      rw [HM.out]
      exact bodyPost_ret (v := .tuple #[.agg #[.slice none 0 0], .int .i64 1]) (by simp [results, Tryd.results24, go_sem, hres]) rfl ⟨rfl, Hset.out _⟩
    · go_wp2_with fail
      refine (right_calls W _ num den).mono ?_
      rintro _ _ ⟨rfl, y, rfl⟩
      go_wp2_with fail
      rw [HM.out]
      exact bodyPost_ret (v := .tuple #[.agg #[.slice none 0 0], .int .i64 1]) (by simp [results, Tryd.results24, go_sem, hres]) rfl ⟨rfl, Hset.out _⟩
end Go.Proofs.YtdkcclngionihaaDoor
/- Trips between zones: tables of a part of the rides, of the rides in another order, of a part of the window; sums of cells: plain mathematics of the laws. -/
namespace Go.Proofs.YtdkcclngionihaaDoor
open Go.RowKit

theorem nodup_lt_lenT : ∀ (n : Nat) (l : List Nat), l.Nodup → (∀ x ∈ l, x < n) → l.length ≤ n
  | 0, [], _, _ => Nat.le_refl _
  | 0, x :: l, _, h => by have := h x (by simp); omega
  | n + 1, l, hn, h => by
    by_cases hm : n ∈ l
    · have h1 := nodup_lt_lenT n (l.erase n) (hn.erase n) (fun x hx => by
        have := h x (List.mem_of_mem_erase hx)
        have hne : x ≠ n := by rintro rfl; exact hn.not_mem_erase hx
        omega)
      have := List.length_erase_of_mem hm
      omega
    · have h1 := nodup_lt_lenT n l hn (fun x hx => by
        have := h x hx
        have hne : x ≠ n := by rintro rfl; exact hm hx
        omega)
      omega
/-- sums -/
def tsumN (f : Nat → Int) : Nat → Int
  | 0 => 0
  | n + 1 => tsumN f n + f n
theorem tsumN_congr {f g : Nat → Int} : ∀ n, (∀ i, i < n → f i = g i) → tsumN f n = tsumN g n
  | 0, _ => rfl
  | n + 1, h => by simp only [tsumN]; rw [tsumN_congr n fun i hi => h i (by omega), h n (by omega)]
theorem tsumN_add (f g : Nat → Int) : ∀ n, tsumN (fun i => f i + g i) n = tsumN f n + tsumN g n
  | 0 => rfl
  | n + 1 => by simp only [tsumN]; rw [tsumN_add f g n]; omega
theorem tsumN_zero : ∀ n, tsumN (fun _ => 0) n = 0
  | 0 => rfl
  | n + 1 => by simp only [tsumN]; rw [tsumN_zero n]; rfl
theorem tsumN_one (c : Int) : ∀ n : Nat, tsumN (fun i => if c = (i : Int) then 1 else 0) n = if 0 ≤ c ∧ c < n then 1 else 0
  | 0 => by simp only [tsumN]; rw [if_neg (by omega)]
  | n + 1 => by
    simp only [tsumN]
    rw [tsumN_one c n]
    by_cases h1 : c = (n : Int)
    · rw [if_pos h1, if_neg (by omega), if_pos (by omega)]; rfl
    · rw [if_neg h1]
      by_cases h2 : 0 ≤ c ∧ c < n
      · rw [if_pos h2, if_pos (by omega)]; rfl
      · rw [if_neg h2, if_neg (by omega)]; rfl
theorem tsumN_nonneg {f : Nat → Int} (h : ∀ i, 0 ≤ f i) : ∀ n, 0 ≤ tsumN f n
  | 0 => Int.le_refl _
  | n + 1 => by have := tsumN_nonneg h n; have := h n; simp only [tsumN]; omega
theorem tsumN_mono {f : Nat → Int} (h : ∀ i, 0 ≤ f i) {m n : Nat} (hm : m ≤ n) : tsumN f m ≤ tsumN f n := by
  induction n with
  | zero =>
    obtain rfl : m = 0 := by omega
    exact Int.le_refl _
  | succ n ih =>
    by_cases hc : m ≤ n
    · have := ih hc; have := h n; simp only [tsumN]; omega
    · obtain rfl : m = n + 1 := by omega
      exact Int.le_refl _
/-- the error of rides -/
theorem ridesE_of {R : List Ride} (h1 : R.length ≤ 256) (h2 : (R.map fun r : Ride => r.id).Nodup) (h3 : ∀ r ∈ R, rideE r = 0) : ridesE R = 0 := by
  unfold ridesE
  have hf : firstErr R = 0 := by
    unfold firstErr
    rw [List.find?_eq_none.2 (fun r hr => by rw [h3 r hr]; simp)]
  rw [if_neg (by omega), if_neg (by rw [hf]; simp), dupB_false h2]; rfl
theorem ridesE_sub {R S : List Ride} (h : ridesE R = 0) (hs : S.Sublist R) : ridesE S = 0 := by
  obtain ⟨h1, h2, h3⟩ := ridesE_zero h
  exact ridesE_of (Nat.le_trans hs.length_le h1) (h2.sublist (hs.map _)) fun r hr => h3 r (hs.subset hr)
theorem eachE_of {R S : List Ride} {each : Int} (h : eachE R each = 0) (hs : ridesE R = 0 → ridesE S = 0) : eachE S each = 0 := by
  obtain ⟨h0, h1, h2⟩ := eachE_zero h
  unfold eachE
  rw [if_neg (by omega)]; exact hs h2
/-- when a table has no error -/
def tabOk0 (zs : List Int) (size : Int) (R : List Ride) (f t each : Int) : Prop :=
  (1 ≤ size ∧ size ≤ 8 ∧ 0 ≤ f ∧ f ≤ t ∧ t ≤ 4294944000) ∧ eachE R each = 0 ∧ ∀ r ∈ cntL R each f t, endE zs r = 0 ∧ bigR zs size r = false
theorem endsE_zero {zs : List Int} {L : List Ride} (h : endsE zs L = 0) : ∀ r ∈ L, endE zs r = 0 := by
  intro r hr
  unfold endsE at h
  cases hf : L.find? (fun r => endE zs r != 0) with
  | none =>
    rw [List.find?_eq_none] at hf
    simpa using hf r hr
  | some x =>
    rw [hf] at h
    have := List.find?_some hf
    simp at this
    exact (this h).elim
theorem tabE_zero (zs : List Int) (size : Int) (R : List Ride) (f t each : Int) : tabE zs size R f t each = 0 ↔ tabOk0 zs size R f t each := by
  unfold tabE tabOk0
  by_cases h1 : size < 1 ∨ 8 < size ∨ f < 0 ∨ t < f ∨ 4294944000 < t
  · rw [if_pos h1]
    constructor
    · intro h; cases h
    · rintro ⟨h, _⟩; omega
  rw [if_neg h1]
  by_cases h2 : eachE R each ≠ 0
  · rw [if_pos h2]
    exact ⟨fun h => (h2 h).elim, fun h => (h2 h.2.1).elim⟩
  rw [if_neg h2]
  have h2' : eachE R each = 0 := by simpa using h2
  by_cases h3 : endsE zs (cntL R each f t) ≠ 0
  · rw [if_pos h3]
    exact ⟨fun h => (h3 h).elim, fun h => (h3 (endsE_no fun r hr => (h.2.2 r hr).1)).elim⟩
  rw [if_neg h3]
  have h3' : endsE zs (cntL R each f t) = 0 := by simpa using h3
  by_cases h4 : (cntL R each f t).any (bigR zs size) = true
  · rw [if_pos h4]
    constructor
    · intro h; cases h
    · intro h
      obtain ⟨r, hr, hb⟩ := List.any_eq_true.1 h4
      rw [(h.2.2 r hr).2] at hb; cases hb
  · rw [if_neg h4]
    refine ⟨fun _ => ⟨by omega, h2', fun r hr => ⟨endsE_zero h3' r hr, ?_⟩⟩, fun _ => rfl⟩
    cases hb : bigR zs size r
    · rfl
    · exact (h4 (List.any_eq_true.2 ⟨r, hr, hb⟩)).elim
theorem tabV_ok {zs : List Int} {size : Int} {R : List Ride} {f t each : Int} (h : tabE zs size R f t each = 0) : tabV zs size R f t each = ⟨size, size, cells zs size (cntL R each f t)⟩ := if_pos h
theorem cells_len (zs : List Int) (size : Int) (L : List Ride) : (cells zs size L).length = (size * size).toNat := by simp [cells]
theorem cells_at {zs : List Int} {size : Int} {L : List Ride} {i : Nat} (h : i < (size * size).toNat) : at0 (cells zs size L) i = celN zs size L i := by
  simp [at0, cells, List.getD_eq_getElem?_getD, h]
/-- the sum of the cells -/
theorem celN_cons (zs : List Int) (size : Int) (r : Ride) (L : List Ride) (i : Nat) : celN zs size (r :: L) i = celN zs size L i + if (!bigR zs size r && decide (celR zs size r = (i : Int))) = true then 1 else 0 := by
  unfold celN
  rw [List.filter_cons]
  by_cases h : (!bigR zs size r && decide (celR zs size r = (i : Int))) = true
  · rw [if_pos h, if_pos h, List.length_cons]; push_cast; rfl
  · rw [if_neg h, if_neg h]; omega
theorem cel_in {zs : List Int} {size : Int} {r : Ride} (hs : 1 ≤ size ∧ size ≤ 8) (he : endE zs r = 0) (hb : bigR zs size r = false) : 0 ≤ celR zs size r ∧ celR zs size r < (size * size).toNat := by
  obtain ⟨_, _, ⟨a1, a2⟩, b1, b2⟩ := ends_zero he
  unfold bigR at hb
  rw [Bool.or_eq_false_iff, decide_eq_false_iff_not, decide_eq_false_iff_not] at hb
  have h := tab_idx a1 (by omega : fromZ zs r < size) b1 (by omega : toZ zs r < size) hs.2
  have hp : 0 ≤ size * size := Int.mul_nonneg (by omega) (by omega)
  unfold celR
  omega
theorem sum_cells {zs : List Int} {size : Int} (hs : 1 ≤ size ∧ size ≤ 8) : ∀ L : List Ride, (∀ r ∈ L, endE zs r = 0 ∧ bigR zs size r = false) → tsumN (celN zs size L) (size * size).toNat = L.length
  | [], _ => by
    have : celN zs size [] = fun _ => 0 := by funext i; rfl
    rw [this, tsumN_zero]; rfl
  | r :: L, h => by
    have ih := sum_cells hs L fun x hx => h x (List.mem_cons_of_mem _ hx)
    obtain ⟨he, hb⟩ := h r (by simp)
    have hf : celN zs size (r :: L) = fun i => celN zs size L i + if celR zs size r = (i : Int) then 1 else 0 := by
      funext i
      rw [celN_cons, hb]
      simp
    rw [hf, tsumN_add, ih, tsumN_one, if_pos (cel_in hs he hb), List.length_cons]; push_cast; rfl
theorem celN_part (zs : List Int) (size : Int) (q : Ride → Bool) (i : Nat) : ∀ L : List Ride, celN zs size L i = celN zs size (L.filter fun r => !q r) i + celN zs size (L.filter q) i
  | [] => rfl
  | r :: L => by
    have ih := celN_part zs size q i L
    rw [celN_cons, ih, List.filter_cons, List.filter_cons]
    cases hq : q r
    · simp only [Bool.not_false, if_true, Bool.false_eq_true, if_false]; rw [celN_cons]; omega
    · simp only [Bool.not_true, if_true, Bool.false_eq_true, if_false]; rw [celN_cons]; omega
/-- rides that are a part by rider and day -/
theorem ahd_part {R : List Ride} {q : Ride → Bool} (hq : ∀ r s, key r = key s → q r = q s) {x : Ride} (hx : q x = true) : ahd (R.filter q) x = ahd R x := by
  unfold ahd
  rw [List.filter_filter]
  congr 1
  refine List.filter_congr fun r _ => ?_
  cases hk : ofK (key x) r
  · simp
  · have : key r = key x := by
      unfold ofK at hk
      rw [Bool.and_eq_true, decide_eq_true_eq] at hk; exact hk.2
    rw [hq r x this, hx, Bool.and_true]
theorem eachL_part {R : List Ride} {q : Ride → Bool} (hq : ∀ r s, key r = key s → q r = q s) (each : Int) : eachL (R.filter q) each = (eachL R each).filter q := by
  unfold eachL
  rw [List.filter_filter, List.filter_filter]
  refine List.filter_congr fun r _ => ?_
  cases hr : q r
  · simp
  · unfold ctd
    rw [ahd_part hq hr]; simp
theorem cntL_part {R : List Ride} {q : Ride → Bool} (hq : ∀ r s, key r = key s → q r = q s) (each f t : Int) : cntL (R.filter q) each f t = (cntL R each f t).filter q := by
  unfold cntL
  rw [eachL_part hq, List.filter_filter, List.filter_filter]
  exact List.filter_congr fun r _ => Bool.and_comm _ _
theorem tabE_part {zs : List Int} {size : Int} {R : List Ride} {f t each : Int} {q : Ride → Bool} (hq : ∀ r s, key r = key s → q r = q s) (h : tabE zs size R f t each = 0) : tabE zs size (R.filter q) f t each = 0 := by
  rw [tabE_zero] at h ⊢
  obtain ⟨h1, h2, h3⟩ := h
  refine ⟨h1, eachE_of h2 fun h => ridesE_sub h List.filter_sublist, fun r hr => ?_⟩
  rw [cntL_part hq] at hr
  exact h3 r (List.mem_filter.1 hr).1
/-- at most so many of a rider and day -/
theorem filter_leT {α : Type} {p q : α → Bool} : ∀ L : List α, (∀ x, p x = true → q x = true) → (L.filter p).length ≤ (L.filter q).length
  | [], _ => Nat.le_refl _
  | x :: L, h => by
    have ih := filter_leT L h
    rw [List.filter_cons, List.filter_cons]
    cases hp : p x
    · cases hq : q x
      · simpa using ih
      · simp; omega
    · rw [h x hp]; simp; omega
theorem filter_ltT {α : Type} {p q : α → Bool} {r : α} (hp : p r = false) (hq : q r = true) (h : ∀ x, p x = true → q x = true) : ∀ L : List α, r ∈ L → (L.filter p).length < (L.filter q).length
  | [], hr => by cases hr
  | x :: L, hr => by
    rw [List.filter_cons, List.filter_cons]
    rcases List.mem_cons.1 hr with rfl | hr
    · rw [hp, hq]
      have := filter_leT L h
      simp; omega
    · have ih := filter_ltT hp hq h L hr
      cases hp' : p x
      · cases hq' : q x
        · simpa using ih
        · simp; omega
      · rw [h x hp']; simp; omega
theorem ahd_lt {R : List Ride} {r s : Ride} (hr : r ∈ R) (ho : r.op = false) (hk : key r = key s) (hb : bf r s = true) : ahd R r < ahd R s := by
  unfold ahd
  rw [hk]
  refine filter_ltT (r := r) ?_ ?_ ?_ R hr
  · rw [bf_irrefl]; simp
  · unfold ofK; rw [hb, ho, hk]; simp
  · intro x hx
    rw [Bool.and_eq_true] at hx ⊢
    exact ⟨hx.1, bf_trans hx.2 hb⟩
theorem each_bound {R : List Ride} {each : Int} (h : eachE R each = 0) (k : Int × Int) : (((eachL R each).filter fun r => decide (key r = k)).length : Int) ≤ each := by
  obtain ⟨e0, _, hr⟩ := eachE_zero h
  obtain ⟨_, hid, _⟩ := ridesE_zero hr
  have hm : ∀ r ∈ (eachL R each).filter (fun r => decide (key r = k)), r ∈ R ∧ r.op = false ∧ key r = k ∧ (ahd R r : Int) < each := by
    intro r hr
    obtain ⟨h1, h2⟩ := List.mem_filter.1 hr
    obtain ⟨h3, h4⟩ := List.mem_filter.1 h1
    unfold ctd at h4
    rw [Bool.and_eq_true, Bool.not_eq_true', decide_eq_true_eq] at h4
    exact ⟨h3, h4.1, of_decide_eq_true h2, h4.2⟩
  have hs : ((eachL R each).filter fun r => decide (key r = k)).Sublist R := List.filter_sublist.trans List.filter_sublist
  have hp : ((eachL R each).filter fun r => decide (key r = k)).Pairwise fun a b => a.id ≠ b.id := (List.pairwise_map.1 hid).sublist hs
  have hn : (((eachL R each).filter fun r => decide (key r = k)).map (ahd R)).Nodup := by
    refine List.pairwise_map.2 (hp.imp_of_mem fun {a b} ha hb hab => ?_)
    obtain ⟨a1, a2, a3, _⟩ := hm a ha
    obtain ⟨b1, b2, b3, _⟩ := hm b hb
    cases h1 : bf a b
    · cases h2 : bf b a
      · exact (hab (bf_total h1 h2)).elim
      · have := ahd_lt b1 b2 (b3.trans a3.symm) h2; omega
    · have := ahd_lt a1 a2 (a3.trans b3.symm) h1; omega
  have := nodup_lt_lenT each.toNat _ hn fun x hx => by
    obtain ⟨r, hr, rfl⟩ := List.mem_map.1 hx
    have := (hm r hr).2.2.2; omega
  rw [List.length_map] at this
  omega
theorem cnt_bound {R : List Ride} {each f t : Int} {q : Ride → Bool} {k : Int × Int} (h : eachE R each = 0) (hq : ∀ r, q r = true → key r = k) : (((cntL R each f t).filter q).length : Int) ≤ each := by
  have := each_bound h k
  have h2 : ((cntL R each f t).filter q).length ≤ ((eachL R each).filter fun r => decide (key r = k)).length := by
    unfold cntL
    rw [List.filter_filter]
    refine filter_leT _ fun x hx => ?_
    rw [Bool.and_eq_true] at hx
    exact decide_eq_true (hq x hx.1)
  omega
theorem apS_parts {a b : List Int} {c : Nat → Int} : ∀ n, (∀ i, i < n → at0 a i = at0 b i + c i ∧ 0 ≤ c i) → apS a b n = tsumN c n
  | 0, _ => rfl
  | n + 1, h => by
    have ih := apS_parts n fun i hi => h i (by omega)
    obtain ⟨h1, h2⟩ := h n (by omega)
    simp only [apS, tsumN]
    rw [ih, h1]
    omega
/-- a table is accepted -/
theorem cntL_len (R : List Ride) (each f t : Int) : (cntL R each f t).length ≤ R.length := by
  rw [cntL_eq]; exact List.length_filter_le _ _
theorem chk_table {zs : List Int} {size : Int} {R : List Ride} {f t each : Int} (h : tabE zs size R f t each = 0) : chkE (tabV zs size R f t each) = 0 := by
  rw [tabV_ok h]
  obtain ⟨h1, h2, _⟩ := (tabE_zero ..).1 h
  have hl := (ridesE_zero (eachE_zero h2).2.2).1
  have hp : 0 ≤ size * size := Int.mul_nonneg (by omega) (by omega)
  unfold chkE
  rw [if_neg (by show ¬ (size < 1 ∨ 8 < size ∨ size < 1 ∨ 8 < size); omega), if_neg (by show ¬ (((cells zs size (cntL R each f t)).length : Int) ≠ size * size); rw [cells_len]; omega), if_neg]
  show ¬ ((cells zs size (cntL R each f t)).any _ = true)
  rw [List.any_eq_true]
  rintro ⟨n, hn, hb⟩
  unfold cells at hn
  obtain ⟨i, _, rfl⟩ := List.mem_map.1 hn
  have := celN_range zs size (cntL R each f t) i
  have := cntL_len R each f t
  rw [Bool.or_eq_true, decide_eq_true_eq, decide_eq_true_eq] at hb
  omega
theorem apE_ok {a b : Tab} (h : apE a b = 0) : TabOk a ∧ TabOk b ∧ a.r = b.r ∧ a.c = b.c ∧ a.l.length = b.l.length := by
  unfold apE at h
  by_cases h1 : chkE a = 0
  case neg => rw [if_pos h1] at h; exact (h1 h).elim
  rw [if_neg (by simpa using h1)] at h
  by_cases h2 : chkE b = 0
  case neg => rw [if_pos h2] at h; exact (h2 h).elim
  rw [if_neg (by simpa using h2)] at h
  by_cases h3 : a.r ≠ b.r ∨ a.c ≠ b.c
  · rw [if_pos h3] at h; cases h
  have ha := tabOk_of h1
  have hb := tabOk_of h2
  have e1 : a.r = b.r := by omega
  have e2 : a.c = b.c := by omega
  refine ⟨ha, hb, e1, e2, ?_⟩
  have h5 := ha.n
  have h6 := hb.n
  rw [e1, e2] at h5
  omega
theorem apE_of {a b : Tab} (h1 : chkE a = 0) (h2 : chkE b = 0) (h3 : a.r = b.r) (h4 : a.c = b.c) : apE a b = 0 := by
  unfold apE
  rw [if_neg (by simpa using h1), if_neg (by simpa using h2), if_neg (by simp [h3, h4])]
end Go.Proofs.YtdkcclngionihaaDoor
/- Cases of tables. -/
namespace Go.Proofs.YtdkcclngionihaaDoor
open Go.RowKit

/-- what a table is made of, with the places of its lists in memory -/
structure Cas where
  az : Option Addr
  zs : List Int
  cz : Nat
  n : Int
  e : Int
  a : Option Addr
  R : List Ride
  c : Nat
  f : Int
  t : Int
/-- the ends of rides are numbers of 64 bits -/
abbrev EndsI (R : List Ride) : Prop := ∀ r ∈ R, r.fp ≤ 9223372036854775807 ∧ r.pl ≤ 9223372036854775807
structure Cas.At (w : World) (q : Cas) : Prop where
  z : IntRow w q.az q.zs
  r : RideRow w q.a q.R
  zl : q.zs.length ≤ 9223372036854775807
  rl : q.R.length ≤ 9223372036854775807
  i : EndsI q.R
theorem Cas.At.to {w W : World} {q : Cas} (h : q.At w) (hW : ∃ z : Since w, W = z.w) : q.At W := ⟨h.z.to hW, h.r.to hW, h.zl, h.rl, h.i⟩
end Go.Proofs.YtdkcclngionihaaDoor
/- Tables without a rider's day: plain mathematics. -/
namespace Go.Proofs.YtdkcclngionihaaDoor
open Go.RowKit

/-- of this rider and day -/
def ofD (rider dd : Int) (r : Ride) : Bool := decide (r.rd = rider ∧ r.s0 / 86400 = dd)
theorem ofD_key {rider dd : Int} (r s : Ride) (h : key r = key s) : ofD rider dd r = ofD rider dd s := by
  have h1 : r.rd = s.rd := congrArg Prod.fst h
  have h2 : r.s0 / 86400 = s.s0 / 86400 := congrArg Prod.snd h
  unfold ofD
  rw [h1, h2]
theorem tabV_l' {zs : List Int} {size : Int} {R : List Ride} {f t each : Int} (h : tabE zs size R f t each = 0) : (tabV zs size R f t each).l = cells zs size (cntL R each f t) := by rw [tabV_ok h]
theorem bound_facts {q : Cas} {rider dd : Int} (h : tabE q.zs q.n q.R q.f q.t q.e = 0) :
    tabE q.zs q.n (q.R.filter fun r => !ofD rider dd r) q.f q.t q.e = 0 ∧ tabE q.zs q.n (q.R.filter (ofD rider dd)) q.f q.t q.e = 0 ∧
    (tabV q.zs q.n (q.R.filter fun r => !ofD rider dd r) q.f q.t q.e).l.length = (tabV q.zs q.n q.R q.f q.t q.e).l.length ∧ (tabV q.zs q.n (q.R.filter (ofD rider dd)) q.f q.t q.e).l.length = (tabV q.zs q.n q.R q.f q.t q.e).l.length ∧ (tabV q.zs q.n q.R q.f q.t q.e).l.length ≤ 64 ∧
    (∀ j, j < (tabV q.zs q.n q.R q.f q.t q.e).l.length → at0 (tabV q.zs q.n q.R q.f q.t q.e).l j = at0 (tabV q.zs q.n (q.R.filter fun r => !ofD rider dd r) q.f q.t q.e).l j + at0 (tabV q.zs q.n (q.R.filter (ofD rider dd)) q.f q.t q.e).l j ∧ 0 ≤ at0 (tabV q.zs q.n (q.R.filter fun r => !ofD rider dd r) q.f q.t q.e).l j ∧ at0 (tabV q.zs q.n (q.R.filter fun r => !ofD rider dd r) q.f q.t q.e).l j ≤ 256 ∧ 0 ≤ at0 (tabV q.zs q.n (q.R.filter (ofD rider dd)) q.f q.t q.e).l j ∧ at0 (tabV q.zs q.n (q.R.filter (ofD rider dd)) q.f q.t q.e).l j ≤ 256) ∧
    apV (tabV q.zs q.n q.R q.f q.t q.e) (tabV q.zs q.n (q.R.filter fun r => !ofD rider dd r) q.f q.t q.e) = tsumN (at0 (tabV q.zs q.n (q.R.filter (ofD rider dd)) q.f q.t q.e).l) (tabV q.zs q.n q.R q.f q.t q.e).l.length ∧
    apE (tabV q.zs q.n q.R q.f q.t q.e) (tabV q.zs q.n (q.R.filter fun r => !ofD rider dd r) q.f q.t q.e) = 0 ∧
    ∀ j, j ≤ (tabV q.zs q.n q.R q.f q.t q.e).l.length → 0 ≤ tsumN (at0 (tabV q.zs q.n (q.R.filter (ofD rider dd)) q.f q.t q.e).l) j ∧ tsumN (at0 (tabV q.zs q.n (q.R.filter (ofD rider dd)) q.f q.t q.e).l) j ≤ q.e ∧ q.e ≤ 256 := by
  have hkn : ∀ r s, key r = key s → (!ofD rider dd r) = !ofD rider dd s := fun r s h => by rw [ofD_key r s h]
  have hu := tabE_part (q := fun r => !ofD rider dd r) hkn h
  have hv := tabE_part (q := ofD rider dd) ofD_key h
  obtain ⟨h1, h2, h3⟩ := (tabE_zero ..).1 h
  obtain ⟨e0, e1, hrz⟩ := eachE_zero h2
  have hR := (ridesE_zero hrz).1
  have h64 : (tabV q.zs q.n q.R q.f q.t q.e).l.length ≤ 64 := by
    rw [tabV_l' h, cells_len]
    have : q.n * q.n ≤ 8 * 8 := Int.mul_le_mul h1.2.1 h1.2.1 (by omega) (by decide)
    omega
  have hck := chk_table h
  have hcu := chk_table hu
  have hap : apE (tabV q.zs q.n q.R q.f q.t q.e) (tabV q.zs q.n (q.R.filter fun r => !ofD rider dd r) q.f q.t q.e) = 0 := apE_of hck hcu (by rw [tabV_ok h, tabV_ok hu]) (by rw [tabV_ok h, tabV_ok hu])
  have hlv : (tabV q.zs q.n (q.R.filter (ofD rider dd)) q.f q.t q.e).l.length = (tabV q.zs q.n q.R q.f q.t q.e).l.length := by rw [tabV_l' h, tabV_l' hv, cells_len, cells_len]
  have hlu : (tabV q.zs q.n (q.R.filter fun r => !ofD rider dd r) q.f q.t q.e).l.length = (tabV q.zs q.n q.R q.f q.t q.e).l.length := by rw [tabV_l' h, tabV_l' hu, cells_len, cells_len]
  have hj : ∀ j, j < (tabV q.zs q.n q.R q.f q.t q.e).l.length → at0 (tabV q.zs q.n q.R q.f q.t q.e).l j = at0 (tabV q.zs q.n (q.R.filter fun r => !ofD rider dd r) q.f q.t q.e).l j + at0 (tabV q.zs q.n (q.R.filter (ofD rider dd)) q.f q.t q.e).l j ∧ 0 ≤ at0 (tabV q.zs q.n (q.R.filter fun r => !ofD rider dd r) q.f q.t q.e).l j ∧ at0 (tabV q.zs q.n (q.R.filter fun r => !ofD rider dd r) q.f q.t q.e).l j ≤ 256 ∧ 0 ≤ at0 (tabV q.zs q.n (q.R.filter (ofD rider dd)) q.f q.t q.e).l j ∧ at0 (tabV q.zs q.n (q.R.filter (ofD rider dd)) q.f q.t q.e).l j ≤ 256 := by
    intro j hj
    rw [tabV_l' h, cells_len] at hj
    rw [tabV_l' h, tabV_l' hu, tabV_l' hv, cells_at hj, cells_at hj, cells_at hj]
    have a1 := celN_range q.zs q.n (cntL (q.R.filter fun r => !ofD rider dd r) q.e q.f q.t) j
    have a2 := celN_range q.zs q.n (cntL (q.R.filter (ofD rider dd)) q.e q.f q.t) j
    have b1 := Nat.le_trans (cntL_len (q.R.filter fun r => !ofD rider dd r) q.e q.f q.t) (List.length_filter_le _ _)
    have b2 := Nat.le_trans (cntL_len (q.R.filter (ofD rider dd)) q.e q.f q.t) (List.length_filter_le _ _)
    refine ⟨?_, a1.1, by omega, a2.1, by omega⟩
    rw [cntL_part hkn, cntL_part ofD_key]
    exact celN_part q.zs q.n (ofD rider dd) j _
  refine ⟨hu, hv, hlu, hlv, h64, hj, ?_, hap, fun j hj2 => ⟨?_, ?_, e1⟩⟩
  · unfold apV
    rw [if_pos hap]
    exact apS_parts _ fun i hi => ⟨(hj i hi).1, (hj i hi).2.2.2.1⟩
  · have hc : tsumN (at0 (tabV q.zs q.n (q.R.filter (ofD rider dd)) q.f q.t q.e).l) j = tsumN (celN q.zs q.n (cntL (q.R.filter (ofD rider dd)) q.e q.f q.t)) j := tsumN_congr j fun i hi => by rw [tabV_l' hv]; exact cells_at (by rw [tabV_l' h, cells_len] at hj2; omega)
    rw [hc]
    exact tsumN_nonneg (fun i => (celN_range ..).1) j
  · have hc : tsumN (at0 (tabV q.zs q.n (q.R.filter (ofD rider dd)) q.f q.t q.e).l) j = tsumN (celN q.zs q.n (cntL (q.R.filter (ofD rider dd)) q.e q.f q.t)) j := tsumN_congr j fun i hi => by rw [tabV_l' hv]; exact cells_at (by rw [tabV_l' h, cells_len] at hj2; omega)
    rw [hc]
    have hj3 : j ≤ (q.n * q.n).toNat := by rw [tabV_l' h, cells_len] at hj2; exact hj2
    have hm := tsumN_mono (f := celN q.zs q.n (cntL (q.R.filter (ofD rider dd)) q.e q.f q.t)) (fun i => (celN_range ..).1) hj3
    rw [sum_cells (zs := q.zs) ⟨h1.1, h1.2.1⟩ _ ((tabE_zero ..).1 hv).2.2, cntL_part ofD_key] at hm
    have hb := cnt_bound (f := q.f) (t := q.t) (q := ofD rider dd) (k := (rider, dd)) h2 (fun r hr => by
      have hr2 : r.rd = rider ∧ r.s0 / 86400 = dd := of_decide_eq_true hr
      exact Prod.ext hr2.1 hr2.2)
    rw [cntL_part ofD_key]
    omega
end Go.Proofs.YtdkcclngionihaaDoor
/- Why noise made by a ratio hides small differences: plain mathematics. -/
namespace Go.Proofs.YtdkcclngionihaaDoor

theorem mk_next {num den : Int} (hr : Right num den) (i : Nat) : den * mk num den i ≤ num * mk num den (i + 1) ∧ mk num den (i + 1) ≤ mk num den i := by
  have h1 := mk_bd hr i
  have h2 := mk_step hr h1.1
  unfold Right at hr
  refine ⟨?_, h2.2⟩
  show den * mk num den i ≤ num * ((mk num den i * den + num - 1) / num)
  have h3 := Int.mul_ediv_add_emod (mk num den i * den + num - 1) num
  have h4 := Int.emod_lt_of_pos (mk num den i * den + num - 1) (show 0 < num by omega)
  rw [Int.mul_comm den]
  omega
theorem mk_down {num den : Int} (hr : Right num den) (i : Nat) : ∀ d : Nat, mk num den (i + d) ≤ mk num den i ∧ den ^ d * mk num den i ≤ num ^ d * mk num den (i + d)
  | 0 => by simp
  | d + 1 => by
    obtain ⟨h1, h2⟩ := mk_down hr i d
    obtain ⟨h3, h4⟩ := mk_next hr (i + d)
    have hr' := hr
    unfold Right at hr'
    refine ⟨Int.le_trans h4 h1, ?_⟩
    rw [Int.pow_succ, Int.pow_succ]
    have p1 : (0 : Int) ≤ num ^ d := Int.pow_nonneg (by omega)
    have a1 : den ^ d * den * mk num den i = den * (den ^ d * mk num den i) := by rw [Int.mul_comm (den ^ d) den, Int.mul_assoc]
    have a2 : den * (den ^ d * mk num den i) ≤ den * (num ^ d * mk num den (i + d)) := Int.mul_le_mul_of_nonneg_left h2 (by omega)
    have a3 : den * (num ^ d * mk num den (i + d)) = num ^ d * (den * mk num den (i + d)) := by rw [← Int.mul_assoc, Int.mul_comm den, Int.mul_assoc]
    have a4 : num ^ d * (den * mk num den (i + d)) ≤ num ^ d * (num * mk num den (i + d + 1)) := Int.mul_le_mul_of_nonneg_left h3 p1
    have a5 : num ^ d * (num * mk num den (i + d + 1)) = num ^ d * num * mk num den (i + (d + 1)) := by rw [Int.mul_assoc]; rfl
    omega
theorem pow_mono {a b : Int} (h1 : 1 ≤ a) (h2 : a ≤ b) : ∀ k : Nat, 1 ≤ a ^ k ∧ a ^ k ≤ b ^ k
  | 0 => by simp
  | k + 1 => by
    obtain ⟨h3, h4⟩ := pow_mono h1 h2 k
    rw [Int.pow_succ, Int.pow_succ]
    exact ⟨Int.le_trans (by decide : (1 : Int) ≤ 1 * 1) (Int.mul_le_mul h3 h1 (by decide) (by omega)), Int.mul_le_mul h4 h2 (by omega) (by omega)⟩
theorem mk_ratio {num den : Int} (hr : Right num den) (i j k : Nat) (h1 : j ≤ i + k) : den ^ k * mk num den i ≤ num ^ k * mk num den j := by
  have hr' := hr
  unfold Right at hr'
  have b1 := mk_bd hr i
  have b2 := mk_bd hr j
  have m1 := pow_mono hr'.1 hr'.2.1 k
  by_cases h : j ≤ i
  · obtain ⟨d, rfl⟩ : ∃ d, i = j + d := ⟨i - j, by omega⟩
    have := (mk_down hr j d).1
    exact Int.mul_le_mul m1.2 this (by omega) (by omega)
  · obtain ⟨d, rfl⟩ : ∃ d, j = i + d := ⟨j - i, by omega⟩
    obtain ⟨e, rfl⟩ : ∃ e, k = d + e := ⟨k - d, by omega⟩
    have h2 := (mk_down hr i d).2
    have m2 := pow_mono hr'.1 hr'.2.1 e
    rw [Int.pow_add, Int.pow_add]
    have a1 : den ^ d * den ^ e * mk num den i = den ^ e * (den ^ d * mk num den i) := by rw [Int.mul_comm (den ^ d), Int.mul_assoc]
    have a2 : num ^ d * num ^ e * mk num den (i + d) = num ^ e * (num ^ d * mk num den (i + d)) := by rw [Int.mul_comm (num ^ d), Int.mul_assoc]
    rw [a1, a2]
    have p1 : (0 : Int) ≤ den ^ d * mk num den i := Int.mul_nonneg (Int.pow_nonneg (by omega)) (by omega)
    exact Int.mul_le_mul m2.2 h2 p1 (by omega)
theorem wt_mk {num den : Int} {n : Nat} {v : Int} (h : 0 < wt (mkL num den n) v) : v.natAbs < n ∧ wt (mkL num den n) v = mk num den v.natAbs := by
  unfold wt at h ⊢
  rw [mkL_length] at h ⊢
  by_cases hv : v.natAbs < n
  · rw [if_pos hv, mkL_at hv]; exact ⟨hv, rfl⟩
  · rw [if_neg hv] at h; cases h
/-- two cells that are near are alike -/
theorem okC_mk {num den : Int} (hr : Right num den) {n : Nat} {p a b : Int} (h3 : (a - b).natAbs ≤ 3) (h1 : 0 < wt (mkL num den n) (p - a)) (h2 : 0 < wt (mkL num den n) (p - b)) : okC num den a b (wt (mkL num den n) (p - a)) (wt (mkL num den n) (p - b)) = true := by
  obtain ⟨i1, e1⟩ := wt_mk h1
  obtain ⟨i2, e2⟩ := wt_mk h2
  unfold okC
  rw [e1, e2, decide_eq_true h3, decide_eq_true (mk_ratio hr _ _ _ (by omega)), decide_eq_true (mk_ratio hr _ _ _ (by omega))]
  rfl
end Go.Proofs.YtdkcclngionihaaDoor
/- The frame of the laws of releases: opening questions, noise that is asked for. -/
namespace Go.Proofs.YtdkcclngionihaaDoor
open Go.ChangeShapes Go.WideShapes Go.ChangeAt Go.RowKit

theorem cRides : Tryd.prog.cellsOf 23 = 1 := by kernel_rfl
theorem cAsk : Tryd.prog.cellsOf 27 = 6 := by kernel_rfl
theorem cNoisy : Tryd.prog.cellsOf 60 = 6 := by kernel_rfl
noncomputable def askF : Array Field := Tryd.prog.fieldsOf 27
theorem uAsk : Tryd.prog.underlying 27 = some (.struct askF) := by kernel_rfl
theorem askL : (askF.toList.map fun f => (f.offset, f.type)) = [(0, 22), (1, 3), (2, 23), (3, 25), (5, 3)] := by kernel_rfl
noncomputable def noisyF : Array Field := Tryd.prog.fieldsOf 60
theorem uNoisy : Tryd.prog.underlying 60 = some (.struct noisyF) := by kernel_rfl
theorem noisyL : (noisyF.toList.map fun f => (f.offset, f.type)) = [(0, 3), (1, 50), (3, 31)] := by kernel_rfl
section
variable {H : Type} {enc : TypeId × Value → H} {w : World} {base fuel : Nat} {spare : Nat → Bool} {held : Bool} {cs : List Value} {y : DataW H × List MemPlace}
set_option maxRecDepth 20000 in
theorem ask1 (h : DataW.trod enc Tryd.prog w base spare held fuel 27 cs = some y) : ∃ q : Cas, cs = [.slice q.az q.zs.length q.cz, .int .i64 q.n, .slice q.a q.R.length q.c, .int .i64 q.f, .int .i64 q.t, .int .i64 q.e] ∧ q.At w ∧ ∀ r ∈ q.R, -9223372036854775808 ≤ r.s0 ∧ r.s0 ≤ 9223372036854775807 := by
  obtain ⟨hl, hf⟩ := trod_fields uAsk askL h
  rw [cAsk] at hl
  match cs, hl with
  | [c0, c1, c2, c3, c4, c5], _ =>
    obtain ⟨_, _, h0⟩ := hf 0 _ rfl
    obtain ⟨_, _, h1⟩ := hf 1 _ rfl
    obtain ⟨_, _, h2⟩ := hf 2 _ rfl
    obtain ⟨_, _, h3⟩ := hf 3 _ rfl
    obtain ⟨_, _, h4⟩ := hf 4 _ rfl
    simp only [cInt, cInts, cRides, cWin] at h0 h1 h2 h3 h4
    obtain ⟨az, zs, cz, rfl, k1, k2, k3, k4⟩ := open_row Tryd.underlying22 Tryd.underlying3 cInt h0
    obtain ⟨n, rfl, i1⟩ := int1 h1
    obtain ⟨a, R, c, hs, m1, m2, m3, m4, m5⟩ := open_sliceG (encA := Ride.cs) (Q := RideIn w) Tryd.underlying23 cRide (by decide) Ride.len (fun _ _ _ h => ride1 h) h2
    subst hs
    obtain ⟨f, t, rfl, rfl, i3, i4⟩ := win1 h3
    obtain ⟨e, rfl, i2⟩ := int1 h4
    exact ⟨⟨az, zs, cz, n, e, a, R, c, f, t⟩, rfl, ⟨k3, ⟨m4, fun x hx => (m5 x hx).1⟩, Nat.le_trans k1 k2, Nat.le_trans m1 m2, fun r hr => by
      obtain ⟨_, ⟨_, _, _, _, _, _, _, i7, _, i9, _⟩, _⟩ := m5 r hr
      exact ⟨i7.2, i9.2⟩⟩, fun r hr => by
      obtain ⟨_, ⟨_, _, i5, _⟩, _⟩ := m5 r hr
      exact i5⟩
set_option maxRecDepth 20000 in
theorem noisy1 (h : DataW.trod enc Tryd.prog w base spare held fuel 60 cs = some y) : ∃ (rad num den : Int) (T : Tab) (a : Option Addr) (c : Nat), cs = [.int .i64 rad, .int .i64 num, .int .i64 den, .int .i64 T.r, .int .i64 T.c, .slice a T.l.length c] ∧ IntRow w a T.l ∧ T.l.length ≤ 9223372036854775807 := by
  obtain ⟨hl, hf⟩ := trod_fields uNoisy noisyL h
  rw [cNoisy] at hl
  match cs, hl with
  | [d0, d1, d2, d3, d4, d5], _ =>
    obtain ⟨_, _, h0⟩ := hf 0 _ rfl
    obtain ⟨_, _, h1⟩ := hf 1 _ rfl
    obtain ⟨_, _, h2⟩ := hf 2 _ rfl
    simp only [cInt, cRatio, cTable] at h0 h1 h2
    obtain ⟨rad, rfl, _⟩ := int1 h0
    obtain ⟨num, den, e1⟩ := ratio1 h1
    obtain ⟨T, a, c, e2, k1, k2, _⟩ := table1 h2
    obtain ⟨rfl, rfl⟩ : d1 = .int .i64 num ∧ d2 = .int .i64 den := by simpa using e1
    obtain ⟨rfl, rfl, rfl⟩ : d3 = .int .i64 T.r ∧ d4 = .int .i64 T.c ∧ d5 = .slice a T.l.length c := by simpa using e2
    exact ⟨rad, num, den, T, a, c, rfl, k1, k2⟩
end
section
variable {H : Type} {enc : TypeId × Value → H} {w : World} {b0 : Nat} {r : Reach} {held : Bool} {v : Value} {d : DataW H} {p : List MemPlace}
set_option maxRecDepth 20000 in
theorem open_ask (hv : Value.okWide Tryd.prog w r b0 27 v) (h : DataW.Trod enc Tryd.prog w 0 (fun _ => true) held 27 v d p) :
    ∃ q : Cas, v = .agg #[.slice q.az q.zs.length q.cz, .int .i64 q.n, .slice q.a q.R.length q.c, .int .i64 q.f, .int .i64 q.t, .int .i64 q.e] ∧ q.At w ∧ ∀ r ∈ q.R, -9223372036854775808 ≤ r.s0 ∧ r.s0 ≤ 9223372036854775807 := by
  obtain ⟨cs, rfl, hsz⟩ := okWide_struct uAsk hv
  obtain ⟨l⟩ := cs
  obtain ⟨fuel, hf⟩ := h
  obtain ⟨q, hq, hi⟩ := ask1 (show DataW.trod enc Tryd.prog w 0 (fun _ => true) held fuel 27 l = some (d, p) from hf)
  subst hq
  exact ⟨q, rfl, hi⟩
set_option maxRecDepth 20000 in
theorem open_noisy (hv : Value.okWide Tryd.prog w r b0 60 v) (h : DataW.Trod enc Tryd.prog w 0 (fun _ => true) held 60 v d p) :
    ∃ (rad num den : Int) (T : Tab) (a : Option Addr) (c : Nat), v = .agg #[.int .i64 rad, .int .i64 num, .int .i64 den, .int .i64 T.r, .int .i64 T.c, .slice a T.l.length c] ∧ IntRow w a T.l ∧ T.l.length ≤ 9223372036854775807 := by
  obtain ⟨cs, rfl, hsz⟩ := okWide_struct uNoisy hv
  obtain ⟨l⟩ := cs
  obtain ⟨fuel, hf⟩ := h
  obtain ⟨rad, num, den, T, a, c, hq, hi⟩ := noisy1 (show DataW.trod enc Tryd.prog w 0 (fun _ => true) held fuel 60 l = some (d, p) from hf)
  subst hq
  exact ⟨rad, num, den, T, a, c, rfl, hi⟩
end
end Go.Proofs.YtdkcclngionihaaDoor
/- The laws of releases: few questions, rides without those of a rider on a day. -/
namespace Go.Proofs.YtdkcclngionihaaDoor
open Go.RowKit

theorem flat2_calls (w : World) (x : Since w) (r c : Int) (a : Option Addr) (n cap : Nat) : Calls Tryd.prog 15 #[.agg #[.int .i64 r, .int .i64 c, .slice a n cap]] x.w fun o w' => o = .returned (.bool (decide ((n : Int) ≤ 100))) ∧ ∃ y : Since w, w' = y.w := by
  go_enter Tryd.func15, Tryd.ntmps15
  go_wp2_with fail
  go_ret
  exact ⟨rfl, x.alloc _⟩
def fewR (r : Ride) : Bool := decide (r.legs.length ≤ 10) && decide (r.pauses.length ≤ 10)
def fewQ (q : Cas) : Bool := decide (q.R.length ≤ 30 ∧ q.zs.length ≤ 100 ∧ q.n ≤ 4) && q.R.all fewR
theorem allR_no {l : List Ride} {k : Nat} {e : Ride} (he : l[k]? = some e) (h : fewR e = false) : l.all fewR = false := by
  rw [List.all_eq_false]
  exact ⟨e, List.mem_of_getElem? he, by rw [h]; simp⟩
theorem allR_yes {l : List Ride} (h : ∀ j, j < l.length → ∀ e, l[j]? = some e → fewR e = true) : l.all fewR = true := by
  rw [List.all_eq_true]
  intro e he
  obtain ⟨j, hj⟩ := List.mem_iff_getElem?.1 he
  exact h j (List.getElem?_eq_some_iff.1 hj).1 e hj
set_option maxRecDepth 100000 in
set_option maxHeartbeats 4000000 in
theorem few56_calls (w : World) (x : Since w) (q : Cas) (h : q.At w) :
    Calls Tryd.prog 10 #[.agg #[.slice q.az q.zs.length q.cz, .int .i64 q.n, .slice q.a q.R.length q.c, .int .i64 q.f, .int .i64 q.t, .int .i64 q.e]] x.w fun o w' => o = .returned (.bool (fewQ q)) ∧ ∃ y : Since w, w' = y.w := by
  have HR := Lib.hid h.r
  have hrl := h.rl
  have hzl := h.zl
  have HF := Lib.hid (show fewQ q = (decide (q.R.length ≤ 30 ∧ q.zs.length ≤ 100 ∧ q.n ≤ 4) && q.R.all fewR) from rfl)
  obtain ⟨az, zs, cz, n, e, a, R, c, f, t⟩ := q
  dsimp only at hrl hzl HR HF ⊢
  generalize fewQ ⟨az, zs, cz, n, e, a, R, c, f, t⟩ = FQ at *
  clear h
  go_enter Tryd.func10, Tryd.ntmps10
  go_upto_region 1 with fail
  have hb0_0 : ∀ y : Since (x.w.alloc (.cells #[.slice az zs.length cz, .int .i64 n, .slice a R.length c, .int .i64 f, .int .i64 t, .int .i64 e] 27)), y.w.cell? ⟨x.w.heap.size, 0, none⟩ = some (.slice az zs.length cz) := fun y => Since.cell (by simp [go_sem]) (by first | (simp; done) | (simp; omega)) y
  have hb0_1 : ∀ y : Since (x.w.alloc (.cells #[.slice az zs.length cz, .int .i64 n, .slice a R.length c, .int .i64 f, .int .i64 t, .int .i64 e] 27)), y.w.cell? ⟨x.w.heap.size, 1, none⟩ = some (.int .i64 n) := fun y => Since.cell (by simp [go_sem]) (by first | (simp; done) | (simp; omega)) y
  have hb0_2 : ∀ y : Since (x.w.alloc (.cells #[.slice az zs.length cz, .int .i64 n, .slice a R.length c, .int .i64 f, .int .i64 t, .int .i64 e] 27)), y.w.cell? ⟨x.w.heap.size, 2, none⟩ = some (.slice a R.length c) := fun y => Since.cell (by simp [go_sem]) (by first | (simp; done) | (simp; omega)) y
  have hb0_3 : ∀ y : Since (x.w.alloc (.cells #[.slice az zs.length cz, .int .i64 n, .slice a R.length c, .int .i64 f, .int .i64 t, .int .i64 e] 27)), y.w.cell? ⟨x.w.heap.size, 3, none⟩ = some (.int .i64 f) := fun y => Since.cell (by simp [go_sem]) (by first | (simp; done) | (simp; omega)) y
  have hb0_4 : ∀ y : Since (x.w.alloc (.cells #[.slice az zs.length cz, .int .i64 n, .slice a R.length c, .int .i64 f, .int .i64 t, .int .i64 e] 27)), y.w.cell? ⟨x.w.heap.size, 4, none⟩ = some (.int .i64 t) := fun y => Since.cell (by simp [go_sem]) (by first | (simp; done) | (simp; omega)) y
  have hb0_5 : ∀ y : Since (x.w.alloc (.cells #[.slice az zs.length cz, .int .i64 n, .slice a R.length c, .int .i64 f, .int .i64 t, .int .i64 e] 27)), y.w.cell? ⟨x.w.heap.size, 5, none⟩ = some (.int .i64 e) := fun y => Since.cell (by simp [go_sem]) (by first | (simp; done) | (simp; omega)) y
  have hf0 : ∀ (y : Since (x.w.alloc (.cells #[.slice az zs.length cz, .int .i64 n, .slice a R.length c, .int .i64 f, .int .i64 t, .int .i64 e] 27))) (o : Nat), y.w.frozen? ⟨x.w.heap.size, o, none⟩ = false := fun y o => Since.free (by simp [go_sem]) (by first | (simp; done) | (simp; omega)) y
  have hWup : ∃ z : Since w, (x.w.alloc (.cells #[.slice az zs.length cz, .int .i64 n, .slice a R.length c, .int .i64 f, .int .i64 t, .int .i64 e] 27)) = z.w := x.alloc _
  obtain ⟨y0, hy0⟩ := Since.refl (x.w.alloc (.cells #[.slice az zs.length cz, .int .i64 n, .slice a R.length c, .int .i64 f, .int .i64 t, .int .i64 e] 27))
  have Hbx := Lib.hid (And.intro x.b.size (show x.w.heap.size + 1 = (x.w.alloc (.cells #[.slice az zs.length cz, .int .i64 n, .slice a R.length c, .int .i64 f, .int .i64 t, .int .i64 e] 27)).heap.size from by simp))
  generalize hW : (x.w.alloc (.cells #[.slice az zs.length cz, .int .i64 n, .slice a R.length c, .int .i64 f, .int .i64 t, .int .i64 e] 27)) = W at *
  clear hW
  generalize x.w.heap.size = bx at *
  have Hup := Lib.hid (Since.up hWup)
  rw [hy0]
  clear hy0
  replace HR := Lib.hid (HR.out.to hWup)
  clear hWup hf0
  by_cases hok : R.length ≤ 30 ∧ zs.length ≤ 100 ∧ n ≤ 4
  · have HF2 := Lib.hid (show FQ = R.all fewR by rw [HF.out, decide_eq_true hok, Bool.true_and])
    obtain ⟨g1, g2, g3⟩ := hok
    clear HF
    go_upto_region 4 with fail
    go_loopw [3] (fun i wr => ∃ (k : Nat) (y : Since W), k ≤ R.length ∧ i = .int .i64 k ∧ wr = y.w ∧ ∀ j, j < k → ∀ e : Ride, R[j]? = some e → fewR e = true) (fun i _ => R.length - (intOf i).toNat)
    case atStart => exact ⟨0, y0, by omega, rfl, rfl, fun j hj => by omega⟩
    case round =>
      obtain ⟨k, y, hk, rfl, rfl, hok⟩ := hrel
      have Hok := Lib.hid hok; clear hok
      by_cases hlt : k < R.length
      · obtain ⟨e2, he⟩ : ∃ e, R[k]? = some e := ⟨_, List.getElem?_eq_getElem hlt⟩
        obtain ⟨b1, off1, rfl, h1'⟩ := Els.ride HR.out.c he
        have hlm := (HR.out.r e2 (List.mem_of_getElem? he)).lm
        have hpm := (HR.out.r e2 (List.mem_of_getElem? he)).pm
        have pa7 := h1'.c7
        have pa8 := h1'.c8
        have hk0 : (0 : Int) ≤ (k : Int) := by omega
        have hkl : (k : Int) < (R.length : Int) := by omega
        have He := Lib.hid he
        clear h1' he
        rcases (by omega : 10 < e2.legs.length ∨ (e2.legs.length ≤ 10 ∧ 10 < e2.pauses.length) ∨ (e2.legs.length ≤ 10 ∧ e2.pauses.length ≤ 10)) with h1 | ⟨h1, h2⟩ | ⟨h1, h2⟩
        case inr.inr =>
          have Hv := Lib.hid (fun j (hj : j < k + 1) (e3 : Ride) (h3 : R[j]? = some e3) => show fewR e3 = true from by
            by_cases e4 : j = k
            · subst e4
              rw [He.out] at h3
              cases h3
              unfold fewR; simp [h1, h2]
            · exact Hok.out j (by omega) e3 h3)
          go_wp2_with fail
          go_roundw
          case rel => exact ⟨k + 1, y, by omega, by go_num, rfl, Hv.out⟩
          case measure => simp [intOf] <;> omega
        all_goals
          have Hr := Lib.hid (show FQ = false by rw [HF2.out]; exact allR_no He.out (by unfold fewR; first | (rw [decide_eq_false (show ¬ e2.legs.length ≤ 10 by omega)]; rfl) | (rw [decide_eq_false (show ¬ e2.pauses.length ≤ 10 by omega), Bool.and_false])))
          go_wp2_with fail
          go_ret
          exact ⟨ret_bool Hr.out.symm, Hup.out y⟩
      · obtain rfl : k = R.length := by omega
        have Hr := Lib.hid (show FQ = true by rw [HF2.out]; exact allR_yes Hok.out)
        go_wp2_with fail
        go_ret
        exact ⟨ret_bool Hr.out.symm, Hup.out y⟩
  · have Hr := Lib.hid (show FQ = false by rw [HF.out, decide_eq_false hok]; rfl)
    have hx : 30 < R.length ∨ (R.length ≤ 30 ∧ 100 < zs.length) ∨ (R.length ≤ 30 ∧ zs.length ≤ 100 ∧ 4 < n) := by omega
    clear hok HF
    rcases hx with h1 | ⟨h1, h2⟩ | ⟨h1, h2, h3⟩
    all_goals
      go_wp2_with fail
      go_ret
      exact ⟨ret_bool Hr.out.symm, Hup.out y0⟩
/-- not of this rider on this day, as the law's helper reckons -/
def keepR (rider day : Int) (r : Ride) : Bool := (r.rd != rider) || (Int.tdiv r.s0 86400 != day)
theorem keepR_ofD {rider day : Int} {r : Ride} (h : 0 ≤ r.s0) : keepR rider day r = !ofD rider day r := by
  unfold keepR ofD
  rw [Int.tdiv_eq_ediv_of_nonneg h]
  by_cases h1 : r.rd = rider
  · by_cases h2 : r.s0 / 86400 = day
    · rw [decide_eq_true ⟨h1, h2⟩, h1, h2]; simp
    · rw [decide_eq_false fun h => h2 h.2]; simp [h2]
  · rw [decide_eq_false fun h => h1 h.1]; simp [h1]
theorem keep_all {rider day : Int} {R : List Ride} (h : ∀ r ∈ R, 0 ≤ r.s0) : R.filter (keepR rider day) = R.filter fun r => !ofD rider day r :=
  List.filter_congr fun r hr => keepR_ofD (h r hr)
set_option maxRecDepth 100000 in
set_option maxHeartbeats 4000000 in
theorem without_calls (w : World) (x : Since w) (a : Option Addr) (R : List Ride) (c : Nat) (rider day : Int) (h : RideRow w a R) (hl : R.length ≤ 30) (hI : ∀ r ∈ R, -9223372036854775808 ≤ r.s0 ∧ r.s0 ≤ 9223372036854775807) :
    Calls Tryd.prog 23 #[.slice a R.length c, .int .i64 rider, .int .i64 day] x.w fun o w' => ∃ (a' : Option Addr) (c' : Nat) (y : Since w), o = .returned (.slice a' (R.filter (keepR rider day)).length c') ∧ w' = y.w ∧ RideRow y.w a' (R.filter (keepR rider day)) := by
  have HR := Lib.hid h
  have HI := Lib.hid hI
  clear h hI
  go_enter Tryd.func23, Tryd.ntmps23
  go_upto_region 3 with fail
  go_loopw [7, 8] (fun v si wr => ∃ (k m : Nat) (y : Since w), k ≤ R.length ∧ si = .int .i64 (k : Int) ∧ wr = y.w ∧ y.w.ownsRow w.heap.size 73 13 v m (flat Ride.cs ((R.take k).filter (keepR rider day))) ∧ m ≤ k) (fun _ si _ => R.length - (intOf si).toNat)
  case atStart => exact ⟨0, 0, x, by omega, rfl, rfl, ⟨rfl, .inl ⟨rfl, rfl⟩⟩, Nat.le_refl _⟩
  case round =>
    obtain ⟨k, m, y, hk, rfl, rfl, hown, hmk⟩ := hrel
    have Hown := Lib.hid hown
    clear hown
    by_cases hlt : k < R.length
    · obtain ⟨e, he⟩ : ∃ e, R[k]? = some e := ⟨_, List.getElem?_eq_getElem hlt⟩
      obtain ⟨b1, off1, rfl, h1'⟩ := Els.ride HR.out.c he
      have hk0 : (0 : Int) ≤ (k : Int) := by omega
      have hkl : (k : Int) < (R.length : Int) := by omega
      obtain ⟨s0, s1⟩ := HI.out e (List.mem_of_getElem? he)
      have htk : R.take (k + 1) = R.take k ++ [e] := by rw [List.take_add_one, he]; rfl
      have Hno := Lib.hid (fun (hp : keepR rider day e = false) => show y.w.ownsRow w.heap.size 73 13 u7 m (flat Ride.cs ((R.take (k + 1)).filter (keepR rider day))) from by
        rw [htk, List.filter_append, List.filter_cons, hp]; simp; exact Hown.out)
      have Hye := Lib.hid (fun (hp : keepR rider day e = true) => show flat Ride.cs ((R.take (k + 1)).filter (keepR rider day)) = flat Ride.cs ((R.take k).filter (keepR rider day)) ++ e.cs from by
        rw [htk, List.filter_append, List.filter_cons, hp]; simp only [List.filter_nil, if_true]; rw [flat_append, flat_one])
      have HK := Lib.hid (show keepR rider day e = ((e.rd != rider) || (Int.tdiv e.s0 86400 != day)) from rfl)
      have htd : -9223372036854775808 ≤ Int.tdiv e.s0 86400 ∧ Int.tdiv e.s0 86400 ≤ 9223372036854775807 := by
        rcases Int.le_total 0 e.s0 with h | h
        · rw [Int.tdiv_eq_ediv_of_nonneg h]; omega
        · have h2 : Int.tdiv e.s0 86400 = -((-e.s0) / 86400) := by
            have := Int.neg_tdiv (-e.s0) 86400
            rw [Int.neg_neg] at this
            rw [this, Int.tdiv_eq_ediv_of_nonneg (by omega)]
          rw [h2]; omega
      generalize hD : Int.tdiv e.s0 86400 = D at *
      have ws : IntKind.i64.wrap D = D := IntWalk.i64_in _ htd
      have ra0 := h1'.c0
      have ra1 := h1'.c1
      have ra2 := h1'.c2
      have ra3 := h1'.c3
      have ra4 := h1'.c4
      have ra5 := h1'.c5
      have ra6 := h1'.c6
      have ra7 := h1'.c7
      have ra8 := h1'.c8
      have ra9 := h1'.c9
      have ra10 := h1'.c10
      have ra11 := h1'.c11
      have ra12 := h1'.c12
      clear h1' he htk
      by_cases h1 : e.rd = rider
      · by_cases h2 : D = day
        · have Hs2 := Lib.hid (Hno.out (by rw [HK.out, h1, h2]; simp))
          have d1 : (e.rd != rider) = false := by simpa using h1
          have d2 : (D != day) = false := by simpa using h2
          clear Hno Hye h1 h2
          go_wp2_with fail
          go_roundw
          case rel => exact ⟨k + 1, m, y, by omega, by go_num, rfl, Hs2.out, by omega⟩
          case measure => simp [intOf] <;> omega
        · have Hf2 := Lib.hid (Hye.out (by rw [HK.out]; simp [h2]))
          have d1 : (e.rd != rider) = false := by simpa using h1
          have d2 : (D != day) = true := by simpa using h2
          clear Hno Hye h1 h2
          go_wp2_with (at_builtin; (refine wpList_appendK (w0 := w) ?hw rfl _ _ 23 rfl w.heap.size (Nat.le_refl _) ?hb 73 zeroRide 136 sRide u7 m (flat Ride.cs ((R.take k).filter (keepR rider day))) rfl ?hown ⟨y.w.heap.size, 0, none⟩ 1 1 e.cs rfl rfl ?hc (ride_one _) ?h63 ?hbytes ?_; rotate_right 1; intro v2 q2 hown4 _ hg4))
          case hw => exact IsSince.alloc (IsSince.of y) _
          case hb => have := y.b.size; simp; omega
          case hown => exact own_to Hown.out (IsSince.alloc (IsSince.self _) _)
          case hc => exact cell_new_at y.w e.cs _
          case h63 => unfold maxLen; omega
          case hbytes => omega
          have Hown4 := Lib.hid (show q2.w.ownsRow w.heap.size 73 13 v2 (m + 1) (flat Ride.cs ((R.take (k + 1)).filter (keepR rider day))) by rw [Hf2.out]; exact hown4)
          clear hown4 hg4
          go_wp2_with fail
          go_roundw
          case rel => exact ⟨k + 1, m + 1, q2, by omega, by go_num, rfl, Hown4.out, by omega⟩
          case measure => simp [intOf] <;> omega
      · have Hf2 := Lib.hid (Hye.out (by rw [HK.out]; simp [h1]))
        have d1 : (e.rd != rider) = true := by simpa using h1
        clear Hno Hye h1
        go_wp2_with (at_builtin; (refine wpList_appendK (w0 := w) ?hw rfl _ _ 23 rfl w.heap.size (Nat.le_refl _) ?hb 73 zeroRide 136 sRide u7 m (flat Ride.cs ((R.take k).filter (keepR rider day))) rfl ?hown ⟨y.w.heap.size, 0, none⟩ 1 1 e.cs rfl rfl ?hc (ride_one _) ?h63 ?hbytes ?_; rotate_right 1; intro v2 q2 hown4 _ hg4))
        case hw => exact IsSince.alloc (IsSince.of y) _
        case hb => have := y.b.size; simp; omega
        case hown => exact own_to Hown.out (IsSince.alloc (IsSince.self _) _)
        case hc => exact cell_new_at y.w e.cs _
        case h63 => unfold maxLen; omega
        case hbytes => omega
        have Hown4 := Lib.hid (show q2.w.ownsRow w.heap.size 73 13 v2 (m + 1) (flat Ride.cs ((R.take (k + 1)).filter (keepR rider day))) by rw [Hf2.out]; exact hown4)
        clear hown4 hg4
        go_wp2_with fail
        go_roundw
        case rel => exact ⟨k + 1, m + 1, q2, by omega, by go_num, rfl, Hown4.out, by omega⟩
        case measure => simp [intOf] <;> omega
    · obtain rfl : k = R.length := by omega
      obtain ⟨hlen2, a3, c3, rfl, hc3, he3, _, _⟩ := own_els Ride.len (by decide) Hown.out
      rw [List.take_length] at he3 hlen2
      have H3 := Lib.hid (show RideRow y.w a3 (R.filter (keepR rider day)) from ⟨he3, fun r hr => (HR.out.r r ((List.mem_filter.1 hr).1)).since y⟩)
      clear he3 hlen2 hc3
      go_wp2_with fail
      go_ret
      exact ⟨a3, c3, y, (by show Ending.returned (.slice a3 (List.filter (keepR rider day) (List.take R.length R)).length c3) = _; rw [List.take_length]), rfl, H3.out⟩
end Go.Proofs.YtdkcclngionihaaDoor
/- The law ReleasePrivate, walked. Written by mkk3.py. -/
namespace Go.Proofs.YtdkcclngionihaaDoor
open Go.RowKit

theorem since_three {W w : World} {g : Nat} (h : IsSince W w) (hg : W.heap.size ≤ g) (v0 v1 v2 : Value) : IsSince W (((w.setCell ⟨g, 0, none⟩ v0).setCell ⟨g, 1, none⟩ v1).setCell ⟨g, 2, none⟩ v2) :=
  IsSince.set (IsSince.set (IsSince.set h _ hg _) _ hg _) _ hg _
theorem row_sets {a : Option Addr} {n : Nat} {f : Nat → Value} {g : Nat} (hg : ∀ b, a = some b → b.block ≠ g) : ∀ (vs : List Value) (o : Nat) (w : World), Row w a n f → Row (w.setCells g o vs) a n f
  | [], _, _, h => h
  | v :: vs, o, w, h => row_sets hg vs (o + 1) (w.setCell ⟨g, o, none⟩ v) (h.set _ _ hg)
theorem tb_late {W : World} (y : Since W) {T : Tab} {ab : Option Addr} {cb : Nat} (h : IntRow y.w ab T.l) (t : TypeId) :
    ∃ y5 : Since W, y.w.alloc (.cells #[.int .i64 T.r, .int .i64 T.c, .slice ab T.l.length cb] t) = y5.w ∧ BoxIs y5.w y.w.heap.size [.int .i64 T.r, .int .i64 T.c, .slice ab T.l.length cb] ∧ IntRow y5.w ab T.l := by
  obtain ⟨y5, h5⟩ := y.alloc (.cells #[.int .i64 T.r, .int .i64 T.c, .slice ab T.l.length cb] t)
  have hb := BoxIs.new y.w [.int .i64 T.r, .int .i64 T.c, .slice ab T.l.length cb] t
  have hr := h.to (IsSince.alloc (IsSince.self _) (.cells #[.int .i64 T.r, .int .i64 T.c, .slice ab T.l.length cb] t))
  rw [h5] at hb hr
  exact ⟨y5, h5, hb, hr⟩
theorem tb_early {W : World} (y : Since W) {g : Nat} {us : List Value} (hb : BoxIs y.w g us) (hg : W.heap.size ≤ g) (hl : us.length = 3) {T : Tab} {ab : Option Addr} {cb : Nat} (h : IntRow y.w ab T.l) (hf : ∀ b, ab = some b → b.block ≠ g) :
    ∃ y5 : Since W, y.w.setCells g 0 [.int .i64 T.r, .int .i64 T.c, .slice ab T.l.length cb] = y5.w ∧ BoxIs y5.w g [.int .i64 T.r, .int .i64 T.c, .slice ab T.l.length cb] ∧ IntRow y5.w ab T.l := by
  obtain ⟨z, hz, hb2, _⟩ := hb.stored (B := W) ⟨y, rfl⟩ hg [.int .i64 T.r, .int .i64 T.c, .slice ab T.l.length cb] (by rw [hl]; rfl)
  have hr := row_sets hf [.int .i64 T.r, .int .i64 T.c, .slice ab T.l.length cb] 0 y.w h
  rw [hz] at hr
  exact ⟨z, hz, hb2, hr⟩
/-- the tables with and without a rider's day -/
theorem priv_facts {zs : List Int} {n : Int} {R : List Ride} {f t e rider day : Int} (h : tabE zs n R f t e = 0) :
    tabE zs n (R.filter (keepR rider day)) f t e = 0 ∧ (tabV zs n (R.filter (keepR rider day)) f t e).l.length = (tabV zs n R f t e).l.length ∧ apE (tabV zs n R f t e) (tabV zs n (R.filter (keepR rider day)) f t e) = 0 ∧ apV (tabV zs n R f t e) (tabV zs n (R.filter (keepR rider day)) f t e) ≤ e := by
  obtain ⟨_, h2, _⟩ := (tabE_zero ..).1 h
  have hs := rides_s0 (eachE_zero h2).2.2
  rw [keep_all fun r hr => (hs r hr).1]
  obtain ⟨b1, _, b3, b4, _, _, b7, b8, b9⟩ := bound_facts (q := ⟨none, zs, 0, n, e, none, R, 0, f, t⟩) (rider := rider) (dd := day) h
  dsimp only at b1 b3 b4 b7 b8 b9
  refine ⟨b1, b3, b8, ?_⟩
  rw [b7]
  exact (b9 _ (Nat.le_refl _)).2.1
theorem chE_same {Y T U : Tab} {N : List Int} (h1 : chkE T = 0) (h2 : chkE U = 0) (hr : T.r = U.r) (hc : T.c = U.c) : chE Y U N = chE Y T N := by
  unfold chE; rw [h1, h2, hr, hc]
theorem alike_made {Y T U : Tab} {num den : Int} {m : Nat} (hm : 1 ≤ m ∧ m ≤ 33) (hr : Right num den) (h1 : chE Y T (mkL num den m) = 0) (h2 : chE Y U (mkL num den m) = 0)
    (h : ∀ i, i < T.l.length → 0 < weight (mkL num den m) (at0 Y.l i - at0 T.l i) ∧ 0 < weight (mkL num den m) (at0 Y.l i - at0 U.l i) ∧ at0 T.l i - at0 U.l i ≤ 3 ∧ at0 U.l i - at0 T.l i ≤ 3) : alB Y T U (mkL num den m) num den = true := by
  have hg := mkL_good hr hm.1 hm.2
  have hr' := hr
  unfold Right at hr'
  refine alB_yes ⟨h1, h2, hr'.1, hr'.2.1, hr'.2.2⟩ fun i hi => ?_
  obtain ⟨a, b, c, d⟩ := h i hi
  rw [weight_good hg] at a b
  unfold alC
  rw [weight_good hg, weight_good hg]
  exact okC_mk hr (by omega) a b
set_option linter.unusedSimpArgs false in
set_option maxRecDepth 100000 in
set_option maxHeartbeats 32000000 in
theorem releasePrivate_calls (w : World) (x : Since w) (hs : Signs w) (q : Cas) (rider day rad num den : Int) (Y : Tab) (ay : Option Addr) (cy : Nat) (h : q.At w) (hS : ∀ r ∈ q.R, -9223372036854775808 ≤ r.s0 ∧ r.s0 ≤ 9223372036854775807) (hy : IntRow w ay Y.l) (hyl : Y.l.length ≤ 9223372036854775807) :
    Calls Tryd.prog 7 #[.agg #[.slice q.az q.zs.length q.cz, .int .i64 q.n, .slice q.a q.R.length q.c, .int .i64 q.f, .int .i64 q.t, .int .i64 q.e], .int .i64 rider, .int .i64 day, .agg #[.int .i64 rad, .int .i64 num, .int .i64 den, .int .i64 Y.r, .int .i64 Y.c, .slice ay Y.l.length cy]] x.w fun o w' => o = .returned (.bool true) ∧ ∃ y : Since w, w' = y.w := by
  have H := Lib.hid h; have HS := Lib.hid hS; have HY := Lib.hid (And.intro hy hs)
  have HF := Lib.hid (fun (W : World) (y : Since W) h => few56_calls W y q h)
  have HFw := Lib.hid (show fewQ q = true → q.R.length ≤ 30 from fun h => by
    unfold fewQ at h
    rw [Bool.and_eq_true, decide_eq_true_eq] at h
    exact h.1.1)
  generalize fewQ q = FQ at *
  obtain ⟨az, zs, cz, n, e, a, R, c, f, t⟩ := q
  dsimp only at H HS HF HFw ⊢
  clear h hS hy hs
  go_enter Tryd.func7, Tryd.ntmps7
  go_upto_region 1 with fail
  have hb0_0 : ∀ y : Since ((x.w.alloc (.cells #[.slice az zs.length cz, .int .i64 n, .slice a R.length c, .int .i64 f, .int .i64 t, .int .i64 e] 27)).alloc (.cells #[.int .i64 rad, .int .i64 num, .int .i64 den, .int .i64 Y.r, .int .i64 Y.c, .slice ay Y.l.length cy] 60)), y.w.cell? ⟨x.w.heap.size, 0, none⟩ = some (.slice az zs.length cz) := fun y => Since.cell (by simp [go_sem]) (by first | (simp; done) | (simp; omega)) y
  have hb0_1 : ∀ y : Since ((x.w.alloc (.cells #[.slice az zs.length cz, .int .i64 n, .slice a R.length c, .int .i64 f, .int .i64 t, .int .i64 e] 27)).alloc (.cells #[.int .i64 rad, .int .i64 num, .int .i64 den, .int .i64 Y.r, .int .i64 Y.c, .slice ay Y.l.length cy] 60)), y.w.cell? ⟨x.w.heap.size, 1, none⟩ = some (.int .i64 n) := fun y => Since.cell (by simp [go_sem]) (by first | (simp; done) | (simp; omega)) y
  have hb0_2 : ∀ y : Since ((x.w.alloc (.cells #[.slice az zs.length cz, .int .i64 n, .slice a R.length c, .int .i64 f, .int .i64 t, .int .i64 e] 27)).alloc (.cells #[.int .i64 rad, .int .i64 num, .int .i64 den, .int .i64 Y.r, .int .i64 Y.c, .slice ay Y.l.length cy] 60)), y.w.cell? ⟨x.w.heap.size, 2, none⟩ = some (.slice a R.length c) := fun y => Since.cell (by simp [go_sem]) (by first | (simp; done) | (simp; omega)) y
  have hb0_3 : ∀ y : Since ((x.w.alloc (.cells #[.slice az zs.length cz, .int .i64 n, .slice a R.length c, .int .i64 f, .int .i64 t, .int .i64 e] 27)).alloc (.cells #[.int .i64 rad, .int .i64 num, .int .i64 den, .int .i64 Y.r, .int .i64 Y.c, .slice ay Y.l.length cy] 60)), y.w.cell? ⟨x.w.heap.size, 3, none⟩ = some (.int .i64 f) := fun y => Since.cell (by simp [go_sem]) (by first | (simp; done) | (simp; omega)) y
  have hb0_4 : ∀ y : Since ((x.w.alloc (.cells #[.slice az zs.length cz, .int .i64 n, .slice a R.length c, .int .i64 f, .int .i64 t, .int .i64 e] 27)).alloc (.cells #[.int .i64 rad, .int .i64 num, .int .i64 den, .int .i64 Y.r, .int .i64 Y.c, .slice ay Y.l.length cy] 60)), y.w.cell? ⟨x.w.heap.size, 4, none⟩ = some (.int .i64 t) := fun y => Since.cell (by simp [go_sem]) (by first | (simp; done) | (simp; omega)) y
  have hb0_5 : ∀ y : Since ((x.w.alloc (.cells #[.slice az zs.length cz, .int .i64 n, .slice a R.length c, .int .i64 f, .int .i64 t, .int .i64 e] 27)).alloc (.cells #[.int .i64 rad, .int .i64 num, .int .i64 den, .int .i64 Y.r, .int .i64 Y.c, .slice ay Y.l.length cy] 60)), y.w.cell? ⟨x.w.heap.size, 5, none⟩ = some (.int .i64 e) := fun y => Since.cell (by simp [go_sem]) (by first | (simp; done) | (simp; omega)) y
  have hf0 : ∀ (y : Since ((x.w.alloc (.cells #[.slice az zs.length cz, .int .i64 n, .slice a R.length c, .int .i64 f, .int .i64 t, .int .i64 e] 27)).alloc (.cells #[.int .i64 rad, .int .i64 num, .int .i64 den, .int .i64 Y.r, .int .i64 Y.c, .slice ay Y.l.length cy] 60))) (o : Nat), y.w.frozen? ⟨x.w.heap.size, o, none⟩ = false := fun y o => Since.free (by simp [go_sem]) (by first | (simp; done) | (simp; omega)) y
  have hb1_0 : ∀ y : Since ((x.w.alloc (.cells #[.slice az zs.length cz, .int .i64 n, .slice a R.length c, .int .i64 f, .int .i64 t, .int .i64 e] 27)).alloc (.cells #[.int .i64 rad, .int .i64 num, .int .i64 den, .int .i64 Y.r, .int .i64 Y.c, .slice ay Y.l.length cy] 60)), y.w.cell? ⟨x.w.heap.size + 1, 0, none⟩ = some (.int .i64 rad) := fun y => Since.cell (by simp [go_sem]) (by first | (simp; done) | (simp; omega)) y
  have hb1_1 : ∀ y : Since ((x.w.alloc (.cells #[.slice az zs.length cz, .int .i64 n, .slice a R.length c, .int .i64 f, .int .i64 t, .int .i64 e] 27)).alloc (.cells #[.int .i64 rad, .int .i64 num, .int .i64 den, .int .i64 Y.r, .int .i64 Y.c, .slice ay Y.l.length cy] 60)), y.w.cell? ⟨x.w.heap.size + 1, 1, none⟩ = some (.int .i64 num) := fun y => Since.cell (by simp [go_sem]) (by first | (simp; done) | (simp; omega)) y
  have hb1_2 : ∀ y : Since ((x.w.alloc (.cells #[.slice az zs.length cz, .int .i64 n, .slice a R.length c, .int .i64 f, .int .i64 t, .int .i64 e] 27)).alloc (.cells #[.int .i64 rad, .int .i64 num, .int .i64 den, .int .i64 Y.r, .int .i64 Y.c, .slice ay Y.l.length cy] 60)), y.w.cell? ⟨x.w.heap.size + 1, 2, none⟩ = some (.int .i64 den) := fun y => Since.cell (by simp [go_sem]) (by first | (simp; done) | (simp; omega)) y
  have hb1_3 : ∀ y : Since ((x.w.alloc (.cells #[.slice az zs.length cz, .int .i64 n, .slice a R.length c, .int .i64 f, .int .i64 t, .int .i64 e] 27)).alloc (.cells #[.int .i64 rad, .int .i64 num, .int .i64 den, .int .i64 Y.r, .int .i64 Y.c, .slice ay Y.l.length cy] 60)), y.w.cell? ⟨x.w.heap.size + 1, 3, none⟩ = some (.int .i64 Y.r) := fun y => Since.cell (by simp [go_sem]) (by first | (simp; done) | (simp; omega)) y
  have hb1_4 : ∀ y : Since ((x.w.alloc (.cells #[.slice az zs.length cz, .int .i64 n, .slice a R.length c, .int .i64 f, .int .i64 t, .int .i64 e] 27)).alloc (.cells #[.int .i64 rad, .int .i64 num, .int .i64 den, .int .i64 Y.r, .int .i64 Y.c, .slice ay Y.l.length cy] 60)), y.w.cell? ⟨x.w.heap.size + 1, 4, none⟩ = some (.int .i64 Y.c) := fun y => Since.cell (by simp [go_sem]) (by first | (simp; done) | (simp; omega)) y
  have hb1_5 : ∀ y : Since ((x.w.alloc (.cells #[.slice az zs.length cz, .int .i64 n, .slice a R.length c, .int .i64 f, .int .i64 t, .int .i64 e] 27)).alloc (.cells #[.int .i64 rad, .int .i64 num, .int .i64 den, .int .i64 Y.r, .int .i64 Y.c, .slice ay Y.l.length cy] 60)), y.w.cell? ⟨x.w.heap.size + 1, 5, none⟩ = some (.slice ay Y.l.length cy) := fun y => Since.cell (by simp [go_sem]) (by first | (simp; done) | (simp; omega)) y
  have hf1 : ∀ (y : Since ((x.w.alloc (.cells #[.slice az zs.length cz, .int .i64 n, .slice a R.length c, .int .i64 f, .int .i64 t, .int .i64 e] 27)).alloc (.cells #[.int .i64 rad, .int .i64 num, .int .i64 den, .int .i64 Y.r, .int .i64 Y.c, .slice ay Y.l.length cy] 60))) (o : Nat), y.w.frozen? ⟨x.w.heap.size + 1, o, none⟩ = false := fun y o => Since.free (by simp [go_sem]) (by first | (simp; done) | (simp; omega)) y
  have hWup : ∃ z : Since w, ((x.w.alloc (.cells #[.slice az zs.length cz, .int .i64 n, .slice a R.length c, .int .i64 f, .int .i64 t, .int .i64 e] 27)).alloc (.cells #[.int .i64 rad, .int .i64 num, .int .i64 den, .int .i64 Y.r, .int .i64 Y.c, .slice ay Y.l.length cy] 60)) = z.w := Since.allocs x [.cells #[.slice az zs.length cz, .int .i64 n, .slice a R.length c, .int .i64 f, .int .i64 t, .int .i64 e] 27, .cells #[.int .i64 rad, .int .i64 num, .int .i64 den, .int .i64 Y.r, .int .i64 Y.c, .slice ay Y.l.length cy] 60]
  obtain ⟨y0, hy0⟩ := Since.refl ((x.w.alloc (.cells #[.slice az zs.length cz, .int .i64 n, .slice a R.length c, .int .i64 f, .int .i64 t, .int .i64 e] 27)).alloc (.cells #[.int .i64 rad, .int .i64 num, .int .i64 den, .int .i64 Y.r, .int .i64 Y.c, .slice ay Y.l.length cy] 60))
  have Hbx := Lib.hid (And.intro x.b.size (show x.w.heap.size + 2 = ((x.w.alloc (.cells #[.slice az zs.length cz, .int .i64 n, .slice a R.length c, .int .i64 f, .int .i64 t, .int .i64 e] 27)).alloc (.cells #[.int .i64 rad, .int .i64 num, .int .i64 den, .int .i64 Y.r, .int .i64 Y.c, .slice ay Y.l.length cy] 60)).heap.size from by simp))
  generalize hW : ((x.w.alloc (.cells #[.slice az zs.length cz, .int .i64 n, .slice a R.length c, .int .i64 f, .int .i64 t, .int .i64 e] 27)).alloc (.cells #[.int .i64 rad, .int .i64 num, .int .i64 den, .int .i64 Y.r, .int .i64 Y.c, .slice ay Y.l.length cy] 60)) = W at *
  clear hW
  generalize x.w.heap.size = bx at *
  have Hup := Lib.hid (Since.up hWup)
  rw [hy0]
  clear hy0
  have HAw := Lib.hid (fun z : Since W => awake_calls W z (HY.out.2.to hWup))
  have HF1 := Lib.hid (fun z : Since W => HF.out W z (H.out.to hWup))
  have HF2 := Lib.hid (fun z : Since W => flat2_calls W z Y.r Y.c ay Y.l.length cy)
  have HQ := Lib.hid (show Cas.At W ⟨az, zs, cz, n, e, a, R, c, f, t⟩ from H.out.to hWup)
  have HYr := Lib.hid (HY.out.1.to hWup)
  have HSg := Lib.hid (HY.out.2.to hWup)
  clear H HF HY hWup hf0 hf1
  cases FQ with
  | false =>
    clear HFw
    go_wp2_with (first | (go_at_call 10; ((with_reducible refine (HF1.out _).mono ?_); rintro _ _ ⟨rfl, z, rfl⟩)) | (go_at_call 11; ((with_reducible refine (HAw.out _).mono ?_); rintro _ _ ⟨rfl, yw, rfl⟩)))
    go_ret
    exact ⟨rfl, Hup.out _⟩
  | true =>
    have hR30 := HFw.out rfl
    clear HFw
    by_cases hYl : Y.l.length ≤ 100
    case neg =>
      have d1 : decide ((Y.l.length : Int) ≤ 100) = false := decide_eq_false (by omega)
      clear hYl
      go_wp2_with (first | (go_at_call 10; ((with_reducible refine (HF1.out _).mono ?_); rintro _ _ ⟨rfl, z, rfl⟩)) | (go_at_call 15; ((with_reducible refine (HF2.out _).mono ?_); rintro _ _ ⟨rfl, z', rfl⟩)) | (go_at_call 11; ((with_reducible refine (HAw.out _).mono ?_); rintro _ _ ⟨rfl, yw, rfl⟩)))
      go_ret
      exact ⟨rfl, Hup.out _⟩
    case pos =>
    have d1 : decide ((Y.l.length : Int) ≤ 100) = true := decide_eq_true (by omega)
    clear hYl
    go_upto_region 3 with (first | (go_at_call 10; ((with_reducible refine (HF1.out _).mono ?_); rintro _ _ ⟨rfl, z, rfl⟩)) | (go_at_call 15; ((with_reducible refine (HF2.out _).mono ?_); rintro _ _ ⟨rfl, z', rfl⟩)))
    clear HF1 HF2 d1
    have HT1 := Lib.hid (fun z : Since W => table_calls W z az zs cz n a R c f t e HQ.out.z HQ.out.zl HQ.out.r HQ.out.rl HQ.out.i)
    have HP := Lib.hid (fun h => priv_facts (zs := zs) (n := n) (R := R) (f := f) (t := t) (e := e) (rider := rider) (day := day) h)
    have HCk := Lib.hid (And.intro (fun h => chk_table (zs := zs) (size := n) (R := R) (f := f) (t := t) (each := e) h) (fun h => chk_table (zs := zs) (size := n) (R := R.filter (keepR rider day)) (f := f) (t := t) (each := e) h))
    obtain ⟨R2, hR2⟩ : ∃ R2, R2 = R.filter (keepR rider day) := ⟨_, rfl⟩
    have HW0 := Lib.hid (fun (u : World) (hr : RideRow u a R) => without_calls u (Since.self u) a R c rider day hr hR30 HS.out)
    have HT0 := Lib.hid (fun (u : World) (a' : Option Addr) (c' : Nat) hz (hr : RideRow u a' (R.filter (keepR rider day))) => table_calls u (Since.self u) az zs cz n a' (R.filter (keepR rider day)) c' f t e hz HQ.out.zl hr (by have := List.length_filter_le (keepR rider day) R; omega) (fun r hr => HQ.out.i r (List.mem_filter.1 hr).1))
    rw [← hR2] at HP HCk HW0 HT0
    generalize tabE zs n R f t e = E1 at *
    generalize tabV zs n R f t e = T1 at *
    generalize tabE zs n R2 f t e = E2 at *
    generalize tabV zs n R2 f t e = T2 at *
    clear hR2
    go_upto_region 4 with (go_at_call 21; ((with_reducible refine (HT1.out _).mono ?_); rintro _ _ ⟨a1, c1, y1, rfl, rfl, r1, -, -, -⟩))
    have HR1 := Lib.hid r1
    clear r1 HT1
    have hx0 : (y1.w.alloc (.cells #[.int .i64 T1.r, .int .i64 T1.c, .slice a1 T1.l.length c1] 31)).cell? ⟨y1.w.heap.size, 0, none⟩ = some (.int .i64 T1.r) := by simp [go_sem]
    have hx1 : (y1.w.alloc (.cells #[.int .i64 T1.r, .int .i64 T1.c, .slice a1 T1.l.length c1] 31)).cell? ⟨y1.w.heap.size, 1, none⟩ = some (.int .i64 T1.c) := by simp [go_sem]
    have hx2 : (y1.w.alloc (.cells #[.int .i64 T1.r, .int .i64 T1.c, .slice a1 T1.l.length c1] 31)).cell? ⟨y1.w.heap.size, 2, none⟩ = some (.slice a1 T1.l.length c1) := by simp [go_sem]
    have hxf : ∀ o, (y1.w.alloc (.cells #[.int .i64 T1.r, .int .i64 T1.c, .slice a1 T1.l.length c1] 31)).frozen? ⟨y1.w.heap.size, o, none⟩ = false := fun o => by simp [go_sem]
    have hlt0 : y1.w.heap.size < (y1.w.alloc (.cells #[.int .i64 T1.r, .int .i64 T1.c, .slice a1 T1.l.length c1] 31)).heap.size := by simp
    have hst0 : ∃ zz : Since y1.w, (y1.w.alloc (.cells #[.int .i64 T1.r, .int .i64 T1.c, .slice a1 T1.l.length c1] 31)) = zz.w := IsSince.alloc (IsSince.self _) _
    have hsz0 := y1.b.size
    obtain ⟨y2, e2⟩ := IsSince.alloc (IsSince.of y1) (.cells #[.int .i64 T1.r, .int .i64 T1.c, .slice a1 T1.l.length c1] 31)
    rw [e2] at hx0 hx1 hx2 hxf hlt0 hst0 ⊢
    (replace HR1 := Lib.hid (HR1.out.to hst0); have hba := BoxIs.new y1.w [.int .i64 T1.r, .int .i64 T1.c, .slice a1 T1.l.length c1] 31; rw [e2] at hba)
    clear e2 hst0
    generalize y1.w.heap.size = ga at *
    have Hhx0 : ∀ q : Since y2.w, q.w.cell? ⟨ga, 0, none⟩ = some (.int .i64 T1.r) := fun q => Since.cell hx0 (by omega) q
    have Hhx1 : ∀ q : Since y2.w, q.w.cell? ⟨ga, 1, none⟩ = some (.int .i64 T1.c) := fun q => Since.cell hx1 (by omega) q
    have Hhx2 : ∀ q : Since y2.w, q.w.cell? ⟨ga, 2, none⟩ = some (.slice a1 T1.l.length c1) := fun q => Since.cell hx2 (by omega) q
    have Hhxf : ∀ (q : Since y2.w) (o : Nat), q.w.frozen? ⟨ga, o, none⟩ = false := fun q o => Since.free (hxf o) (by omega) q
    have Hhxg := Lib.hid (And.intro hsz0 hlt0)
    clear hlt0 hsz0
    have HBa := Lib.hid hba
    clear hba hx0 hx1 hx2 hxf Hhx0 Hhx1 Hhx2 Hhxf Hhxg
    have HW := Lib.hid (show ∀ u, IsSince y2.w u → Calls Tryd.prog 23 #[.slice a R.length c, .int .i64 rider, .int .i64 day] u (fun o w' => ∃ (a' : Option Addr) (c' : Nat) (y : Since y2.w), o = .returned (.slice a' R2.length c') ∧ w' = y.w ∧ (∃ z : Since u, y.w = z.w) ∧ RideRow y.w a' R2) from fun u hu => by
      obtain ⟨y, rfl⟩ := hu
      refine (HW0.out y.w ((HQ.out.r.to ⟨y2, rfl⟩).to ⟨y, rfl⟩)).mono ?_
      rintro _ w' ⟨a', c', z, rfl, rfl, hr⟩
      obtain ⟨y', e'⟩ := y.trans z
      exact ⟨a', c', y', rfl, e', ⟨z, e'.symm⟩, e' ▸ hr⟩)
    have HT := Lib.hid (show ∀ u (a' : Option Addr) (c' : Nat), IsSince y2.w u → RideRow u a' R2 → Calls Tryd.prog 21 #[.slice az zs.length cz, .int .i64 n, .slice a' R2.length c', .agg #[.int .i64 f, .int .i64 t], .int .i64 e] u (fun o w' => ∃ (ab : Option Addr) (cb : Nat) (y : Since y2.w), o = .returned (.tuple #[.agg #[.int .i64 T2.r, .int .i64 T2.c, .slice ab T2.l.length cb], .int .i64 E2]) ∧ w' = y.w ∧ (∃ z : Since u, y.w = z.w) ∧ IntRow y.w ab T2.l ∧ ∀ b, ab = some b → u.heap.size ≤ b.block) from fun u a' c' hu hr => by
      obtain ⟨y, rfl⟩ := hu
      refine (HT0.out y.w a' c' ((HQ.out.z.to ⟨y2, rfl⟩).to ⟨y, rfl⟩) hr).mono ?_
      rintro _ w' ⟨ab, cb, z, rfl, rfl, hrb, -, hf, -⟩
      obtain ⟨y', e'⟩ := y.trans z
      exact ⟨ab, cb, y', rfl, e', ⟨z, e'.symm⟩, e' ▸ hrb, hf⟩)
    clear HW0 HT0
    have i0 := fun w' (h : IsSince y2.w w') => IsSince.cell (Since.cellTo ⟨y2, rfl⟩ hb0_0) h
    have i1 := fun w' (h : IsSince y2.w w') => IsSince.cell (Since.cellTo ⟨y2, rfl⟩ hb0_1) h
    have i2 := fun w' (h : IsSince y2.w w') => IsSince.cell (Since.cellTo ⟨y2, rfl⟩ hb0_2) h
    have i3 := fun w' (h : IsSince y2.w w') => IsSince.cell (Since.cellTo ⟨y2, rfl⟩ hb0_3) h
    have i4 := fun w' (h : IsSince y2.w w') => IsSince.cell (Since.cellTo ⟨y2, rfl⟩ hb0_4) h
    have i5 := fun w' (h : IsSince y2.w w') => IsSince.cell (Since.cellTo ⟨y2, rfl⟩ hb0_5) h
    go_cut [11, 12] (fun s11 s12 wr => ∃ (gb : Nat) (ab : Option Addr) (cb : Nat) (y5 : Since y2.w), s11 = .pointer (some ⟨gb, 0, none⟩) ∧ s12 = .int .i64 E2 ∧ wr = y5.w ∧ BoxIs y5.w gb [.int .i64 T2.r, .int .i64 T2.c, .slice ab T2.l.length cb] ∧ IntRow y5.w ab T2.l)
    case first =>
      go_region_held3 (fun w' => IsSince y2.w w') (with_reducible first | assumption | exact IsSince.drew' (IsSince.self _) | exact IsSince.of _ | exact since_three (IsSince.of _) hgA _ _ _ | exact IsSince.alloc (IsSince.of _) _ | exact IsSince.alloc (IsSince.drew' (IsSince.self _)) _ | exact IsSince.drew' (IsSince.alloc (IsSince.self _) _) | exact IsSince.alloc (by assumption) _) (first | (go_at_call 23; (with_reducible refine (HW.out _ (by assumption)).mono ?_); rintro _ _ ⟨aw, cw, z1, rfl, rfl, hz1, hrw⟩; first | (with_reducible have hA := BoxIs.to (BoxIs.new _ [.int .i64 0, .int .i64 0, .slice none 0 0] 31) hz1; have hgA := box_base (W := y2.w) hA (by first | exact IsSince.of _ | exact IsSince.self _ | exact IsSince.drew' (IsSince.self _))) | (with_reducible have hA := BoxIs.to (BoxIs.new _ [.int .i64 0, .int .i64 0, .slice none 0 0] 31).drew hz1; have hgA := box_base (W := y2.w) hA (by first | exact IsSince.of _ | exact IsSince.self _ | exact IsSince.drew' (IsSince.self _))) | skip) | (go_at_call 21; (with_reducible refine (HT.out _ _ _ (by assumption) (by first | with_reducible exact hrw | exact rides_alloc hrw _)).mono ?_); rintro _ _ ⟨ab, cb, z2, rfl, rfl, hz2, hrb, hf⟩; first | (with_reducible have hne := fun b hb => Nat.ne_of_gt (Nat.lt_of_lt_of_le (BoxIs.new _ [.int .i64 0, .int .i64 0, .slice none 0 0] 31).lt (hf b hb)); (with_reducible have hA := BoxIs.to (BoxIs.new _ [.int .i64 0, .int .i64 0, .slice none 0 0] 31) hz2; have hgA := box_base (W := y2.w) hA (by first | exact IsSince.of _ | exact IsSince.self _ | exact IsSince.drew' (IsSince.self _))); have hA0 := hA.c 0 _ rfl; have hA1 := hA.c 1 _ rfl; have hA2 := hA.c 2 _ rfl; have hAf := hA.f) | (have hne := fun b hb => Nat.ne_of_gt (Nat.lt_of_lt_of_le hA.lt (hf b hb)); replace hA := hA.to hz2; have hA0 := hA.c 0 _ rfl; have hA1 := hA.c 1 _ rfl; have hA2 := hA.c 2 _ rfl; have hAf := hA.f) | skip))
      all_goals (go_wp2_with fail)
      all_goals go_meet
      all_goals
        first
          | (obtain ⟨y5, h5, hb, hrr⟩ := tb_late z2 hrb 31 (cb := cb)
             with_reducible exact ⟨_, _, _, y5, rfl, rfl, h5, hb, hrr⟩)
          | (obtain ⟨y5, h5, hb, hrr⟩ := tb_early z2 hA hgA rfl hrb hne (cb := cb)
             simp only [World.setCells, Nat.reduceAdd] at h5
             with_reducible exact ⟨_, _, _, y5, rfl, rfl, h5, hb, hrr⟩)
    case rest =>
    obtain ⟨gb, ab, cb, y5, rfl, rfl, rfl, hb, hrb⟩ := hcut
    have HBb := Lib.hid hb; have HRb := Lib.hid hrb
    clear hb hrb i0 i1 i2 i3 i4 i5 HW HT
    replace HBa := Lib.hid (HBa.out.since y5)
    replace HR1 := Lib.hid (Since.row HR1.out y5)
    have HUp := Lib.hid (fun q : Since y5.w => show ∃ z : Since W, q.w = z.w from by
      obtain ⟨z0, e0⟩ := y5.trans q
      obtain ⟨z1, e1⟩ := y2.trans z0
      exact ⟨z1, e0.trans e1⟩)
    have HUw := Lib.hid (fun q : Since y5.w => show ∃ z : Since w, q.w = z.w from by obtain ⟨z, e0⟩ := HUp.out q; rw [e0]; exact Hup.out z)
    have hW5 : ∃ z : Since W, y5.w = z.w := HUp.out (Since.self _)
    have HAw5 := Lib.hid (fun q : Since y5.w => awake_calls y5.w q (HSg.out.to hW5))
    replace HYr := Lib.hid (HYr.out.to hW5)
    replace HSg := Lib.hid (HSg.out.to hW5)
    replace hb0_3 := Since.cellTo hW5 hb0_3
    replace hb0_4 := Since.cellTo hW5 hb0_4
    replace hb0_5 := Since.cellTo hW5 hb0_5
    replace hb1_0 := Since.cellTo hW5 hb1_0
    replace hb1_1 := Since.cellTo hW5 hb1_1
    replace hb1_2 := Since.cellTo hW5 hb1_2
    replace hb1_3 := Since.cellTo hW5 hb1_3
    replace hb1_4 := Since.cellTo hW5 hb1_4
    replace hb1_5 := Since.cellTo hW5 hb1_5
    clear hb0_0 hb0_1 hb0_2 HAw hW5 HUp HQ HS
    have HMk := Lib.hid (fun z : Since y5.w => make_calls y5.w z rad num den)
    obtain ⟨q5, hq0⟩ := Since.refl y5.w
    rw [hq0]
    clear hq0
    by_cases hmk : 0 ≤ rad ∧ rad ≤ 32 ∧ Right num den
    case neg =>
      have HM2 := Lib.hid (fun z : Since y5.w => show Calls Tryd.prog 24 #[.int .i64 rad, .agg #[.int .i64 num, .int .i64 den]] z.w (fun o w' => o = .returned (.tuple #[.agg #[.slice none 0 0], .int .i64 1]) ∧ ∃ y : Since y5.w, w' = y.w) from by
        have hm : Made y5.w rad num den = fun o w' => o = .returned (.tuple #[.agg #[.slice none 0 0], .int .i64 1]) ∧ ∃ y : Since y5.w, w' = y.w := by funext o w'; unfold Made; rw [if_neg hmk]
        rw [← hm]
        exact HMk.out z)
      clear HMk hmk HP HCk HBa HBb HR1 HRb
      go_upto_region 6 with (go_at_call 24; ((with_reducible refine (HM2.out _).mono ?_); rintro _ _ ⟨rfl, y6, rfl⟩))
      have hn0 : (y6.w.alloc (.cells #[.slice none 0 0] 34)).cell? ⟨y6.w.heap.size, 0, none⟩ = some (.slice none 0 0) := by simp [go_sem]
      have hnf : ∀ o, (y6.w.alloc (.cells #[.slice none 0 0] 34)).frozen? ⟨y6.w.heap.size, o, none⟩ = false := fun o => by simp [go_sem]
      have hlt0 : y6.w.heap.size < (y6.w.alloc (.cells #[.slice none 0 0] 34)).heap.size := by simp
      have hst0 : ∃ zz : Since y6.w, (y6.w.alloc (.cells #[.slice none 0 0] 34)) = zz.w := IsSince.alloc (IsSince.self _) _
      have hsz0 := y6.b.size
      obtain ⟨y7, e2⟩ := IsSince.alloc (IsSince.of y6) (.cells #[.slice none 0 0] 34)
      rw [e2] at hn0 hnf hlt0 hst0 ⊢
      skip
      clear e2 hst0
      generalize y6.w.heap.size = gn at *
      have Hhn0 : ∀ q : Since y7.w, q.w.cell? ⟨gn, 0, none⟩ = some (.slice none 0 0) := fun q => Since.cell hn0 (by omega) q
      have Hhnf : ∀ (q : Since y7.w) (o : Nat), q.w.frozen? ⟨gn, o, none⟩ = false := fun q o => Since.free (hnf o) (by omega) q
      have Hhng := Lib.hid (And.intro hsz0 hlt0)
      clear hlt0 hsz0
      clear HM2 hn0 hnf Hhn0 Hhnf Hhng
      by_cases h1 : E1 = 0
      · have h1' := intrel_eq h1
        clear h1
        go_wp2_with (go_at_call 11; ((with_reducible refine (HAw5.out _).mono ?_); rintro _ _ ⟨rfl, yw, rfl⟩))
        go_ret
        exact ⟨rfl, HUw.out _⟩
      · have h1' := intrel_ne h1
        clear h1
        go_wp2_with (go_at_call 11; ((with_reducible refine (HAw5.out _).mono ?_); rintro _ _ ⟨rfl, yw, rfl⟩))
        go_ret
        exact ⟨rfl, HUw.out _⟩
    case pos =>
    have hN := mkL_good hmk.2.2 (n := rad.toNat + 1) (by omega) (by omega)
    have HM2 := Lib.hid (fun z : Since y5.w => show Calls Tryd.prog 24 #[.int .i64 rad, .agg #[.int .i64 num, .int .i64 den]] z.w (fun o w' => ∃ (an : Option Addr) (cn : Nat) (y : Since y5.w), o = .returned (.tuple #[.agg #[.slice an (mkL num den (rad.toNat + 1)).length cn], .int .i64 0]) ∧ w' = y.w ∧ IntRow y.w an (mkL num den (rad.toNat + 1))) from by
      refine (HMk.out z).mono ?_
      intro o w' hm
      unfold Made at hm
      rw [if_pos hmk] at hm
      obtain ⟨v, rfl, an, cn, rfl, _, y, rfl, hr⟩ := hm
      exact ⟨an, cn, y, rfl, rfl, hr⟩)
    have HAl := Lib.hid (fun (Y T U : Tab) => alike_made (Y := Y) (T := T) (U := U) (m := rad.toNat + 1) ⟨by omega, by omega⟩ hmk.2.2)
    have HcN := Lib.hid (check_good hN)
    have hNl : (mkL num den (rad.toNat + 1)).length ≤ 9223372036854775807 := by rw [mkL_length]; omega
    obtain ⟨N, hNe⟩ : ∃ N, N = mkL num den (rad.toNat + 1) := ⟨_, rfl⟩
    rw [← hNe] at HM2 HAl HcN hNl
    clear HMk hmk hN hNe
    go_upto_region 6 with (go_at_call 24; ((with_reducible refine (HM2.out _).mono ?_); rintro _ _ ⟨an, cn, y6, rfl, rfl, hrn⟩))
    have HN := Lib.hid hrn
    have hn0 : (y6.w.alloc (.cells #[.slice an N.length cn] 34)).cell? ⟨y6.w.heap.size, 0, none⟩ = some (.slice an N.length cn) := by simp [go_sem]
    have hnf : ∀ o, (y6.w.alloc (.cells #[.slice an N.length cn] 34)).frozen? ⟨y6.w.heap.size, o, none⟩ = false := fun o => by simp [go_sem]
    have hlt0 : y6.w.heap.size < (y6.w.alloc (.cells #[.slice an N.length cn] 34)).heap.size := by simp
    have hst0 : ∃ zz : Since y6.w, (y6.w.alloc (.cells #[.slice an N.length cn] 34)) = zz.w := IsSince.alloc (IsSince.self _) _
    have hsz0 := y6.b.size
    obtain ⟨y7, e2⟩ := IsSince.alloc (IsSince.of y6) (.cells #[.slice an N.length cn] 34)
    rw [e2] at hn0 hnf hlt0 hst0 ⊢
    (replace HN := Lib.hid (HN.out.to hst0))
    clear e2 hst0
    generalize y6.w.heap.size = gn at *
    have Hhn0 : ∀ q : Since y7.w, q.w.cell? ⟨gn, 0, none⟩ = some (.slice an N.length cn) := fun q => Since.cell hn0 (by omega) q
    have Hhnf : ∀ (q : Since y7.w) (o : Nat), q.w.frozen? ⟨gn, o, none⟩ = false := fun q o => Since.free (hnf o) (by omega) q
    have Hhng := Lib.hid (And.intro hsz0 hlt0)
    clear hlt0 hsz0
    clear HM2 hn0 hnf Hhnf Hhng hrn
    by_cases h1 : E1 = 0
    case neg =>
      have h1' := intrel_ne h1
      clear h1 HP HCk HBa HBb HR1 HRb
      go_wp2_with (go_at_call 11; ((with_reducible refine (HAw5.out _).mono ?_); rintro _ _ ⟨rfl, yw, rfl⟩))
      go_ret
      exact ⟨rfl, HUw.out _⟩
    case pos =>
    obtain ⟨f1, f2, f3, f4⟩ := HP.out h1
    have k1 := HCk.out.1 h1
    have k2 := HCk.out.2 f1
    obtain ⟨-, -, f5, f6, -⟩ := apE_ok f3
    have h1' := intrel_eq h1
    have f1' := intrel_eq f1
    clear HP HCk h1
    replace hb0_3 := Since.cellTo ⟨y7, rfl⟩ hb0_3
    replace hb0_4 := Since.cellTo ⟨y7, rfl⟩ hb0_4
    replace hb0_5 := Since.cellTo ⟨y7, rfl⟩ hb0_5
    replace hb1_0 := Since.cellTo ⟨y7, rfl⟩ hb1_0
    replace hb1_1 := Since.cellTo ⟨y7, rfl⟩ hb1_1
    replace hb1_2 := Since.cellTo ⟨y7, rfl⟩ hb1_2
    replace hb1_3 := Since.cellTo ⟨y7, rfl⟩ hb1_3
    replace hb1_4 := Since.cellTo ⟨y7, rfl⟩ hb1_4
    replace hb1_5 := Since.cellTo ⟨y7, rfl⟩ hb1_5
    replace HYr := Lib.hid (HYr.out.to ⟨y7, rfl⟩)
    replace HSg := Lib.hid (HSg.out.to ⟨y7, rfl⟩)
    replace HR1 := Lib.hid (HR1.out.to ⟨y7, rfl⟩)
    replace HRb := Lib.hid (HRb.out.to ⟨y7, rfl⟩)
    replace HBa := Lib.hid (HBa.out.since y7)
    replace HBb := Lib.hid (HBb.out.since y7)
    replace HUw := Lib.hid (fun q : Since y7.w => show ∃ z : Since w, q.w = z.w from by obtain ⟨z, e0⟩ := y7.trans q; rw [e0]; exact HUw.out z)
    replace HAw5 := Lib.hid (fun q : Since y7.w => awake_calls y7.w q HSg.out)
    obtain ⟨q7, hq0⟩ := Since.refl y7.w
    rw [hq0]
    clear hq0
    have HAp := Lib.hid (fun z : Since y7.w => apart_calls y7.w z T1 T2 a1 c1 ab cb HR1.out HRb.out (by have := chk_len64 k1; omega) (by have := chk_len64 k2; omega))
    rw [f3] at HAp
    have a0 := fun q : Since y7.w => (HBa.out.since q).c 0 _ rfl
    have a1' := fun q : Since y7.w => (HBa.out.since q).c 1 _ rfl
    have a2 := fun q : Since y7.w => (HBa.out.since q).c 2 _ rfl
    have b0 := fun q : Since y7.w => (HBb.out.since q).c 0 _ rfl
    have b1 := fun q : Since y7.w => (HBb.out.since q).c 1 _ rfl
    have b2 := fun q : Since y7.w => (HBb.out.since q).c 2 _ rfl
    have HF := Lib.hid (And.intro f2 (And.intro f5 (And.intro f6 (And.intro k1 k2))))
    clear f1 f2 f3 f5 f6 k1 k2
    generalize apV T1 T2 = D at *
    have hD : ¬ e < D := by omega
    go_upto_region 11 with (go_at_call 25; ((with_reducible refine (HAp.out _).mono ?_); rintro _ _ ⟨rfl, y8, rfl⟩))
    clear HAp
    go_upto_region 14 with fail
    have hr0 : (y8.w.alloc (.cells #[.int .i64 f, .int .i64 t, .int .i64 e, .int .i64 Y.r, .int .i64 Y.c, .slice ay Y.l.length cy, .slice none 0 0, .slice none 0 0, .slice none 0 0, .slice an N.length cn] 36)).cell? ⟨y8.w.heap.size, 0, none⟩ = some (.int .i64 f) := by simp [go_sem]
    have hr1 : (y8.w.alloc (.cells #[.int .i64 f, .int .i64 t, .int .i64 e, .int .i64 Y.r, .int .i64 Y.c, .slice ay Y.l.length cy, .slice none 0 0, .slice none 0 0, .slice none 0 0, .slice an N.length cn] 36)).cell? ⟨y8.w.heap.size, 1, none⟩ = some (.int .i64 t) := by simp [go_sem]
    have hr2 : (y8.w.alloc (.cells #[.int .i64 f, .int .i64 t, .int .i64 e, .int .i64 Y.r, .int .i64 Y.c, .slice ay Y.l.length cy, .slice none 0 0, .slice none 0 0, .slice none 0 0, .slice an N.length cn] 36)).cell? ⟨y8.w.heap.size, 2, none⟩ = some (.int .i64 e) := by simp [go_sem]
    have hr3 : (y8.w.alloc (.cells #[.int .i64 f, .int .i64 t, .int .i64 e, .int .i64 Y.r, .int .i64 Y.c, .slice ay Y.l.length cy, .slice none 0 0, .slice none 0 0, .slice none 0 0, .slice an N.length cn] 36)).cell? ⟨y8.w.heap.size, 3, none⟩ = some (.int .i64 Y.r) := by simp [go_sem]
    have hr4 : (y8.w.alloc (.cells #[.int .i64 f, .int .i64 t, .int .i64 e, .int .i64 Y.r, .int .i64 Y.c, .slice ay Y.l.length cy, .slice none 0 0, .slice none 0 0, .slice none 0 0, .slice an N.length cn] 36)).cell? ⟨y8.w.heap.size, 4, none⟩ = some (.int .i64 Y.c) := by simp [go_sem]
    have hr5 : (y8.w.alloc (.cells #[.int .i64 f, .int .i64 t, .int .i64 e, .int .i64 Y.r, .int .i64 Y.c, .slice ay Y.l.length cy, .slice none 0 0, .slice none 0 0, .slice none 0 0, .slice an N.length cn] 36)).cell? ⟨y8.w.heap.size, 5, none⟩ = some (.slice ay Y.l.length cy) := by simp [go_sem]
    have hr6 : (y8.w.alloc (.cells #[.int .i64 f, .int .i64 t, .int .i64 e, .int .i64 Y.r, .int .i64 Y.c, .slice ay Y.l.length cy, .slice none 0 0, .slice none 0 0, .slice none 0 0, .slice an N.length cn] 36)).cell? ⟨y8.w.heap.size, 6, none⟩ = some (.slice none 0 0) := by simp [go_sem]
    have hr7 : (y8.w.alloc (.cells #[.int .i64 f, .int .i64 t, .int .i64 e, .int .i64 Y.r, .int .i64 Y.c, .slice ay Y.l.length cy, .slice none 0 0, .slice none 0 0, .slice none 0 0, .slice an N.length cn] 36)).cell? ⟨y8.w.heap.size, 7, none⟩ = some (.slice none 0 0) := by simp [go_sem]
    have hr8 : (y8.w.alloc (.cells #[.int .i64 f, .int .i64 t, .int .i64 e, .int .i64 Y.r, .int .i64 Y.c, .slice ay Y.l.length cy, .slice none 0 0, .slice none 0 0, .slice none 0 0, .slice an N.length cn] 36)).cell? ⟨y8.w.heap.size, 8, none⟩ = some (.slice none 0 0) := by simp [go_sem]
    have hr9 : (y8.w.alloc (.cells #[.int .i64 f, .int .i64 t, .int .i64 e, .int .i64 Y.r, .int .i64 Y.c, .slice ay Y.l.length cy, .slice none 0 0, .slice none 0 0, .slice none 0 0, .slice an N.length cn] 36)).cell? ⟨y8.w.heap.size, 9, none⟩ = some (.slice an N.length cn) := by simp [go_sem]
    have hrf : ∀ o, (y8.w.alloc (.cells #[.int .i64 f, .int .i64 t, .int .i64 e, .int .i64 Y.r, .int .i64 Y.c, .slice ay Y.l.length cy, .slice none 0 0, .slice none 0 0, .slice none 0 0, .slice an N.length cn] 36)).frozen? ⟨y8.w.heap.size, o, none⟩ = false := fun o => by simp [go_sem]
    have hlt0 : y8.w.heap.size < (y8.w.alloc (.cells #[.int .i64 f, .int .i64 t, .int .i64 e, .int .i64 Y.r, .int .i64 Y.c, .slice ay Y.l.length cy, .slice none 0 0, .slice none 0 0, .slice none 0 0, .slice an N.length cn] 36)).heap.size := by simp
    have hst0 : ∃ zz : Since y8.w, (y8.w.alloc (.cells #[.int .i64 f, .int .i64 t, .int .i64 e, .int .i64 Y.r, .int .i64 Y.c, .slice ay Y.l.length cy, .slice none 0 0, .slice none 0 0, .slice none 0 0, .slice an N.length cn] 36)) = zz.w := IsSince.alloc (IsSince.self _) _
    have hsz0 := y8.b.size
    obtain ⟨y9, e2⟩ := IsSince.alloc (IsSince.of y8) (.cells #[.int .i64 f, .int .i64 t, .int .i64 e, .int .i64 Y.r, .int .i64 Y.c, .slice ay Y.l.length cy, .slice none 0 0, .slice none 0 0, .slice none 0 0, .slice an N.length cn] 36)
    rw [e2] at hr0 hr1 hr2 hr3 hr4 hr5 hr6 hr7 hr8 hr9 hrf hlt0 hst0 ⊢
    skip
    clear e2 hst0
    generalize y8.w.heap.size = gr at *
    have Hhr0 : ∀ q : Since y9.w, q.w.cell? ⟨gr, 0, none⟩ = some (.int .i64 f) := fun q => Since.cell hr0 (by omega) q
    have Hhr1 : ∀ q : Since y9.w, q.w.cell? ⟨gr, 1, none⟩ = some (.int .i64 t) := fun q => Since.cell hr1 (by omega) q
    have Hhr2 : ∀ q : Since y9.w, q.w.cell? ⟨gr, 2, none⟩ = some (.int .i64 e) := fun q => Since.cell hr2 (by omega) q
    have Hhr3 : ∀ q : Since y9.w, q.w.cell? ⟨gr, 3, none⟩ = some (.int .i64 Y.r) := fun q => Since.cell hr3 (by omega) q
    have Hhr4 : ∀ q : Since y9.w, q.w.cell? ⟨gr, 4, none⟩ = some (.int .i64 Y.c) := fun q => Since.cell hr4 (by omega) q
    have Hhr5 : ∀ q : Since y9.w, q.w.cell? ⟨gr, 5, none⟩ = some (.slice ay Y.l.length cy) := fun q => Since.cell hr5 (by omega) q
    have Hhr6 : ∀ q : Since y9.w, q.w.cell? ⟨gr, 6, none⟩ = some (.slice none 0 0) := fun q => Since.cell hr6 (by omega) q
    have Hhr7 : ∀ q : Since y9.w, q.w.cell? ⟨gr, 7, none⟩ = some (.slice none 0 0) := fun q => Since.cell hr7 (by omega) q
    have Hhr8 : ∀ q : Since y9.w, q.w.cell? ⟨gr, 8, none⟩ = some (.slice none 0 0) := fun q => Since.cell hr8 (by omega) q
    have Hhr9 : ∀ q : Since y9.w, q.w.cell? ⟨gr, 9, none⟩ = some (.slice an N.length cn) := fun q => Since.cell hr9 (by omega) q
    have Hhrf : ∀ (q : Since y9.w) (o : Nat), q.w.frozen? ⟨gr, o, none⟩ = false := fun q o => Since.free (hrf o) (by omega) q
    have Hhrg := Lib.hid (And.intro hsz0 hlt0)
    clear hlt0 hsz0
    clear hr0 hr1 hr2 hr3 hr4 hr5 hr6 hr7 hr8 hr9 hrf Hhrf Hhrg hD a0 a1' a2 b0 b1 b2 h1' f1' hb0_3 hb1_0 hb1_3 hb1_4 hb1_5
    replace hb0_4 := Since.cellTo ⟨y9, rfl⟩ hb0_4
    replace hb0_5 := Since.cellTo ⟨y9, rfl⟩ hb0_5
    replace hb1_1 := Since.cellTo ⟨y9, rfl⟩ hb1_1
    replace hb1_2 := Since.cellTo ⟨y9, rfl⟩ hb1_2
    replace HYr := Lib.hid (HYr.out.to ⟨y9, rfl⟩)
    replace HSg := Lib.hid (HSg.out.to ⟨y9, rfl⟩)
    replace HR1 := Lib.hid (HR1.out.to ⟨y9, rfl⟩)
    replace HRb := Lib.hid (HRb.out.to ⟨y9, rfl⟩)
    replace HN := Lib.hid (HN.out.to ⟨y9, rfl⟩)
    replace HBa := Lib.hid (HBa.out.since y9)
    replace HBb := Lib.hid (HBb.out.since y9)
    replace HUw := Lib.hid (fun q : Since y9.w => show ∃ z : Since w, q.w = z.w from by obtain ⟨z, e0⟩ := y9.trans q; rw [e0]; exact HUw.out z)
    replace HAw5 := Lib.hid (fun q : Since y9.w => awake_calls y9.w q HSg.out)
    obtain ⟨q9, hq0⟩ := Since.refl y9.w
    rw [hq0]
    clear hq0
    have HC1 := Lib.hid (fun z : Since y9.w => chances_calls y9.w z HSg.out f t e Y T1 N ay none none none an a1 cy 0 0 0 0 0 0 cn c1 HYr.out HN.out HR1.out hyl hNl (by have := chk_len64 HF.out.2.2.2.1; omega))
    have a0 := fun q : Since y9.w => (HBa.out.since q).c 0 _ rfl
    have a1' := fun q : Since y9.w => (HBa.out.since q).c 1 _ rfl
    have a2 := fun q : Since y9.w => (HBa.out.since q).c 2 _ rfl
    go_upto_region 15 with (go_at_call 16; ((with_reducible refine (HC1.out _).mono ?_); rintro _ _ ⟨ac, cc, y10, rfl, rfl, hcc⟩))
    have HVa := Lib.hid hcc
    clear HC1 hcc a0 a1' a2
    replace hb0_4 := Since.cellTo ⟨y10, rfl⟩ hb0_4
    replace hb0_5 := Since.cellTo ⟨y10, rfl⟩ hb0_5
    replace hb1_1 := Since.cellTo ⟨y10, rfl⟩ hb1_1
    replace hb1_2 := Since.cellTo ⟨y10, rfl⟩ hb1_2
    replace Hhr0 := Since.cellTo ⟨y10, rfl⟩ Hhr0
    replace Hhr1 := Since.cellTo ⟨y10, rfl⟩ Hhr1
    replace Hhr2 := Since.cellTo ⟨y10, rfl⟩ Hhr2
    replace Hhr3 := Since.cellTo ⟨y10, rfl⟩ Hhr3
    replace Hhr4 := Since.cellTo ⟨y10, rfl⟩ Hhr4
    replace Hhr5 := Since.cellTo ⟨y10, rfl⟩ Hhr5
    replace Hhr6 := Since.cellTo ⟨y10, rfl⟩ Hhr6
    replace Hhr7 := Since.cellTo ⟨y10, rfl⟩ Hhr7
    replace Hhr8 := Since.cellTo ⟨y10, rfl⟩ Hhr8
    replace Hhr9 := Since.cellTo ⟨y10, rfl⟩ Hhr9
    replace HYr := Lib.hid (HYr.out.to ⟨y10, rfl⟩)
    replace HSg := Lib.hid (HSg.out.to ⟨y10, rfl⟩)
    replace HR1 := Lib.hid (HR1.out.to ⟨y10, rfl⟩)
    replace HRb := Lib.hid (HRb.out.to ⟨y10, rfl⟩)
    replace HN := Lib.hid (HN.out.to ⟨y10, rfl⟩)
    replace HBa := Lib.hid (HBa.out.since y10)
    replace HBb := Lib.hid (HBb.out.since y10)
    replace HUw := Lib.hid (fun q : Since y10.w => show ∃ z : Since w, q.w = z.w from by obtain ⟨z, e0⟩ := y10.trans q; rw [e0]; exact HUw.out z)
    replace HAw5 := Lib.hid (fun q : Since y10.w => awake_calls y10.w q HSg.out)
    obtain ⟨q10, hq0⟩ := Since.refl y10.w
    rw [hq0]
    clear hq0
    have HC2 := Lib.hid (fun z : Since y10.w => chances_calls y10.w z HSg.out f t e Y T2 N ay none none none an ab cy 0 0 0 0 0 0 cn cb HYr.out HN.out HRb.out hyl hNl (by have := chk_len64 HF.out.2.2.2.2; omega))
    have b0 := fun q : Since y10.w => (HBb.out.since q).c 0 _ rfl
    have b1 := fun q : Since y10.w => (HBb.out.since q).c 1 _ rfl
    have b2 := fun q : Since y10.w => (HBb.out.since q).c 2 _ rfl
    go_upto_region 16 with (go_at_call 16; ((with_reducible refine (HC2.out _).mono ?_); rintro _ _ ⟨ak, ck, y11, rfl, rfl, hck⟩))
    have HVb := Lib.hid hck
    clear HC2 hck b0 b1 b2
    replace hb0_4 := Since.cellTo ⟨y11, rfl⟩ hb0_4
    replace hb0_5 := Since.cellTo ⟨y11, rfl⟩ hb0_5
    replace hb1_1 := Since.cellTo ⟨y11, rfl⟩ hb1_1
    replace hb1_2 := Since.cellTo ⟨y11, rfl⟩ hb1_2
    replace Hhr0 := Since.cellTo ⟨y11, rfl⟩ Hhr0
    replace Hhr1 := Since.cellTo ⟨y11, rfl⟩ Hhr1
    replace Hhr2 := Since.cellTo ⟨y11, rfl⟩ Hhr2
    replace Hhr3 := Since.cellTo ⟨y11, rfl⟩ Hhr3
    replace Hhr4 := Since.cellTo ⟨y11, rfl⟩ Hhr4
    replace Hhr5 := Since.cellTo ⟨y11, rfl⟩ Hhr5
    replace Hhr6 := Since.cellTo ⟨y11, rfl⟩ Hhr6
    replace Hhr7 := Since.cellTo ⟨y11, rfl⟩ Hhr7
    replace Hhr8 := Since.cellTo ⟨y11, rfl⟩ Hhr8
    replace Hhr9 := Since.cellTo ⟨y11, rfl⟩ Hhr9
    replace HYr := Lib.hid (HYr.out.to ⟨y11, rfl⟩)
    replace HSg := Lib.hid (HSg.out.to ⟨y11, rfl⟩)
    replace HR1 := Lib.hid (HR1.out.to ⟨y11, rfl⟩)
    replace HRb := Lib.hid (HRb.out.to ⟨y11, rfl⟩)
    replace HN := Lib.hid (HN.out.to ⟨y11, rfl⟩)
    replace HVa := Lib.hid (HVa.out.to ⟨y11, rfl⟩)
    replace HBa := Lib.hid (HBa.out.since y11)
    replace HBb := Lib.hid (HBb.out.since y11)
    replace HUw := Lib.hid (fun q : Since y11.w => show ∃ z : Since w, q.w = z.w from by obtain ⟨z, e0⟩ := y11.trans q; rw [e0]; exact HUw.out z)
    replace HAw5 := Lib.hid (fun q : Since y11.w => awake_calls y11.w q HSg.out)
    obtain ⟨q11, hq0⟩ := Since.refl y11.w
    rw [hq0]
    clear hq0
    have hEE := chE_same (Y := Y) (N := N) HF.out.2.2.2.1 HF.out.2.2.2.2 HF.out.2.1 HF.out.2.2.1
    rw [hEE]
    by_cases hE : chE Y T1 N = 0
    case neg =>
      have hE' := intrel_ne hE
      clear hE hEE
      generalize chE Y T1 N = EC at *
      go_wp2_with (go_at_call 11; ((with_reducible refine (HAw5.out _).mono ?_); rintro _ _ ⟨rfl, yw, rfl⟩))
      go_ret
      exact ⟨rfl, HUw.out _⟩
    case pos =>
    obtain ⟨v1, v2⟩ := chV_at hE
    obtain ⟨v3, v4⟩ := chV_at (hEE.trans hE)
    have HAlk := Lib.hid (fun hc => HAl.out Y T1 T2 hE (hEE.trans hE) hc)
    have HL := Lib.hid (fun hc : alB Y T1 T2 N num den = true => fun z : Since y11.w => show Calls Tryd.prog 19 #[.agg #[.int .i64 f, .int .i64 t, .int .i64 e, .int .i64 Y.r, .int .i64 Y.c, .slice ay Y.l.length cy, .slice none 0 0, .slice none 0 0, .slice none 0 0, .slice an N.length cn], .agg #[.int .i64 T1.r, .int .i64 T1.c, .slice a1 T1.l.length c1], .agg #[.int .i64 T2.r, .int .i64 T2.c, .slice ab T2.l.length cb], .agg #[.int .i64 num, .int .i64 den]] z.w (fun o w' => o = .returned (.bool true) ∧ ∃ y : Since y11.w, w' = y.w) from hc ▸ alike_calls y11.w z HSg.out f t e Y T1 T2 N num den ay none none none an a1 ab cy 0 0 0 0 0 0 cn c1 cb HYr.out HN.out HR1.out HRb.out hyl hNl (by have := chk_len64 HF.out.2.2.2.1; omega) (by have := chk_len64 HF.out.2.2.2.2; omega))
    rw [hE, v1, v3]
    have Hv1 := Lib.hid v1; have Hv2 := Lib.hid v2; have Hv3 := Lib.hid v3; have Hv4 := Lib.hid v4
    have HF1 := Lib.hid HF.out.1
    have Hc1 := Lib.hid (chk_inv HF.out.2.2.2.1).2.2.2
    have Hc2 := Lib.hid (chk_inv HF.out.2.2.2.2).2.2.2
    have hl64 := chk_len64 HF.out.2.2.2.1
    have t18 : ((T1.l.length : Int) != (T2.l.length : Int)) = false := intrel_eq (by rw [HF.out.1])
    have a2 := fun q : Since y11.w => (HBa.out.since q).c 2 _ rfl
    have b2 := fun q : Since y11.w => (HBb.out.since q).c 2 _ rfl
    clear hE hEE v1 v2 v3 v4 HAl HF
    go_upto_region 21 with fail
    clear t18
    go_loopw [22] (fun si wr => ∃ (k : Nat) (y : Since y11.w), k ≤ T1.l.length ∧ si = .int .i64 (k : Int) ∧ wr = y.w ∧ ∀ j, j < k → 0 < weight N (at0 Y.l j - at0 T1.l j) ∧ 0 < weight N (at0 Y.l j - at0 T2.l j) ∧ at0 T1.l j - at0 T2.l j ≤ 3 ∧ at0 T2.l j - at0 T1.l j ≤ 3) (fun si _ => T1.l.length - (intOf si).toNat)
    case atStart => exact ⟨0, q11, by omega, rfl, rfl, fun j hj => by omega⟩
    case round =>
      obtain ⟨k, y, hk, rfl, rfl, hn⟩ := hrel
      have Hn := Lib.hid hn
      clear hn
      by_cases hlt : k < T1.l.length
      · have hk0 : (0 : Int) ≤ (k : Int) := by omega
        have hkl : (k : Int) < (T1.l.length : Int) := by omega
        have hku : (k : Int) < (T2.l.length : Int) := by have := HF1.out; omega
        obtain ⟨g1, o1, rfl, hb1, hc1⟩ := HVa.out k (by rw [Hv1.out]; exact hlt)
        have p1 : ∀ q : Since y11.w, q.w.cell? ⟨g1, o1 + k, none⟩ = some (.int .i64 (at0 (chV Y T1 N) k)) := fun q => Since.cell hc1 hb1 q
        obtain ⟨g2, o2, rfl, hb2, hc2⟩ := HVb.out k (by rw [Hv3.out, HF1.out]; exact hlt)
        have p2 : ∀ q : Since y11.w, q.w.cell? ⟨g2, o2 + k, none⟩ = some (.int .i64 (at0 (chV Y T2 N) k)) := fun q => Since.cell hc2 hb2 q
        obtain ⟨g3, o3, rfl, hb3, hc3⟩ := HR1.out k hlt
        have p3 : ∀ q : Since y11.w, q.w.cell? ⟨g3, o3 + k, none⟩ = some (.int .i64 (at0 T1.l k)) := fun q => Since.cell hc3 hb3 q
        obtain ⟨g4, o4, rfl, hb4, hc4⟩ := HRb.out k (by rw [HF1.out]; exact hlt)
        have p4 : ∀ q : Since y11.w, q.w.cell? ⟨g4, o4 + k, none⟩ = some (.int .i64 (at0 T2.l k)) := fun q => Since.cell hc4 hb4 q
        rw [Hv2.out k hlt] at p1
        rw [Hv4.out k (by rw [HF1.out]; exact hlt)] at p2
        clear hb1 hc1 hb2 hc2 hb3 hc3 hb4 hc4
        obtain ⟨u1, u2⟩ := Hc1.out k hlt
        obtain ⟨u3, u4⟩ := Hc2.out k (by rw [HF1.out]; exact hlt)
        have Hst := Lib.hid (fun (h : 0 < weight N (at0 Y.l k - at0 T1.l k) ∧ 0 < weight N (at0 Y.l k - at0 T2.l k) ∧ at0 T1.l k - at0 T2.l k ≤ 3 ∧ at0 T2.l k - at0 T1.l k ≤ 3) j (hj : j < k + 1) => show 0 < weight N (at0 Y.l j - at0 T1.l j) ∧ 0 < weight N (at0 Y.l j - at0 T2.l j) ∧ at0 T1.l j - at0 T2.l j ≤ 3 ∧ at0 T2.l j - at0 T1.l j ≤ 3 from by
          by_cases e : j = k
          · rw [e]; exact h
          · exact Hn.out j (by omega))
        generalize weight N (at0 Y.l k - at0 T1.l k) = wa at *
        generalize weight N (at0 Y.l k - at0 T2.l k) = wb at *
        generalize at0 T1.l k = ea at *
        generalize at0 T2.l k = eb at *
        have ws1 : IntKind.i64.wrap (ea - eb) = ea - eb := IntWalk.i64_in _ (by omega)
        have ws2 : IntKind.i64.wrap (eb - ea) = eb - ea := IntWalk.i64_in _ (by omega)
        replace p1 := Since.cellTo ⟨y, rfl⟩ p1
        replace p2 := Since.cellTo ⟨y, rfl⟩ p2
        replace p3 := Since.cellTo ⟨y, rfl⟩ p3
        replace p4 := Since.cellTo ⟨y, rfl⟩ p4
        replace a2 := Since.cellTo ⟨y, rfl⟩ a2
        replace b2 := Since.cellTo ⟨y, rfl⟩ b2
        have HT := Lib.hid (fun z : Since y.w => show ∃ q : Since y11.w, z.w = q.w from y.trans z)
        clear Hn HL HAlk HVa HVb HR1 HRb Hv1 Hv2 Hv3 Hv4 Hc1 Hc2 HBa HBb
        change Code.wp _ _ _ _ (Since.self y.w).w
        have hx : wa ≤ 0 ∨ (0 < wa ∧ wb ≤ 0) ∨ (0 < wa ∧ 0 < wb ∧ 3 < ea - eb) ∨ (0 < wa ∧ 0 < wb ∧ ea - eb ≤ 3 ∧ 3 < eb - ea) ∨ (0 < wa ∧ 0 < wb ∧ ea - eb ≤ 3 ∧ eb - ea ≤ 3) := by omega
        rcases hx with h1 | ⟨h1, h2⟩ | ⟨h1, h2, h3⟩ | ⟨h1, h2, h3, h4⟩ | ⟨h1, h2, h3, h4⟩
        case inr.inr.inr.inr =>
          have Hs2 := Lib.hid (Hst.out ⟨h1, h2, h3, h4⟩)
          have d1 : decide (wa ≤ 0) = false := decide_eq_false (by omega)
          have d2 : decide (wb ≤ 0) = false := decide_eq_false (by omega)
          have d3 : decide (3 < ea - eb) = false := decide_eq_false (by omega)
          have d4 : decide (3 < eb - ea) = false := decide_eq_false (by omega)
          clear h1 h2 h3 h4 Hst u1 u2 u3 u4
          go_upto_region 23 with fail
          refine wp_region_since (by kernel_rfl) (by kernel_rfl) ?_
          repeat (go_big_quiet_step (fail))
          refine wpQuiet_nil ?_
          rintro _ ⟨z, rfl⟩
          obtain ⟨z2, e2⟩ := HT.out z
          rw [e2]
          go_wp2_with fail
          go_roundw
          case rel => exact ⟨k + 1, z2, by omega, by go_num, rfl, Hs2.out⟩
          case measure => simp [intOf] <;> omega
        all_goals
          first
            | (have d1 : decide (wa ≤ 0) = true := decide_eq_true (by omega))
            | (have d1 : decide (wa ≤ 0) = false := decide_eq_false (by omega); first
                | (have d2 : decide (wb ≤ 0) = true := decide_eq_true (by omega))
                | (have d2 : decide (wb ≤ 0) = false := decide_eq_false (by omega); first
                    | (have d3 : decide (3 < ea - eb) = true := decide_eq_true (by omega))
                    | (have d3 : decide (3 < ea - eb) = false := decide_eq_false (by omega); have d4 : decide (3 < eb - ea) = true := decide_eq_true (by omega))))
          clear Hst u1 u2 u3 u4
          go_upto_region 23 with fail
          refine wp_region_since (by kernel_rfl) (by kernel_rfl) ?_
          repeat (go_big_quiet_step (fail))
          refine wpQuiet_nil ?_
          rintro _ ⟨z, rfl⟩
          obtain ⟨z2, e2⟩ := HT.out z
          rw [e2]
          go_wp2_with (go_at_call 11; ((with_reducible refine (HAw5.out _).mono ?_); rintro _ _ ⟨rfl, yw, rfl⟩))
          go_ret
          exact ⟨rfl, HUw.out _⟩
      · obtain rfl : k = T1.l.length := by omega
        have HL2 := Lib.hid (HL.out (HAlk.out Hn.out))
        have a0 := fun q : Since y11.w => (HBa.out.since q).c 0 _ rfl
        have a1' := fun q : Since y11.w => (HBa.out.since q).c 1 _ rfl
        have b0 := fun q : Since y11.w => (HBb.out.since q).c 0 _ rfl
        have b1 := fun q : Since y11.w => (HBb.out.since q).c 1 _ rfl
        clear HL HAlk Hn
        go_wp2_with (first | (go_at_call 19; ((with_reducible refine (HL2.out _).mono ?_); rintro _ _ ⟨rfl, yl, rfl⟩)) | (go_at_call 11; ((with_reducible refine (HAw5.out _).mono ?_); rintro _ _ ⟨rfl, yw, rfl⟩)))
        go_ret
        exact ⟨rfl, HUw.out _⟩
end Go.Proofs.YtdkcclngionihaaDoor
