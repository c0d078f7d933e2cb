/- The walks of noise, seventh part: Make. -/
import Derived.Test.YtmobdlddfoaocaaDoorNzW6
import Derived.Test.YtmobdlddfoaocaaDoorReg
namespace Go.Proofs.YtmobdlddfoaocaaDoor
open Go.RowKit

theorem ints : SliceOf Tryd.prog 22 3 (.int .i64 0) 1 8 := SliceOf.mk' (by kernel_rfl) (by kernel_rfl) rfl (by decide)

theorem map_at {l : List Int} {n i : Nat} (hn : l.length = n) (h : i < n) : (l.map (Value.int .i64)).getD i undef = .int .i64 (at0 l i) := by
  unfold at0
  simp [List.getD_eq_getElem?_getD, List.getElem?_map, List.getElem?_eq_getElem (show i < l.length by omega)]
/-- new numbers in memory -/
def NewInts (w0 : World) (l : List Int) (v : Value) (w' : World) : Prop := ∃ a cap, v = .slice a l.length cap ∧ l.length ≤ cap ∧ ∃ y : Since w0, w' = y.w ∧ IntRow y.w a l
/-- what Make gives back -/
instance (num den : Int) : Decidable (Right num den) := by unfold Right; infer_instance
def Made (w0 : World) (r num den : Int) (e : Ending) (w' : World) : Prop :=
  if 0 ≤ r ∧ r ≤ 32 ∧ Right num den then ∃ v, e = .returned (.tuple #[.agg #[v], .int .i64 0]) ∧ NewInts w0 (mkL num den (r.toNat + 1)) v w'
  else e = .returned (.tuple #[.agg #[.slice none 0 0], .int .i64 1]) ∧ ∃ y : Since w0, w' = y.w

set_option maxHeartbeats 1000000 in
theorem make_calls (w : World) (x : Since w) (r num den : Int) :
    Calls Tryd.prog 22 #[.int .i64 r, .agg #[.int .i64 num, .int .i64 den]] x.w (Made w r num den) := by
  by_cases hok : 0 ≤ r ∧ r ≤ 32 ∧ Right num den
  · have hm : Made w r num den = fun e w' => ∃ v, e = .returned (.tuple #[.agg #[v], .int .i64 0]) ∧ NewInts w (mkL num den (r.toNat + 1)) v w' := by funext e w'; unfold Made; rw [if_pos hok]
    obtain ⟨r0, r1, hR⟩ := hok
    obtain ⟨n, rfl⟩ : ∃ n : Nat, r = n := ⟨r.toNat, by omega⟩
    have hrb := rightB_yes hR
    have HR := Lib.hid hR
    obtain ⟨q0, q1, q2⟩ := hR
    have HM := Lib.hid hm; clear hm
    go_enter Tryd.func22, Tryd.ntmps22
    go_upto_region 1 with fail
    have hb0_0 : ∀ y : Since ((x.w.alloc (.cells #[.int .i64 num, .int .i64 den] 34)).alloc (.cells #[.slice none 0 0] 24)), y.w.cell? ⟨x.w.heap.size, 0, none⟩ = some (.int .i64 num) := fun y => Since.cell (by simp [go_sem]) (by first | (simp; done) | (simp; omega)) y
    have hb0_1 : ∀ y : Since ((x.w.alloc (.cells #[.int .i64 num, .int .i64 den] 34)).alloc (.cells #[.slice none 0 0] 24)), y.w.cell? ⟨x.w.heap.size, 1, none⟩ = some (.int .i64 den) := fun y => Since.cell (by simp [go_sem]) (by first | (simp; done) | (simp; omega)) y
    have hf0 : ∀ (y : Since ((x.w.alloc (.cells #[.int .i64 num, .int .i64 den] 34)).alloc (.cells #[.slice none 0 0] 24))) (o : Nat), y.w.frozen? ⟨x.w.heap.size, o, none⟩ = false := fun y o => Since.free (by simp [go_sem]) (by first | (simp; done) | (simp; omega)) y
    have hb1_0 : ∀ y : Since ((x.w.alloc (.cells #[.int .i64 num, .int .i64 den] 34)).alloc (.cells #[.slice none 0 0] 24)), y.w.cell? ⟨x.w.heap.size + 1, 0, none⟩ = some (.slice none 0 0) := fun y => Since.cell (by simp [go_sem]) (by first | (simp; done) | (simp; omega)) y
    have hf1 : ∀ (y : Since ((x.w.alloc (.cells #[.int .i64 num, .int .i64 den] 34)).alloc (.cells #[.slice none 0 0] 24))) (o : Nat), y.w.frozen? ⟨x.w.heap.size + 1, o, none⟩ = false := fun y o => Since.free (by simp [go_sem]) (by first | (simp; done) | (simp; omega)) y
    have hWup : ∃ z : Since w, ((x.w.alloc (.cells #[.int .i64 num, .int .i64 den] 34)).alloc (.cells #[.slice none 0 0] 24)) = z.w := Since.allocs x [.cells #[.int .i64 num, .int .i64 den] 34, .cells #[.slice none 0 0] 24]
    obtain ⟨y0, hy0⟩ := Since.refl ((x.w.alloc (.cells #[.int .i64 num, .int .i64 den] 34)).alloc (.cells #[.slice none 0 0] 24))
    have Hbx := Lib.hid (And.intro x.b.size (show x.w.heap.size + 2 = ((x.w.alloc (.cells #[.int .i64 num, .int .i64 den] 34)).alloc (.cells #[.slice none 0 0] 24)).heap.size from by simp))
    generalize hW : ((x.w.alloc (.cells #[.int .i64 num, .int .i64 den] 34)).alloc (.cells #[.slice none 0 0] 24)) = W at *
    clear hW
    generalize x.w.heap.size = bx at *
    have Hup := Lib.hid (Since.up hWup)
    rw [hy0]
    clear hy0
    clear hWup
    go_wp2_with fail
    refine (right_calls W _ num den).mono ?_
    rintro _ _ ⟨rfl, y, rfl⟩
    go_wp2_with fail
    have hown0 := own_new y.w W.heap.size y.b.size 3 [.int .i64 16777216] (by unfold maxLen; decide)
    obtain ⟨y1, hy1⟩ := y.alloc (.cells #[.int .i64 16777216] 3)
    simp only [List.length_cons, List.length_nil, Nat.zero_add] at hown0
    rw [hy1] at hown0
    rw [hy1]
    generalize y.w.heap.size = g at *
    clear hy1
    go_loopw [6, 22] (fun v i wr => ∃ k : Nat, k ≤ n ∧ i = .int .i64 k ∧ ∃ y : Since W, wr = y.w ∧ y.w.ownsRow W.heap.size 3 1 v (k + 1) ((mkL num den (k + 1)).map (.int .i64))) (fun _ i _ => n - (intOf i).toNat)
    case atStart => exact ⟨0, by omega, rfl, _, rfl, hown0⟩
    case round =>
      obtain ⟨k, hk, rfl, y, rfl, hown⟩ := hrel
      by_cases hlt : k < n
      · obtain ⟨a, cap, rfl, hcap, hrow, hbase⟩ := own_row hown
        have hown' := Lib.hid hown; clear hown
        obtain ⟨b, off, rfl, _, hc⟩ := hrow k (by omega)
        have hcell : y.w.cell? ⟨b, off + k, none⟩ = some (.int .i64 (mk num den k)) := by
          rw [hc]; show some ((List.map _ _).getD k undef) = _; rw [map_at (mkL_length _ _ _) (by omega), mkL_at (by omega)]
        have hmb := mk_bd HR.out k
        have hmm := mk_mul_bd HR.out k
        have hcq : ∀ q : Since y.w, q.w.cell? ⟨b, off + k, none⟩ = some (.int .i64 (mk num den k)) := fun q => Since.cell hcell (hrow.two k (by omega)).1 q
        have h00 : ∀ q : Since y.w, q.w.cell? ⟨bx, 0, none⟩ = some (.int .i64 num) := fun q => by obtain ⟨z, e⟩ := y.trans q; rw [e]; exact hb0_0 z
        have h01 : ∀ q : Since y.w, q.w.cell? ⟨bx, 1, none⟩ = some (.int .i64 den) := fun q => by obtain ⟨z, e⟩ := y.trans q; rw [e]; exact hb0_1 z
        have hdiv := Lib.hid (show (mk num den k * den + num - 1) / num = mk num den (k + 1) from rfl)
        clear hc hrow hcell
        go_upto_region 7 with fail
        refine wp_region_tail (fun w' => ∃ q : Since (y.w), w' = q.w) [0] [1, 2, 3, 4, 5, 6, 7, 8, 9, 10, 11, 12, 13, 14] 15 (by kernel_rfl) (by kernel_rfl) (fun _ _ _ _ _ h => h) (Since.drawn _) ?_
        simp only [List.cons_append, List.nil_append, picks_cons, picks_nil, List.getD_cons_zero, List.getD_cons_succ]
        repeat (go_big_quiet_step (fail))
        refine wpQuiet_nil ?_
        rintro _ ⟨q, rfl⟩
        simp only [List.drop_succ_cons, List.drop_zero]
        go_wp2_with (at_builtin; (refine wpList_append1 (w0 := W) ?hw rfl _ _ 22 rfl W.heap.size (Nat.le_refl _) ?hb 3 (.int .i64 0) 8 ints (.slice (some ⟨b, off, none⟩) (k + 1) cap) (k + 1) ((mkL num den (k + 1)).map (Value.int .i64)) rfl ?hown (.int .i64 (mk num den (k + 1))) rfl ⟨q.w.heap.size, 0, none⟩ 1 rfl ?hc ?h63 ?hbytes ?_; rotate_right 1; intro v2 q2 hown2 _))
        case hw => obtain ⟨z, e⟩ := y.trans q; rw [e]; exact z.alloc _
        case hb => have := y.b.size; have := q.b.size; simp; omega
        case hown => exact own_since (own_since hown'.out q.b) (below_new _ _)
        case hc => rw [hdiv.out]; simp [go_sem]
        case h63 => unfold maxLen; omega
        case hbytes => omega
        have hown3 := Lib.hid hown2; clear hown2
        go_roundw
        case rel => exact ⟨k + 1, by omega, by go_num, q2, rfl, by rw [mkL_succ]; simpa using hown3.out⟩
        case measure => simp [intOf]; omega
      · obtain rfl : k = n := by omega
        obtain ⟨a, cap, rfl, hcap, hrow, hbase⟩ := own_row hown
        have hz : ∃ z : Since w, y.w.setCell ⟨bx + 1, 0, none⟩ (.slice a (k + 1) cap) = z.w := by
          obtain ⟨z, e⟩ := Hup.out y; rw [e]; exact z.set _ (by have := Hbx.out; simp; omega) _
        have h10 := hb1_0 y
        have hf1' := hf1 y 0
        go_wp2_with fail
        rw [HM.out]
        have hres : (y.w.setCell ⟨bx + 1, 0, none⟩ (.slice a (k + 1) cap)).cell? ⟨bx + 1, 0, none⟩ = some (.slice a (k + 1) cap) := World.cell?_setCell_same _ _ _ h10
        refine bodyPost_ret (v := .tuple #[.agg #[.slice a (k + 1) cap], .int .i64 0]) (by simp [results, Tryd.results22, go_sem, hres]) rfl ?_
        refine ⟨.slice a (k + 1) cap, rfl, a, cap, by rw [mkL_length]; simp, by rw [mkL_length]; simpa using hcap, ?_⟩
        obtain ⟨z, e⟩ := hz
        refine ⟨z, e, ?_⟩
        rw [← e]
        have hr2 := hrow.set ⟨bx + 1, 0, none⟩ (.slice a (k + 1) cap) (fun b hb => by have := hbase b hb; have := Hbx.out; simp; omega)
        intro i hi
        rw [mkL_length] at hi
        have hi' : i < k + 1 := by simpa using hi
        obtain ⟨b, off, ha, hlt, hc⟩ := hr2 i hi'
        refine ⟨b, off, ha, hlt, ?_⟩
        rw [hc]
        show some ((List.map _ _).getD i undef) = some (Value.int .i64 (at0 _ i))
        rw [map_at (mkL_length _ _ _) hi']
        simp
  · have hm : Made w r num den = fun e w' => e = .returned (.tuple #[.agg #[.slice none 0 0], .int .i64 1]) ∧ ∃ y : Since w, w' = y.w := by funext e w'; unfold Made; rw [if_neg hok]
    have HM := Lib.hid hm; clear hm
    have hc : (r < 0) ∨ (0 ≤ r ∧ 32 < r) ∨ (0 ≤ r ∧ r ≤ 32 ∧ rightB num den = false) := by
      by_cases h0 : r < 0
      · exact .inl h0
      · by_cases h1 : 32 < r
        · exact .inr (.inl ⟨by omega, h1⟩)
        · exact .inr (.inr ⟨by omega, by omega, rightB_no fun h => hok ⟨by omega, by omega, h⟩⟩)
    clear hok
    go_enter Tryd.func22, Tryd.ntmps22
    go_upto_region 1 with fail
    have hb0_0 : ∀ y : Since ((x.w.alloc (.cells #[.int .i64 num, .int .i64 den] 34)).alloc (.cells #[.slice none 0 0] 24)), y.w.cell? ⟨x.w.heap.size, 0, none⟩ = some (.int .i64 num) := fun y => Since.cell (by simp [go_sem]) (by first | (simp; done) | (simp; omega)) y
    have hb0_1 : ∀ y : Since ((x.w.alloc (.cells #[.int .i64 num, .int .i64 den] 34)).alloc (.cells #[.slice none 0 0] 24)), y.w.cell? ⟨x.w.heap.size, 1, none⟩ = some (.int .i64 den) := fun y => Since.cell (by simp [go_sem]) (by first | (simp; done) | (simp; omega)) y
    have hf0 : ∀ (y : Since ((x.w.alloc (.cells #[.int .i64 num, .int .i64 den] 34)).alloc (.cells #[.slice none 0 0] 24))) (o : Nat), y.w.frozen? ⟨x.w.heap.size, o, none⟩ = false := fun y o => Since.free (by simp [go_sem]) (by first | (simp; done) | (simp; omega)) y
    have hb1_0 : ∀ y : Since ((x.w.alloc (.cells #[.int .i64 num, .int .i64 den] 34)).alloc (.cells #[.slice none 0 0] 24)), y.w.cell? ⟨x.w.heap.size + 1, 0, none⟩ = some (.slice none 0 0) := fun y => Since.cell (by simp [go_sem]) (by first | (simp; done) | (simp; omega)) y
    have hf1 : ∀ (y : Since ((x.w.alloc (.cells #[.int .i64 num, .int .i64 den] 34)).alloc (.cells #[.slice none 0 0] 24))) (o : Nat), y.w.frozen? ⟨x.w.heap.size + 1, o, none⟩ = false := fun y o => Since.free (by simp [go_sem]) (by first | (simp; done) | (simp; omega)) y
    have hWup : ∃ z : Since w, ((x.w.alloc (.cells #[.int .i64 num, .int .i64 den] 34)).alloc (.cells #[.slice none 0 0] 24)) = z.w := Since.allocs x [.cells #[.int .i64 num, .int .i64 den] 34, .cells #[.slice none 0 0] 24]
    obtain ⟨y0, hy0⟩ := Since.refl ((x.w.alloc (.cells #[.int .i64 num, .int .i64 den] 34)).alloc (.cells #[.slice none 0 0] 24))
    have Hbx := Lib.hid (And.intro x.b.size (show x.w.heap.size + 2 = ((x.w.alloc (.cells #[.int .i64 num, .int .i64 den] 34)).alloc (.cells #[.slice none 0 0] 24)).heap.size from by simp))
    generalize hW : ((x.w.alloc (.cells #[.int .i64 num, .int .i64 den] 34)).alloc (.cells #[.slice none 0 0] 24)) = W at *
    clear hW
    generalize x.w.heap.size = bx at *
    have Hup := Lib.hid (Since.up hWup)
    rw [hy0]
    clear hy0
    clear hWup
    have hset : ∀ y : Since W, ∃ z : Since w, y.w.setCell ⟨bx + 1, 0, none⟩ (.slice none 0 0) = z.w := fun y => by
      obtain ⟨z, e⟩ := Hup.out y; rw [e]; exact z.set _ (by have := Hbx.out; simp; omega) _
    have hres : ∀ y : Since W, (y.w.setCell ⟨bx + 1, 0, none⟩ (.slice none 0 0)).cell? ⟨bx + 1, 0, none⟩ = some (.slice none 0 0) := fun y => World.cell?_setCell_same _ _ _ (hb1_0 y)
    have Hset := Lib.hid hset; clear hset
    rcases hc with h | ⟨h, h'⟩ | ⟨h, h', hb⟩
    · go_wp2_with fail
      rw [HM.out]
      exact bodyPost_ret (v := .tuple #[.agg #[.slice none 0 0], .int .i64 1]) (by simp [results, Tryd.results22, go_sem, hres]) rfl ⟨rfl, Hset.out _⟩
    · go_wp2_with fail
      rw [HM.out]
      exact bodyPost_ret (v := .tuple #[.agg #[.slice none 0 0], .int .i64 1]) (by simp [results, Tryd.results22, go_sem, hres]) rfl ⟨rfl, Hset.out _⟩
    · go_wp2_with fail
      refine (right_calls W _ num den).mono ?_
      rintro _ _ ⟨rfl, y, rfl⟩
      go_wp2_with fail
      rw [HM.out]
      exact bodyPost_ret (v := .tuple #[.agg #[.slice none 0 0], .int .i64 1]) (by simp [results, Tryd.results22, go_sem, hres]) rfl ⟨rfl, Hset.out _⟩
set_option maxHeartbeats 1000000 in
theorem rmake_calls (w : World) (x : Since w) (r num den : Int) :
    Calls Tryd.prog 23 #[.int .i64 r, .agg #[.int .i64 num, .int .i64 den]] x.w (Made w r num den) := by
  by_cases hok : 0 ≤ r ∧ r ≤ 32 ∧ Right num den
  · have hm : Made w r num den = fun e w' => ∃ v, e = .returned (.tuple #[.agg #[v], .int .i64 0]) ∧ NewInts w (mkL num den (r.toNat + 1)) v w' := by funext e w'; unfold Made; rw [if_pos hok]
    obtain ⟨r0, r1, hR⟩ := hok
    obtain ⟨n, rfl⟩ : ∃ n : Nat, r = n := ⟨r.toNat, by omega⟩
    have hrb := rightB_yes hR
    have HR := Lib.hid hR
    obtain ⟨q0, q1, q2⟩ := hR
    have HM := Lib.hid hm; clear hm
    go_enter Tryd.func23, Tryd.ntmps23
    go_upto_region 1 with fail
    have hb0_0 : ∀ y : Since ((x.w.alloc (.cells #[.int .i64 num, .int .i64 den] 34)).alloc (.cells #[.slice none 0 0] 24)), y.w.cell? ⟨x.w.heap.size, 0, none⟩ = some (.int .i64 num) := fun y => Since.cell (by simp [go_sem]) (by first | (simp; done) | (simp; omega)) y
    have hb0_1 : ∀ y : Since ((x.w.alloc (.cells #[.int .i64 num, .int .i64 den] 34)).alloc (.cells #[.slice none 0 0] 24)), y.w.cell? ⟨x.w.heap.size, 1, none⟩ = some (.int .i64 den) := fun y => Since.cell (by simp [go_sem]) (by first | (simp; done) | (simp; omega)) y
    have hf0 : ∀ (y : Since ((x.w.alloc (.cells #[.int .i64 num, .int .i64 den] 34)).alloc (.cells #[.slice none 0 0] 24))) (o : Nat), y.w.frozen? ⟨x.w.heap.size, o, none⟩ = false := fun y o => Since.free (by simp [go_sem]) (by first | (simp; done) | (simp; omega)) y
    have hb1_0 : ∀ y : Since ((x.w.alloc (.cells #[.int .i64 num, .int .i64 den] 34)).alloc (.cells #[.slice none 0 0] 24)), y.w.cell? ⟨x.w.heap.size + 1, 0, none⟩ = some (.slice none 0 0) := fun y => Since.cell (by simp [go_sem]) (by first | (simp; done) | (simp; omega)) y
    have hf1 : ∀ (y : Since ((x.w.alloc (.cells #[.int .i64 num, .int .i64 den] 34)).alloc (.cells #[.slice none 0 0] 24))) (o : Nat), y.w.frozen? ⟨x.w.heap.size + 1, o, none⟩ = false := fun y o => Since.free (by simp [go_sem]) (by first | (simp; done) | (simp; omega)) y
    have hWup : ∃ z : Since w, ((x.w.alloc (.cells #[.int .i64 num, .int .i64 den] 34)).alloc (.cells #[.slice none 0 0] 24)) = z.w := Since.allocs x [.cells #[.int .i64 num, .int .i64 den] 34, .cells #[.slice none 0 0] 24]
    obtain ⟨y0, hy0⟩ := Since.refl ((x.w.alloc (.cells #[.int .i64 num, .int .i64 den] 34)).alloc (.cells #[.slice none 0 0] 24))
    have Hbx := Lib.hid (And.intro x.b.size (show x.w.heap.size + 2 = ((x.w.alloc (.cells #[.int .i64 num, .int .i64 den] 34)).alloc (.cells #[.slice none 0 0] 24)).heap.size from by simp))
    generalize hW : ((x.w.alloc (.cells #[.int .i64 num, .int .i64 den] 34)).alloc (.cells #[.slice none 0 0] 24)) = W at *
    clear hW
    generalize x.w.heap.size = bx at *
    have Hup := Lib.hid (Since.up hWup)
    rw [hy0]
    clear hy0
    clear hWup
    go_wp2_with fail
    refine (rright_calls W _ num den).mono ?_
    rintro _ _ ⟨rfl, y, rfl⟩
    go_wp2_with fail
    have hown0 := own_new y.w W.heap.size y.b.size 3 [.int .i64 16777216] (by unfold maxLen; decide)
    obtain ⟨y1, hy1⟩ := y.alloc (.cells #[.int .i64 16777216] 3)
    simp only [List.length_cons, List.length_nil, Nat.zero_add] at hown0
    rw [hy1] at hown0
    rw [hy1]
    generalize y.w.heap.size = g at *
    clear hy1
    go_loopw [6, 7] (fun v i wr => ∃ k : Nat, k ≤ n ∧ i = .int .i64 k ∧ ∃ y : Since W, wr = y.w ∧ y.w.ownsRow W.heap.size 3 1 v (k + 1) ((mkL num den (k + 1)).map (.int .i64))) (fun _ i _ => n - (intOf i).toNat)
    case atStart => exact ⟨0, by omega, rfl, _, rfl, hown0⟩
    case round =>
      obtain ⟨k, hk, rfl, y, rfl, hown⟩ := hrel
      by_cases hlt : k < n
      · obtain ⟨a, cap, rfl, hcap, hrow, hbase⟩ := own_row hown
        have hown' := Lib.hid hown; clear hown
        obtain ⟨b, off, rfl, _, hc⟩ := hrow k (by omega)
        have hcell : y.w.cell? ⟨b, off + k, none⟩ = some (.int .i64 (mk num den k)) := by
          rw [hc]; show some ((List.map _ _).getD k undef) = _; rw [map_at (mkL_length _ _ _) (by omega), mkL_at (by omega)]
        have hmb := mk_bd HR.out k
        have hmm := mk_mul_bd HR.out k
        have hcq : ∀ q : Since y.w, q.w.cell? ⟨b, off + k, none⟩ = some (.int .i64 (mk num den k)) := fun q => Since.cell hcell (hrow.two k (by omega)).1 q
        have h00 : ∀ q : Since y.w, q.w.cell? ⟨bx, 0, none⟩ = some (.int .i64 num) := fun q => by obtain ⟨z, e⟩ := y.trans q; rw [e]; exact hb0_0 z
        have h01 : ∀ q : Since y.w, q.w.cell? ⟨bx, 1, none⟩ = some (.int .i64 den) := fun q => by obtain ⟨z, e⟩ := y.trans q; rw [e]; exact hb0_1 z
        have hdiv := Lib.hid (show (mk num den k * den + num - 1) / num = mk num den (k + 1) from rfl)
        clear hc hrow hcell
        go_upto_region 7 with fail
        refine wp_region_tail (fun w' => ∃ q : Since (y.w), w' = q.w) [0] [1, 2, 3, 4, 5, 6, 7, 8, 9, 10, 11, 12, 13, 14] 15 (by kernel_rfl) (by kernel_rfl) (fun _ _ _ _ _ h => h) (Since.drawn _) ?_
        simp only [List.cons_append, List.nil_append, picks_cons, picks_nil, List.getD_cons_zero, List.getD_cons_succ]
        repeat (go_big_quiet_step (fail))
        refine wpQuiet_nil ?_
        rintro _ ⟨q, rfl⟩
        simp only [List.drop_succ_cons, List.drop_zero]
        go_wp2_with (at_builtin; (refine wpList_append1 (w0 := W) ?hw rfl _ _ 22 rfl W.heap.size (Nat.le_refl _) ?hb 3 (.int .i64 0) 8 ints (.slice (some ⟨b, off, none⟩) (k + 1) cap) (k + 1) ((mkL num den (k + 1)).map (Value.int .i64)) rfl ?hown (.int .i64 (mk num den (k + 1))) rfl ⟨q.w.heap.size, 0, none⟩ 1 rfl ?hc ?h63 ?hbytes ?_; rotate_right 1; intro v2 q2 hown2 _))
        case hw => obtain ⟨z, e⟩ := y.trans q; rw [e]; exact z.alloc _
        case hb => have := y.b.size; have := q.b.size; simp; omega
        case hown => exact own_since (own_since hown'.out q.b) (below_new _ _)
        case hc => rw [hdiv.out]; simp [go_sem]
        case h63 => unfold maxLen; omega
        case hbytes => omega
        have hown3 := Lib.hid hown2; clear hown2
        go_roundw
        case rel => exact ⟨k + 1, by omega, by go_num, q2, rfl, by rw [mkL_succ]; simpa using hown3.out⟩
        case measure => simp [intOf]; omega
      · obtain rfl : k = n := by omega
        obtain ⟨a, cap, rfl, hcap, hrow, hbase⟩ := own_row hown
        have hz : ∃ z : Since w, y.w.setCell ⟨bx + 1, 0, none⟩ (.slice a (k + 1) cap) = z.w := by
          obtain ⟨z, e⟩ := Hup.out y; rw [e]; exact z.set _ (by have := Hbx.out; simp; omega) _
        have h10 := hb1_0 y
        have hf1' := hf1 y 0
        go_wp2_with fail
        rw [HM.out]
        have hres : (y.w.setCell ⟨bx + 1, 0, none⟩ (.slice a (k + 1) cap)).cell? ⟨bx + 1, 0, none⟩ = some (.slice a (k + 1) cap) := World.cell?_setCell_same _ _ _ h10
        refine bodyPost_ret (v := .tuple #[.agg #[.slice a (k + 1) cap], .int .i64 0]) (by simp [results, Tryd.results23, go_sem, hres]) rfl ?_
        refine ⟨.slice a (k + 1) cap, rfl, a, cap, by rw [mkL_length]; simp, by rw [mkL_length]; simpa using hcap, ?_⟩
        obtain ⟨z, e⟩ := hz
        refine ⟨z, e, ?_⟩
        rw [← e]
        have hr2 := hrow.set ⟨bx + 1, 0, none⟩ (.slice a (k + 1) cap) (fun b hb => by have := hbase b hb; have := Hbx.out; simp; omega)
        intro i hi
        rw [mkL_length] at hi
        have hi' : i < k + 1 := by simpa using hi
        obtain ⟨b, off, ha, hlt, hc⟩ := hr2 i hi'
        refine ⟨b, off, ha, hlt, ?_⟩
        rw [hc]
        show some ((List.map _ _).getD i undef) = some (Value.int .i64 (at0 _ i))
        rw [map_at (mkL_length _ _ _) hi']
        simp
  · have hm : Made w r num den = fun e w' => e = .returned (.tuple #[.agg #[.slice none 0 0], .int .i64 1]) ∧ ∃ y : Since w, w' = y.w := by funext e w'; unfold Made; rw [if_neg hok]
    have HM := Lib.hid hm; clear hm
    have hc : (r < 0) ∨ (0 ≤ r ∧ 32 < r) ∨ (0 ≤ r ∧ r ≤ 32 ∧ rightB num den = false) := by
      by_cases h0 : r < 0
      · exact .inl h0
      · by_cases h1 : 32 < r
        · exact .inr (.inl ⟨by omega, h1⟩)
        · exact .inr (.inr ⟨by omega, by omega, rightB_no fun h => hok ⟨by omega, by omega, h⟩⟩)
    clear hok
    go_enter Tryd.func23, Tryd.ntmps23
    go_upto_region 1 with fail
    have hb0_0 : ∀ y : Since ((x.w.alloc (.cells #[.int .i64 num, .int .i64 den] 34)).alloc (.cells #[.slice none 0 0] 24)), y.w.cell? ⟨x.w.heap.size, 0, none⟩ = some (.int .i64 num) := fun y => Since.cell (by simp [go_sem]) (by first | (simp; done) | (simp; omega)) y
    have hb0_1 : ∀ y : Since ((x.w.alloc (.cells #[.int .i64 num, .int .i64 den] 34)).alloc (.cells #[.slice none 0 0] 24)), y.w.cell? ⟨x.w.heap.size, 1, none⟩ = some (.int .i64 den) := fun y => Since.cell (by simp [go_sem]) (by first | (simp; done) | (simp; omega)) y
    have hf0 : ∀ (y : Since ((x.w.alloc (.cells #[.int .i64 num, .int .i64 den] 34)).alloc (.cells #[.slice none 0 0] 24))) (o : Nat), y.w.frozen? ⟨x.w.heap.size, o, none⟩ = false := fun y o => Since.free (by simp [go_sem]) (by first | (simp; done) | (simp; omega)) y
    have hb1_0 : ∀ y : Since ((x.w.alloc (.cells #[.int .i64 num, .int .i64 den] 34)).alloc (.cells #[.slice none 0 0] 24)), y.w.cell? ⟨x.w.heap.size + 1, 0, none⟩ = some (.slice none 0 0) := fun y => Since.cell (by simp [go_sem]) (by first | (simp; done) | (simp; omega)) y
    have hf1 : ∀ (y : Since ((x.w.alloc (.cells #[.int .i64 num, .int .i64 den] 34)).alloc (.cells #[.slice none 0 0] 24))) (o : Nat), y.w.frozen? ⟨x.w.heap.size + 1, o, none⟩ = false := fun y o => Since.free (by simp [go_sem]) (by first | (simp; done) | (simp; omega)) y
    have hWup : ∃ z : Since w, ((x.w.alloc (.cells #[.int .i64 num, .int .i64 den] 34)).alloc (.cells #[.slice none 0 0] 24)) = z.w := Since.allocs x [.cells #[.int .i64 num, .int .i64 den] 34, .cells #[.slice none 0 0] 24]
    obtain ⟨y0, hy0⟩ := Since.refl ((x.w.alloc (.cells #[.int .i64 num, .int .i64 den] 34)).alloc (.cells #[.slice none 0 0] 24))
    have Hbx := Lib.hid (And.intro x.b.size (show x.w.heap.size + 2 = ((x.w.alloc (.cells #[.int .i64 num, .int .i64 den] 34)).alloc (.cells #[.slice none 0 0] 24)).heap.size from by simp))
    generalize hW : ((x.w.alloc (.cells #[.int .i64 num, .int .i64 den] 34)).alloc (.cells #[.slice none 0 0] 24)) = W at *
    clear hW
    generalize x.w.heap.size = bx at *
    have Hup := Lib.hid (Since.up hWup)
    rw [hy0]
    clear hy0
    clear hWup
    have hset : ∀ y : Since W, ∃ z : Since w, y.w.setCell ⟨bx + 1, 0, none⟩ (.slice none 0 0) = z.w := fun y => by
      obtain ⟨z, e⟩ := Hup.out y; rw [e]; exact z.set _ (by have := Hbx.out; simp; omega) _
    have hres : ∀ y : Since W, (y.w.setCell ⟨bx + 1, 0, none⟩ (.slice none 0 0)).cell? ⟨bx + 1, 0, none⟩ = some (.slice none 0 0) := fun y => World.cell?_setCell_same _ _ _ (hb1_0 y)
    have Hset := Lib.hid hset; clear hset
    rcases hc with h | ⟨h, h'⟩ | ⟨h, h', hb⟩
    · go_wp2_with fail
      rw [HM.out]
      exact bodyPost_ret (v := .tuple #[.agg #[.slice none 0 0], .int .i64 1]) (by simp [results, Tryd.results23, go_sem, hres]) rfl ⟨rfl, Hset.out _⟩
    · go_wp2_with fail
      rw [HM.out]
      exact bodyPost_ret (v := .tuple #[.agg #[.slice none 0 0], .int .i64 1]) (by simp [results, Tryd.results23, go_sem, hres]) rfl ⟨rfl, Hset.out _⟩
    · go_wp2_with fail
      refine (rright_calls W _ num den).mono ?_
      rintro _ _ ⟨rfl, y, rfl⟩
      go_wp2_with fail
      rw [HM.out]
      exact bodyPost_ret (v := .tuple #[.agg #[.slice none 0 0], .int .i64 1]) (by simp [results, Tryd.results23, go_sem, hres]) rfl ⟨rfl, Hset.out _⟩
end Go.Proofs.YtmobdlddfoaocaaDoor
