/- The walks of noise, first part: checks, weights, ratios. -/
import Derived.Test.YtdkcclngionihaaDoorRlMc
import Derived.Test.YtdkcclngionihaaDoorRows
import Derived.Test.YtdkcclngionihaaDoorProg
import Derived.IntWalk
set_option linter.all false
namespace Go.Proofs.YtdkcclngionihaaDoor
open Go.RowKit

theorem bad_at {l : List Int} {k : Nat} (hk : k < l.length) (h : ¬ okAt l k) : check l = 32 := check_bad fun hg => h (hg.2.2 k hk)
theorem next_ok {l : List Int} {k : Nat} (hok : ∀ j, j < k → okAt l j) (h : okAt l k) : ∀ j, j < k + 1 → okAt l j := fun j hj => by
  by_cases hjk : j < k
  · exact hok j hjk
  · obtain rfl : j = k := by omega
    exact h

set_option maxHeartbeats 400000 in
theorem ncheck_calls (w : World) (x : Since w) (a : Option Addr) (l : List Int) (cap : Nat) (hlen : l.length ≤ 9223372036854775807) (hr : IntRow w a l) :
    Calls Tryd.prog 37 #[.agg #[.slice a l.length cap]] x.w fun e w' => e = .returned (.int .i64 (check l)) ∧ ∃ y : Since w, w' = y.w := by
  by_cases h : 1 ≤ l.length ∧ l.length ≤ 33
  · obtain ⟨h1, h2⟩ := h
    have c1 : decide ((l.length : Int) < 1) = false := decide_eq_false (by omega)
    have c2 : decide ((33 : Int) < (l.length : Int)) = false := decide_eq_false (by omega)
    go_enter Tryd.func37, Tryd.ntmps37
    go_wp2
    have hbx : ∀ y : Since (x.w.alloc (.cells #[.slice a l.length cap] 34)), y.w.cell? ⟨x.w.heap.size, 0, none⟩ = some (.slice a l.length cap) := fun y => Since.cell (by simp [go_sem]) (by simp) y
    have hWup : ∃ z : Since w, (x.w.alloc (.cells #[.slice a l.length cap] 34)) = z.w := x.alloc _
    obtain ⟨y0, hy0⟩ := Since.refl (x.w.alloc (.cells #[.slice a l.length cap] 34))
    generalize hW : x.w.alloc (.cells #[.slice a l.length cap] 34) = W at *
    clear hW
    have Hup := Lib.hid (Since.up hWup)
    rw [hy0]
    clear hy0
    replace hr := hr.to hWup
    clear hWup
    go_loopw [18] (fun i wr => ∃ k : Nat, k ≤ l.length ∧ i = .int .i64 k ∧ (∀ j, j < k → okAt l j) ∧ ∃ y : Since W, wr = y.w) (fun i _ => l.length - (intOf i).toNat)
    case atStart => exact ⟨0, by omega, rfl, fun j hj => by omega, _, rfl⟩
    case round =>
      obtain ⟨k, hk, rfl, hok, y, rfl⟩ := hrel
      have Hok := Lib.hid hok; clear hok
      by_cases hlt : k < l.length
      · obtain ⟨b, off, rfl, _, _⟩ := hr k hlt
        have hcell : ∀ y : Since W, y.w.cell? ⟨b, off + k, none⟩ = some (.int .i64 (at0 l k)) := Since.at hr k hlt
        have hcell' : 0 < k → ∀ y : Since W, y.w.cell? ⟨b, off + (k - 1), none⟩ = some (.int .i64 (at0 l (k-1))) := fun h0 => Since.at hr (k-1) (by omega)
        clear hr
        go_wp2
        all_goals first
          | (go_ret
             exact ⟨ret_int (bad_at hlt (by unfold okAt; omega)).symm, Hup.out _⟩)
          | (go_roundw
             case rel => exact ⟨k + 1, by omega, by go_num, next_ok Hok.out (by unfold okAt; omega), _, rfl⟩
             case measure => simp [intOf]; omega)
      · go_wp2
        go_ret
        exact ⟨ret_int (check_good ⟨h1, h2, fun i hi => Hok.out i (by omega)⟩).symm, Hup.out _⟩
  · have hn : ¬ Good l := fun hg => h ⟨hg.1, hg.2.1⟩
    by_cases h1 : l.length < 1
    · go_enter Tryd.func37, Tryd.ntmps37
      go_wp2
      go_ret
      exact ⟨ret_int (check_bad hn).symm, x.alloc _⟩
    · have h33 : 33 < l.length := by omega
      go_enter Tryd.func37, Tryd.ntmps37
      go_wp2
      go_ret
      exact ⟨ret_int (check_bad hn).symm, x.alloc _⟩

end Go.Proofs.YtdkcclngionihaaDoor
/- The walks of noise, second part: weights, ratios. -/
namespace Go.Proofs.YtdkcclngionihaaDoor
open Go.RowKit

/-- the table of signs is as the text lays it -/
def Signs (w : World) : Prop := 0 < w.heap.size ∧ w.cell? ⟨0, 0, none⟩ = some (.int .i64 (-1)) ∧ w.cell? ⟨0, 1, none⟩ = some (.int .i64 1)
theorem Signs.to {w W : World} (h : Signs w) (hW : ∃ z : Since w, W = z.w) : Signs W := by
  obtain ⟨z, rfl⟩ := hW
  exact ⟨Nat.lt_of_lt_of_le h.1 z.b.size, Since.cell h.2.1 h.1 z, Since.cell h.2.2 h.1 z⟩
theorem Signs.at {w : World} (h : Signs w) (y : Since w) : y.w.cell? ⟨0, 0, none⟩ = some (.int .i64 (-1)) ∧ y.w.cell? ⟨0, 1, none⟩ = some (.int .i64 1) :=
  ⟨Since.cell h.2.1 h.1 y, Since.cell h.2.2 h.1 y⟩

set_option maxHeartbeats 1000000 in
theorem wt_calls (w : World) (x : Since w) (hs : Signs w) (a : Option Addr) (l : List Int) (cap : Nat) (v : Int) (hv : I64 v) (hlen : l.length ≤ 9223372036854775807) (hr : IntRow w a l) :
    Calls Tryd.prog 60 #[.agg #[.slice a l.length cap], .int .i64 v] x.w fun e w' => e = .returned (.int .i64 (wt l v)) ∧ ∃ y : Since w, w' = y.w := by
  obtain ⟨v0, v1⟩ := hv
  have i0 : ∀ w, (Instr.index 109 (.agg #[.int .i64 (-1), .int .i64 1]) (.int .i64 0)).run Tryd.prog w = .ok (.int .i64 (-1)) w := fun _ => by kernel_rfl
  have i1 : ∀ w, (Instr.index 109 (.agg #[.int .i64 (-1), .int .i64 1]) (.int .i64 1)).run Tryd.prog w = .ok (.int .i64 1) w := fun _ => by kernel_rfl
  go_enter Tryd.func60, Tryd.ntmps60
  go_upto_region 1 with fail
  have hbx : ∀ y : Since (x.w.alloc (.cells #[.slice a l.length cap] 34)), y.w.cell? ⟨x.w.heap.size, 0, none⟩ = some (.slice a l.length cap) := fun y => Since.cell (by simp [go_sem]) (by simp) y
  have hWup : ∃ z : Since w, (x.w.alloc (.cells #[.slice a l.length cap] 34)) = z.w := x.alloc _
  obtain ⟨y0, hy0⟩ := Since.refl (x.w.alloc (.cells #[.slice a l.length cap] 34))
  generalize hW : x.w.alloc (.cells #[.slice a l.length cap] 34) = W at *
  clear hW
  have Hup := Lib.hid (Since.up hWup)
  rw [hy0]
  clear hy0
  replace hr := hr.to hWup
  replace hs := hs.to hWup
  clear hWup
  have s0 : ∀ y : Since W, y.w.cell? ⟨0, 0, none⟩ = some (.int .i64 (-1)) := fun y => (hs.at y).1
  have s1 : ∀ y : Since W, y.w.cell? ⟨0, 1, none⟩ = some (.int .i64 1) := fun y => (hs.at y).2
  go_wp2
  go_loop [9] (fun i => ∃ k : Nat, k ≤ 2 ∧ i = .int .i64 k ∧ (1 ≤ k → 0 < v ∨ l.length ≤ v.natAbs) ∧ (2 ≤ k → v < 0 ∨ l.length ≤ v.natAbs)) (fun i => 2 - (intOf i).toNat)
  case atStart => exact ⟨0, by omega, rfl, by omega, by omega⟩
  case round =>
    obtain ⟨k, hk, rfl, h1, h2⟩ := hrel
    have H1 := Lib.hid h1; have H2 := Lib.hid h2; clear h1 h2
    by_cases hk2 : k = 2
    · subst hk2
      go_wp2
      go_ret
      exact ⟨ret_int (wt_out (by have := H1.out; have := H2.out; omega)).symm, Hup.out _⟩
    · have hmin : v = -9223372036854775808 → wrap64 (-v) = v := fun h => by subst h; kernel_rfl
      have Hmin := Lib.hid hmin; clear hmin
      by_cases hk0 : k = 0
      · subst hk0
        by_cases c1 : v ≤ 0 ∧ -v < l.length
        · obtain ⟨m, rfl⟩ : ∃ m : Nat, v = -(m : Int) := ⟨(-v).toNat, by omega⟩
          have hm : m < l.length := by omega
          obtain ⟨b, off, rfl, _, _⟩ := hr m hm
          have hcell : ∀ y : Since W, y.w.cell? ⟨b, off + m, none⟩ = some (.int .i64 (at0 l m)) := Since.at hr m hm
          have H := Lib.hid c1; clear hr hk2 c1
          go_wp2
          go_ret
          exact ⟨ret_int (by rw [wt_in (by omega)]; congr 1; omega), Hup.out _⟩
        · have hrel1 : 0 < v ∨ l.length ≤ v.natAbs := by omega
          have H := Lib.hid hrel1
          by_cases c2 : v = -9223372036854775808
          · have hw := Hmin.out c2
            have hneg : v < 0 := by omega
            clear hr hk2 c1 c2 hrel1
            go_wp2
            go_round
            case rel => exact ⟨1, by omega, rfl, fun _ => H.out, by omega⟩
            case measure => simp [intOf]
          · have c2' : -9223372036854775808 < v := by omega
            clear hr hk2 c2
            by_cases c3 : 0 < v
            · clear c1 hrel1
              go_wp2
              go_round
              case rel => exact ⟨1, by omega, rfl, fun _ => H.out, by omega⟩
              case measure => simp [intOf]
            · have c4 : (l.length : Int) ≤ -v := by omega
              clear c1 hrel1
              go_wp2
              go_round
              case rel => exact ⟨1, by omega, rfl, fun _ => H.out, by omega⟩
              case measure => simp [intOf]
      · obtain rfl : k = 1 := by omega
        by_cases c1 : 0 ≤ v ∧ v < l.length
        · obtain ⟨m, rfl⟩ : ∃ m : Nat, v = (m : Int) := ⟨v.toNat, by omega⟩
          have hm : m < l.length := by omega
          obtain ⟨b, off, rfl, _, _⟩ := hr m hm
          have hcell : ∀ y : Since W, y.w.cell? ⟨b, off + m, none⟩ = some (.int .i64 (at0 l m)) := Since.at hr m hm
          have H := Lib.hid c1; clear hr hk2 c1
          go_wp2
          go_ret
          exact ⟨ret_int (by rw [wt_in (by omega)]; congr 1), Hup.out _⟩
        · have hrel2 : v < 0 ∨ l.length ≤ v.natAbs := by omega
          have H := Lib.hid hrel2
          by_cases c3 : v < 0
          · clear c1 hrel2 hr
            go_wp2
            go_round
            case rel => exact ⟨2, by omega, rfl, fun _ => H1.out (by omega), fun _ => H.out⟩
            case measure => simp [intOf]
          · have c4 : (l.length : Int) ≤ v := by omega
            clear c1 hrel2 hr
            go_wp2
            go_round
            case rel => exact ⟨2, by omega, rfl, fun _ => H1.out (by omega), fun _ => H.out⟩
            case measure => simp [intOf]
end Go.Proofs.YtdkcclngionihaaDoor
/- The walks of noise, third part: Weight, ratios. -/
namespace Go.Proofs.YtdkcclngionihaaDoor
open Go.RowKit

set_option maxHeartbeats 1000000 in
theorem weight_calls (w : World) (x : Since w) (hs : Signs w) (a : Option Addr) (l : List Int) (cap : Nat) (v : Int) (hv : I64 v) (hlen : l.length ≤ 9223372036854775807) (hr : IntRow w a l) :
    Calls Tryd.prog 38 #[.agg #[.slice a l.length cap], .int .i64 v] x.w fun e w' => e = .returned (.int .i64 (weight l v)) ∧ ∃ y : Since w, w' = y.w := by
  by_cases hg : Good l
  · have hg0 : check l = 0 := check_good hg
    have hgw := weight_good hg v
    go_enter Tryd.func38, Tryd.ntmps38
    go_upto_region 1 with fail
    have hbx : ∀ y : Since (x.w.alloc (.cells #[.slice a l.length cap] 34)), y.w.cell? ⟨x.w.heap.size, 0, none⟩ = some (.slice a l.length cap) := fun y => Since.cell (by simp [go_sem]) (by simp) y
    have hWup : ∃ z : Since w, (x.w.alloc (.cells #[.slice a l.length cap] 34)) = z.w := x.alloc _
    obtain ⟨y0, hy0⟩ := Since.refl (x.w.alloc (.cells #[.slice a l.length cap] 34))
    generalize hW : x.w.alloc (.cells #[.slice a l.length cap] 34) = W at *
    clear hW
    generalize x.w.heap.size = bx at *
    have Hup := Lib.hid (Since.up hWup)
    rw [hy0]
    clear hy0
    replace hr := hr.to hWup
    replace hs := hs.to hWup
    clear hWup
    go_wp2_with fail
    refine (ncheck_calls W _ a l cap hlen hr).mono ?_
    rintro _ _ ⟨rfl, y, rfl⟩
    go_wp2_with fail
    refine (wt_calls W _ hs a l cap v hv hlen hr).mono ?_
    rintro _ _ ⟨rfl, y, rfl⟩
    go_wp2_with fail
    go_ret
    exact ⟨ret_int hgw.symm, Hup.out _⟩
  · have hg0 : check l = 32 := check_bad hg
    have hgw := weight_bad hg v
    go_enter Tryd.func38, Tryd.ntmps38
    go_upto_region 1 with fail
    have hbx : ∀ y : Since (x.w.alloc (.cells #[.slice a l.length cap] 34)), y.w.cell? ⟨x.w.heap.size, 0, none⟩ = some (.slice a l.length cap) := fun y => Since.cell (by simp [go_sem]) (by simp) y
    have hWup : ∃ z : Since w, (x.w.alloc (.cells #[.slice a l.length cap] 34)) = z.w := x.alloc _
    obtain ⟨y0, hy0⟩ := Since.refl (x.w.alloc (.cells #[.slice a l.length cap] 34))
    generalize hW : x.w.alloc (.cells #[.slice a l.length cap] 34) = W at *
    clear hW
    generalize x.w.heap.size = bx at *
    have Hup := Lib.hid (Since.up hWup)
    rw [hy0]
    clear hy0
    replace hr := hr.to hWup
    clear hWup
    go_wp2_with fail
    refine (ncheck_calls W _ a l cap hlen hr).mono ?_
    rintro _ _ ⟨rfl, y, rfl⟩
    go_wp2_with fail
    go_ret
    exact ⟨ret_int hgw.symm, Hup.out _⟩

end Go.Proofs.YtdkcclngionihaaDoor
/- Flows between two nodes of a network: the greatest amount is that of a cut: plain mathematics, no program in sight. -/
namespace Go.Proofs.YtdkcclngionihaaDoor

/-- an arc -/
structure Arc where
  u : Int
  v : Int
  cap : Int
  cost : Int
instance : Inhabited Arc := ⟨⟨0, 0, 0, 0⟩⟩
/-- sums -/
def sumF (f : Nat → Int) : Nat → Int
  | 0 => 0
  | n + 1 => sumF f n + f n
theorem sumF_congr {f g : Nat → Int} : ∀ n, (∀ i, i < n → f i = g i) → sumF f n = sumF g n
  | 0, _ => rfl
  | n + 1, h => by simp only [sumF]; rw [sumF_congr n fun i hi => h i (by omega), h n (by omega)]
theorem sumF_add (f g : Nat → Int) : ∀ n, sumF (fun i => f i + g i) n = sumF f n + sumF g n
  | 0 => rfl
  | n + 1 => by simp only [sumF]; rw [sumF_add f g n]; omega
theorem sumF_zero : ∀ n, sumF (fun _ => 0) n = 0
  | 0 => rfl
  | n + 1 => by simp only [sumF]; rw [sumF_zero n]; rfl
theorem sumF_le {f g : Nat → Int} : ∀ n, (∀ i, i < n → f i ≤ g i) → sumF f n ≤ sumF g n
  | 0, _ => Int.le_refl _
  | n + 1, h => by
    have := sumF_le n fun i hi => h i (by omega)
    have := h n (by omega)
    simp only [sumF]; omega
theorem sumF_pick (g : Nat → Int) (c : Int) : ∀ n : Nat, sumF (fun k => if c = (k : Int) then g k else 0) n = if 0 ≤ c ∧ c < n then g c.toNat else 0
  | 0 => by simp only [sumF]; rw [if_neg (by omega)]
  | n + 1 => by
    simp only [sumF]
    rw [sumF_pick g c n]
    by_cases h1 : c = (n : Int)
    · subst h1
      rw [if_pos rfl, if_neg (by omega), if_pos (by omega)]; simp
    · rw [if_neg h1]
      by_cases h2 : 0 ≤ c ∧ c < n
      · rw [if_pos h2, if_pos (by omega)]; omega
      · rw [if_neg h2, if_neg (by omega)]; rfl
theorem sumF_swap (F : Nat → Nat → Int) (n : Nat) : ∀ m, sumF (fun k => sumF (fun i => F k i) m) n = sumF (fun i => sumF (fun k => F k i) n) m
  | 0 => by simp only [sumF]; exact sumF_zero n
  | m + 1 => by
    simp only [sumF]
    rw [sumF_add, sumF_swap F n m]
theorem sumF_set (f : Nat → Int) (c : Nat) (d : Int) : ∀ n, sumF (fun i => if i = c then f i + d else f i) n = sumF f n + if c < n then d else 0
  | 0 => rfl
  | n + 1 => by
    simp only [sumF]
    rw [sumF_set f c d n]
    by_cases h1 : n = c
    · subst h1
      rw [if_pos rfl, if_neg (Nat.lt_irrefl _), if_pos (by omega)]; omega
    · rw [if_neg h1]
      by_cases h2 : c < n
      · rw [if_pos h2, if_pos (by omega)]; omega
      · rw [if_neg h2, if_neg (by omega)]; omega
/-- arc i -/
def arcAt (l : List Arc) (i : Nat) : Arc := l.getD i default
/-- what an arc's flow x gives to node k: out less in -/
def arcEx (a : Arc) (x k : Int) : Int := (if a.u = k then x else 0) - (if a.v = k then x else 0)
/-- what leaves node k, less what comes -/
def exc (l : List Arc) (f : Nat → Int) (k : Int) : Int := sumF (fun i => arcEx (arcAt l i) (f i) k) l.length
/-- the arcs' ends are nodes -/
def NetOk (n : Nat) (l : List Arc) : Prop := ∀ i, i < l.length → (0 ≤ (arcAt l i).u ∧ (arcAt l i).u < n) ∧ (0 ≤ (arcAt l i).v ∧ (arcAt l i).v < n) ∧ 0 ≤ (arcAt l i).cap
/-- a flow of amount v from s to t -/
structure Flow (n : Nat) (l : List Arc) (s t : Int) (f : Nat → Int) (v : Int) : Prop where
  c : ∀ i, i < l.length → 0 ≤ f i ∧ f i ≤ (arcAt l i).cap
  k : ∀ k : Int, k ≠ s → k ≠ t → exc l f k = 0
  s : exc l f s = v
/-- the capacity of a cut -/
def cutC (l : List Arc) (S : Int → Bool) : Int := sumF (fun i => if S (arcAt l i).u = true ∧ S (arcAt l i).v = false then (arcAt l i).cap else 0) l.length
/-- what a flow sends out of S -/
def outS (l : List Arc) (S : Int → Bool) (f : Nat → Int) : Int := sumF (fun i => (if S (arcAt l i).u = true then f i else 0) - (if S (arcAt l i).v = true then f i else 0)) l.length
theorem out_eq {n : Nat} {l : List Arc} (h : NetOk n l) (S : Int → Bool) (f : Nat → Int) : sumF (fun k => if S k = true then exc l f k else 0) n = outS l S f := by
  have h1 : sumF (fun k => if S k = true then exc l f k else 0) n = sumF (fun k => sumF (fun i => if S k = true then arcEx (arcAt l i) (f i) k else 0) l.length) n := by
    refine sumF_congr n fun k _ => ?_
    by_cases hs : S k = true
    · rw [if_pos hs]; exact sumF_congr _ fun i _ => by rw [if_pos hs]
    · rw [if_neg hs]
      exact (sumF_zero l.length).symm.trans (sumF_congr _ fun i _ => by rw [if_neg hs])
  rw [h1, sumF_swap]
  unfold outS
  refine sumF_congr _ fun i hi => ?_
  obtain ⟨hu, hv, _⟩ := h i hi
  have e : ∀ k : Nat, (if S k = true then arcEx (arcAt l i) (f i) k else 0) = (if (arcAt l i).u = (k : Int) then (fun k : Nat => if S k = true then f i else 0) k else 0) + (if (arcAt l i).v = (k : Int) then (fun k : Nat => if S k = true then - f i else 0) k else 0) := fun k => by
    unfold arcEx
    by_cases hs : S k = true <;> by_cases h1 : (arcAt l i).u = (k : Int) <;> by_cases h2 : (arcAt l i).v = (k : Int) <;> simp only [hs, h1, h2, if_true, if_false] <;> (try simp) <;> omega
  rw [sumF_congr n fun k _ => e k, sumF_add, sumF_pick, sumF_pick, if_pos hu, if_pos hv]
  simp only [Int.toNat_of_nonneg hu.1, Int.toNat_of_nonneg hv.1]
  by_cases hs : S (arcAt l i).u = true <;> by_cases ht : S (arcAt l i).v = true <;> simp [hs, ht] <;> omega
theorem Flow.out {n : Nat} {l : List Arc} {s t : Int} {f : Nat → Int} {v : Int} (hF : Flow n l s t f v) (h : NetOk n l) (hs : 0 ≤ s ∧ s < n) {S : Int → Bool} (h1 : S s = true) (h2 : S t = false) : outS l S f = v := by
  rw [← out_eq h S f]
  have e : ∀ k : Nat, (if S k = true then exc l f k else 0) = if s = (k : Int) then (fun _ => v) k else 0 := fun k => by
    by_cases hk : s = (k : Int)
    · rw [if_pos hk, ← hk, if_pos h1, hF.s]
    · rw [if_neg hk]
      by_cases hS : S k = true
      · rw [if_pos hS]
        exact hF.k k (fun h => hk h.symm) (fun h => by rw [h, h2] at hS; cases hS)
      · rw [if_neg hS]
  rw [sumF_congr n fun k _ => e k, sumF_pick, if_pos hs]
theorem out_le {n : Nat} {l : List Arc} {s t : Int} {f : Nat → Int} {v : Int} (hF : Flow n l s t f v) (S : Int → Bool) : outS l S f ≤ cutC l S := by
  unfold outS cutC
  refine sumF_le _ fun i hi => ?_
  have := hF.c i hi
  cases S (arcAt l i).u <;> cases S (arcAt l i).v <;> simp <;> omega
theorem Flow.le_cut {n : Nat} {l : List Arc} {s t : Int} {f : Nat → Int} {v : Int} (hF : Flow n l s t f v) (h : NetOk n l) (hs : 0 ≤ s ∧ s < n) {S : Int → Bool} (h1 : S s = true) (h2 : S t = false) : v ≤ cutC l S := by
  rw [← hF.out h hs h1 h2]; exact out_le hF S
/-- the greatest amount: that of a flow and of a cut -/
def IsMost (n : Nat) (l : List Arc) (s t v : Int) : Prop := (∃ f, Flow n l s t f v) ∧ ∃ S : Int → Bool, S s = true ∧ S t = false ∧ cutC l S = v
theorem IsMost.unique {n : Nat} {l : List Arc} {s t v w : Int} (h : NetOk n l) (hs : 0 ≤ s ∧ s < n) (hv : IsMost n l s t v) (hw : IsMost n l s t w) : v = w := by
  obtain ⟨⟨f, hf⟩, S, s1, s2, s3⟩ := hv
  obtain ⟨⟨g, hg⟩, T, t1, t2, t3⟩ := hw
  have a := hf.le_cut h hs t1 t2
  have b := hg.le_cut h hs s1 s2
  omega
/-- an edge of the residue: arc i, forwards or backwards, from a to b, with room -/
def Res (l : List Arc) (f : Nat → Int) (i : Nat) (fw : Bool) (a b room : Int) : Prop :=
  i < l.length ∧ ((fw = true ∧ (arcAt l i).u = a ∧ (arcAt l i).v = b ∧ room = (arcAt l i).cap - f i ∧ f i < (arcAt l i).cap) ∨ (fw = false ∧ (arcAt l i).v = a ∧ (arcAt l i).u = b ∧ room = f i ∧ 0 < f i))
/-- nothing leads out of K: it is a cut of the flow's amount -/
theorem most_of_closed {n : Nat} {l : List Arc} {s t : Int} {f : Nat → Int} {v : Int} (hF : Flow n l s t f v) (h : NetOk n l) (hs : 0 ≤ s ∧ s < n) {K : Int → Bool} (h1 : K s = true) (h2 : K t = false) (hc : ∀ i fw a b room, Res l f i fw a b room → K a = true → K b = true) : IsMost n l s t v := by
  refine ⟨⟨f, hF⟩, K, h1, h2, ?_⟩
  rw [← hF.out h hs h1 h2]
  unfold outS cutC
  refine sumF_congr _ fun i hi => ?_
  have hr := hF.c i hi
  cases hu : K (arcAt l i).u
  · cases hv : K (arcAt l i).v
    · simp
    · have hz : f i = 0 := by
        by_cases hp : 0 < f i
        · have := hc i false _ _ (f i) ⟨hi, Or.inr ⟨rfl, rfl, rfl, rfl, hp⟩⟩ hv
          rw [hu] at this; cases this
        · omega
      simp [hz]
  · cases hv : K (arcAt l i).v
    · have hz : f i = (arcAt l i).cap := by
        by_cases hp : f i < (arcAt l i).cap
        · have := hc i true _ _ _ ⟨hi, Or.inl ⟨rfl, rfl, rfl, rfl, hp⟩⟩ hu
          rw [hv] at this; cases this
        · omega
      simp [hz]
    · simp
/-- one step of a push -/
def bump (f : Nat → Int) (i : Nat) (d : Int) : Nat → Int := fun j => if j = i then f j + d else f j
theorem exc_bump {l : List Arc} (f : Nat → Int) {i : Nat} (hi : i < l.length) (d k : Int) : exc l (bump f i d) k = exc l f k + arcEx (arcAt l i) d k := by
  unfold exc
  have e : ∀ j, arcEx (arcAt l j) (bump f i d j) k = if j = i then (fun j => arcEx (arcAt l j) (f j) k) j + arcEx (arcAt l i) d k else (fun j => arcEx (arcAt l j) (f j) k) j := fun j => by
    unfold bump
    by_cases h : j = i
    · subst h
      rw [if_pos rfl, if_pos rfl]
      unfold arcEx
      by_cases h1 : (arcAt l j).u = k <;> by_cases h2 : (arcAt l j).v = k <;> simp [h1, h2] <;> omega
    · rw [if_neg h, if_neg h]
  rw [sumF_congr _ fun j _ => e j, sumF_set, if_pos hi]
theorem exc_push {l : List Arc} {f : Nat → Int} {i : Nat} {fw : Bool} {a b room d : Int} {g : Nat → Int} (hr : Res l f i fw a b room) (k : Int) : exc l (bump g i (if fw = true then d else -d)) k = exc l g k + (if a = k then d else 0) - (if b = k then d else 0) := by
  rw [exc_bump g hr.1]
  unfold arcEx
  rcases hr.2 with ⟨rfl, rfl, rfl, _⟩ | ⟨rfl, rfl, rfl, _⟩
  · rw [if_pos rfl]; omega
  · simp only [Bool.false_eq_true, if_false]
    by_cases h1 : (arcAt l i).u = k <;> by_cases h2 : (arcAt l i).v = k <;> simp only [h1, h2, if_true, if_false] <;> omega
end Go.Proofs.YtdkcclngionihaaDoor
/- How nodes were reached over arcs that can take more; a push along the way: plain mathematics, no program in sight. -/
namespace Go.Proofs.YtdkcclngionihaaDoor

/-- how a node was reached: from where, over which arc, with what room, forwards or not; whether at all; after how many steps -/
structure Stp where
  fr : Int
  arc : Int
  room : Int
  fw : Bool
  kn : Bool
  dep : Int
instance : Inhabited Stp := ⟨⟨0, 0, 0, false, false, 0⟩⟩
/-- the nodes that were reached hang together -/
structure Tree (n : Nat) (l : List Arc) (f : Nat → Int) (s : Nat) (st : Nat → Stp) : Prop where
  sn : s < n
  r : (st s).kn = true ∧ (st s).dep = 0
  d : ∀ k, k < n → (st k).kn = true → 0 ≤ (st k).dep
  k : ∀ k, k < n → (st k).kn = true → k ≠ s → (∃ i : Nat, (st k).arc = (i : Int) ∧ Res l f i (st k).fw (st k).fr k (st k).room) ∧ (0 ≤ (st k).fr ∧ (st k).fr < n) ∧ (st (st k).fr.toNat).kn = true ∧ (st k).dep = (st (st k).fr.toNat).dep + 1
/-- the way back from t -/
def pth (st : Nat → Stp) (s t : Nat) : Nat → Nat
  | 0 => t
  | m + 1 => if pth st s t m = s then s else (st (pth st s t m)).fr.toNat
section
variable {n : Nat} {l : List Arc} {f : Nat → Int} {s : Nat} {st : Nat → Stp} (hT : Tree n l f s st)
include hT
theorem Tree.zero {k : Nat} (hk : k < n) (hn : (st k).kn = true) : (st k).dep = 0 ↔ k = s := by
  constructor
  · intro h
    by_cases hs : k = s
    · exact hs
    · obtain ⟨_, hf, hf2, hd⟩ := hT.k k hk hn hs
      have := hT.d (st k).fr.toNat (by omega) hf2
      omega
  · rintro rfl; exact hT.r.2
theorem Tree.way {t : Nat} (ht : t < n) (hk : (st t).kn = true) : ∀ m : Nat, (m : Int) ≤ (st t).dep → pth st s t m < n ∧ (st (pth st s t m)).kn = true ∧ (st (pth st s t m)).dep = (st t).dep - m
  | 0, _ => ⟨ht, hk, by simp [pth]⟩
  | m + 1, hm => by
    obtain ⟨h1, h2, h3⟩ := Tree.way ht hk m (by omega)
    have hs : pth st s t m ≠ s := fun h => by
      have := (hT.zero h1 h2).2 h
      omega
    obtain ⟨_, hf, hf2, hd⟩ := hT.k _ h1 h2 hs
    have e : pth st s t (m + 1) = (st (pth st s t m)).fr.toNat := if_neg hs
    rw [e]
    exact ⟨by omega, hf2, by omega⟩
/-- one step of the way: an edge of the residue -/
theorem Tree.edge {t : Nat} (ht : t < n) (hk : (st t).kn = true) {m : Nat} (hm : (m : Int) < (st t).dep) : pth st s t m ≠ s ∧ (st (pth st s t m)).fr = (pth st s t (m + 1) : Nat) ∧ ∃ i : Nat, (st (pth st s t m)).arc = (i : Int) ∧ Res l f i (st (pth st s t m)).fw (pth st s t (m + 1) : Nat) (pth st s t m : Nat) (st (pth st s t m)).room := by
  obtain ⟨h1, h2, h3⟩ := hT.way ht hk m (by omega)
  have hs : pth st s t m ≠ s := fun h => by
    have := (hT.zero h1 h2).2 h
    omega
  obtain ⟨⟨i, hi, hr⟩, hf, hf2, hd⟩ := hT.k _ h1 h2 hs
  have e : pth st s t (m + 1) = (st (pth st s t m)).fr.toNat := if_neg hs
  have e2 : ((pth st s t (m + 1) : Nat) : Int) = (st (pth st s t m)).fr := by rw [e]; exact Int.toNat_of_nonneg hf.1
  exact ⟨hs, e2.symm, i, hi, e2 ▸ hr⟩
theorem Tree.last {t : Nat} (ht : t < n) (hk : (st t).kn = true) {m : Nat} (hm : (m : Int) = (st t).dep) : pth st s t m = s := by
  obtain ⟨h1, h2, h3⟩ := hT.way ht hk m (by omega)
  exact (hT.zero h1 h2).1 (by omega)
/-- what a push of d has done when it has come to the m-th node of the way -/
structure Push (l : List Arc) (f : Nat → Int) (st : Nat → Stp) (s t : Nat) (d : Int) (m : Nat) (g : Nat → Int) : Prop where
  e : ∀ k : Int, exc l g k = exc l f k + (if ((pth st s t m : Nat) : Int) = k then d else 0) - (if (t : Int) = k then d else 0)
  c : ∀ i, i < l.length → 0 ≤ g i ∧ g i ≤ (arcAt l i).cap
  u : ∀ i : Nat, g i = f i ∨ ∃ j, j < m ∧ (st (pth st s t j)).arc = (i : Int)
omit hT in
theorem push_start (hc : ∀ i, i < l.length → 0 ≤ f i ∧ f i ≤ (arcAt l i).cap) (t : Nat) (d : Int) : Push l f st s t d 0 f :=
  ⟨fun k => by simp only [pth]; omega, hc, fun i => Or.inl rfl⟩
theorem Push.step {t : Nat} (ht : t < n) (hk : (st t).kn = true) {m : Nat} (hm : (m : Int) < (st t).dep) {d : Int} (hd : 0 ≤ d) (hroom : d ≤ (st (pth st s t m)).room) {g : Nat → Int} (h : Push l f st s t d m g) :
    ∃ i : Nat, (st (pth st s t m)).arc = (i : Int) ∧ i < l.length ∧ Push l f st s t d (m + 1) (bump g i (if (st (pth st s t m)).fw = true then d else -d)) := by
  obtain ⟨hs, hfr, i, hi, hr⟩ := hT.edge ht hk hm
  refine ⟨i, hi, hr.1, ⟨fun k => ?_, fun j hj => ?_, fun j => ?_⟩⟩
  · rw [exc_push hr, h.e k]
    omega
  · have hu : g i = f i := by
      rcases h.u i with hu | ⟨j', hj', ha⟩
      · exact hu
      · obtain ⟨_, _, i', hi', hr'⟩ := hT.edge ht hk (m := j') (by omega)
        obtain rfl : i' = i := by have := hi'.symm.trans ha; omega
        obtain ⟨_, _, a1⟩ := hT.way ht hk m (by omega)
        obtain ⟨_, _, a2⟩ := hT.way ht hk (m + 1) (by omega)
        obtain ⟨_, _, b1⟩ := hT.way ht hk j' (by omega)
        obtain ⟨_, _, b2⟩ := hT.way ht hk (j' + 1) (by omega)
        have key : ∀ x y : Nat, ((x : Nat) : Int) = ((y : Nat) : Int) → (st x).dep = (st y).dep := fun x y hxy => by rw [show x = y by omega]
        rcases hr.2 with ⟨_, p1, p2, _⟩ | ⟨_, p1, p2, _⟩ <;> rcases hr'.2 with ⟨_, q1, q2, _⟩ | ⟨_, q1, q2, _⟩
        · have := key _ _ (p2.symm.trans q2); omega
        · have h1 := key _ _ (p1.symm.trans q2); have h2 := key _ _ (p2.symm.trans q1); push_cast at *; omega
        · have h1 := key _ _ (p1.symm.trans q2); have h2 := key _ _ (p2.symm.trans q1); push_cast at *; omega
        · have := key _ _ (p2.symm.trans q2); omega
    unfold bump
    by_cases hji : j = i
    · subst hji
      rw [if_pos rfl, hu]
      rcases hr.2 with ⟨p0, _, _, p3, p4⟩ | ⟨p0, _, _, p3, p4⟩
      · rw [p0, if_pos rfl]; have := h.c j hj; rw [hu] at this; omega
      · rw [p0]; simp only [Bool.false_eq_true, if_false]; have := h.c j hj; rw [hu] at this; omega
    · rw [if_neg hji]; exact h.c j hj
  · by_cases hji : j = i
    · exact Or.inr ⟨m, by omega, by rw [hji]; exact hi⟩
    · unfold bump
      rw [if_neg hji]
      rcases h.u j with h1 | ⟨j', h1, h2⟩
      · exact Or.inl h1
      · exact Or.inr ⟨j', by omega, h2⟩
theorem Push.done {t : Nat} (ht : t < n) (hk : (st t).kn = true) (hts : t ≠ s) {m : Nat} (hm : (m : Int) = (st t).dep) {d : Int} {g : Nat → Int} (h : Push l f st s t d m g) {v : Int} (hF : Flow n l s t f v) : Flow n l s t g (v + d) := by
  have hl := hT.last ht hk hm
  refine ⟨h.c, fun k h1 h2 => ?_, ?_⟩
  · rw [h.e k, hl, hF.k k h1 h2, if_neg (fun e => h1 e.symm), if_neg (fun e => h2 e.symm)]; rfl
  · rw [h.e s, hl, hF.s, if_pos rfl, if_neg (by omega)]; omega
end
end Go.Proofs.YtdkcclngionihaaDoor
/- Reaching nodes: what is called for every edge of the residue, walked. -/
namespace Go.Proofs.YtdkcclngionihaaDoor
open Go.RowKit

/-- the end of a function without results -/
theorem bodyPost_end {P : Program} {fn : Func} {R : Ending → World → Prop} {a : Act} {w : World} {v : Value} (hr : (results fn a.tmps).run P w = .ok v w) (hd : a.defers = []) (hR : R (.returned v) w) : bodyPost P fn R .normal a w := ⟨hd, v, hr, hR⟩
def Stp.cs (x : Stp) : List Value := [.int .i64 x.fr, .int .i64 x.arc, .int .i64 x.room, .bool x.fw, .bool x.kn, .int .i64 x.dep]
theorem Stp.len (x : Stp) : x.cs.length = 6 := rfl
/-- the boxes of a search: the slice's, the steps, the depth, whether something was found -/
structure RS (w : World) (gp gS gd gg : Nat) (L : List Stp) (dep : Int) (gr : Bool) : Prop where
  p : BoxIs w gp [.slice (some ⟨gS, 0, none⟩) L.length L.length]
  s : BoxIs w gS (flat Stp.cs L)
  d : BoxIs w gd [.int .i64 dep]
  g : BoxIs w gg [.bool gr]
/-- all blocks but these two are as they were -/
structure Kp (w w' : World) (gS gg : Nat) : Prop where
  sz : w.heap.size ≤ w'.heap.size
  h : ∀ g, g < w.heap.size → g ≠ gS → g ≠ gg → w'.heap[g]? = w.heap[g]?
theorem Kp.of {w : World} (y : Since w) (gS gg : Nat) : Kp w y.w gS gg := ⟨y.b.size, fun g hg _ _ => y.b.block g hg⟩
theorem Kp.trans {a b c : World} {gS gg : Nat} (h : Kp a b gS gg) (k : Kp b c gS gg) : Kp a c gS gg := ⟨Nat.le_trans h.sz k.sz, fun g hg h1 h2 => (k.h g (Nat.lt_of_lt_of_le hg h.sz) h1 h2).trans (h.h g hg h1 h2)⟩
theorem Kp.set1 (w : World) (gS gg j : Nat) (v : Value) : Kp w (w.setCell ⟨gS, j, none⟩ v) gS gg := ⟨by simp [World.setCell], fun g _ h1 _ => Below.heap_setCell w ⟨gS, j, none⟩ v g h1⟩
theorem Kp.set2 (w : World) (gS gg j : Nat) (v : Value) : Kp w (w.setCell ⟨gg, j, none⟩ v) gS gg := ⟨by simp [World.setCell], fun g _ _ h2 => Below.heap_setCell w ⟨gg, j, none⟩ v g h2⟩
theorem BoxIs.kp {w w' : World} {g gS gg : Nat} {vs : List Value} (h : BoxIs w g vs) (hk : Kp w w' gS gg) (h1 : g ≠ gS) (h2 : g ≠ gg) : BoxIs w' g vs := by
  have hb := hk.h g h.lt h1 h2
  refine ⟨Nat.lt_of_lt_of_le h.lt hk.sz, fun j v hv => ?_, fun o => ?_⟩
  · rw [World.cell?_of_block (w := w) (a := ⟨g, j, none⟩) hb]; exact h.c j v hv
  · have := h.f o
    simp only [World.frozen?] at this ⊢
    rw [hb]; exact this
/-- the step that is taken -/
def fires (L : List Stp) (dep : Int) (a b : Nat) : Bool := (L.getD a default).kn && decide ((L.getD a default).dep = dep) && !(L.getD b default).kn
def vis (L : List Stp) (dep : Int) (a b : Nat) (arc room : Int) (fw : Bool) : List Stp := if fires L dep a b = true then L.set b ⟨a, arc, room, fw, true, dep + 1⟩ else L
theorem stp_cells {w : World} {gS : Nat} {L : List Stp} (h : BoxIs w gS (flat Stp.cs L)) {k : Nat} (hk : k < L.length) : w.cell? ⟨gS, k * 6 + 4, none⟩ = some (.bool (L.getD k default).kn) ∧ w.cell? ⟨gS, k * 6 + 5, none⟩ = some (.int .i64 (L.getD k default).dep) := by
  have he : L[k]? = some (L.getD k default) := by rw [List.getD_eq_getElem?_getD, List.getElem?_eq_getElem hk]; rfl
  exact ⟨h.c _ _ (flat_at Stp.len L k _ 4 _ he rfl), h.c _ _ (flat_at Stp.len L k _ 5 _ he rfl)⟩
/-- where these boxes lie -/
structure RD (B : World) (gp gS gd gg : Nat) : Prop where
  bS : B.heap.size ≤ gS
  bg : B.heap.size ≤ gg
  pS : gp ≠ gS
  dS : gd ≠ gS
  gS : gg ≠ gS
  gp : gg ≠ gp
  gd : gg ≠ gd
theorem flat_setS (y : Stp) : ∀ (L : List Stp) (b : Nat), b < L.length → flat Stp.cs (L.set b y) = ((((((flat Stp.cs L).set (b * 6) (.int .i64 y.fr)).set (b * 6 + 1) (.int .i64 y.arc)).set (b * 6 + 2) (.int .i64 y.room)).set (b * 6 + 3) (.bool y.fw)).set (b * 6 + 4) (.bool y.kn)).set (b * 6 + 5) (.int .i64 y.dep)
  | [], b, h => by simp at h
  | x :: L, 0, _ => rfl
  | x :: L, b + 1, h => by
    have ih := flat_setS y L b (by simpa using h)
    have e : flat Stp.cs ((x :: L).set (b + 1) y) = x.cs ++ flat Stp.cs (L.set b y) := rfl
    have e2 : flat Stp.cs (x :: L) = x.cs ++ flat Stp.cs L := rfl
    rw [e, e2, ih]
    rw [List.set_append_right _ _ (by rw [Stp.len]; omega), List.set_append_right _ _ (by rw [Stp.len]; omega), List.set_append_right _ _ (by rw [Stp.len]; omega), List.set_append_right _ _ (by rw [Stp.len]; omega), List.set_append_right _ _ (by rw [Stp.len]; omega), List.set_append_right _ _ (by rw [Stp.len]; omega), Stp.len]
    rw [show (b + 1) * 6 - 6 = b * 6 by omega, show (b + 1) * 6 + 1 - 6 = b * 6 + 1 by omega, show (b + 1) * 6 + 2 - 6 = b * 6 + 2 by omega, show (b + 1) * 6 + 3 - 6 = b * 6 + 3 by omega, show (b + 1) * 6 + 4 - 6 = b * 6 + 4 by omega, show (b + 1) * 6 + 5 - 6 = b * 6 + 5 by omega]
set_option maxRecDepth 100000 in
set_option maxHeartbeats 8000000 in
theorem visit_calls (B : World) (w : World) (hB : IsSince B w) (gp gS gd gg : Nat) (hD : RD B gp gS gd gg) (L : List Stp) (dep : Int) (gr : Bool) (h : RS w gp gS gd gg L dep gr) (a b : Nat) (ha : a < L.length) (hb : b < L.length) (arc room cost : Int) (fw : Bool) (hd : 0 ≤ dep ∧ dep ≤ 100000) :
    Calls Tryd.prog 121 #[.int .i64 (a : Int), .int .i64 (b : Int), .int .i64 arc, .int .i64 room, .int .i64 cost, .bool fw, .pointer (some ⟨gp, 0, none⟩), .pointer (some ⟨gd, 0, none⟩), .pointer (some ⟨gg, 0, none⟩)] w fun o w' => o = .returned (.tuple #[]) ∧ ∃ y : Since B, w' = y.w ∧ RS y.w gp gS gd gg (vis L dep a b arc room fw) dep (gr || fires L dep a b) ∧ Kp w y.w gS gg := by
  go_enter Tryd.func121, Tryd.ntmps121
  obtain ⟨hd0, hd1⟩ := hd
  have Hh := Lib.hid h
  have HB := Lib.hid hB
  have p0 := fun q : Since w => (Hh.out.p.since q).c 0 _ rfl
  have d0 := fun q : Since w => (Hh.out.d.since q).c 0 _ rfl
  have a4 := fun q : Since w => (stp_cells (Hh.out.s.since q) ha).1
  have a5 := fun q : Since w => (stp_cells (Hh.out.s.since q) ha).2
  have b4 := fun q : Since w => (stp_cells (Hh.out.s.since q) hb).1
  have Hf := Lib.hid (show fires L dep a b = ((L.getD a default).kn && decide ((L.getD a default).dep = dep) && !(L.getD b default).kn) from rfl)
  have Hv := Lib.hid (show vis L dep a b arc room fw = if fires L dep a b = true then L.set b ⟨a, arc, room, fw, true, dep + 1⟩ else L from rfl)
  have Hbe := Lib.hid (show L[b]? = some (L.getD b default) by rw [List.getD_eq_getElem?_getD, List.getElem?_eq_getElem hb]; rfl)
  have ha0 : (0 : Int) ≤ (a : Int) := by omega
  have hal : (a : Int) < (L.length : Int) := by omega
  have hb0 : (0 : Int) ≤ (b : Int) := by omega
  have hbl : (b : Int) < (L.length : Int) := by omega
  have w1 : IntKind.i64.wrap (dep + 1) = dep + 1 := IntWalk.i64_in _ (by omega)
  have HNo := Lib.hid (fun (hf : fires L dep a b = false) (y : Since w) => show (∃ z : Since B, y.w = z.w ∧ RS z.w gp gS gd gg (vis L dep a b arc room fw) dep (gr || fires L dep a b) ∧ Kp w z.w gS gg) from by
    obtain ⟨x, rfl⟩ := HB.out
    obtain ⟨z, hz⟩ := x.trans y
    refine ⟨z, hz, ?_⟩
    rw [Hv.out, hf, ← hz, Bool.or_false]
    exact ⟨⟨Hh.out.p.since y, Hh.out.s.since y, Hh.out.d.since y, Hh.out.g.since y⟩, Kp.of y gS gg⟩)
  change Code.wp _ _ _ _ (Since.self w).w
  clear h hB
  generalize (L.getD a default).kn = ka at *
  generalize (L.getD a default).dep = da at *
  have Hway : (ka = false) ∨ (ka = true ∧ (da == dep) = false) ∨ (ka = true ∧ (da == dep) = true ∧ (L.getD b default).kn = true) ∨ (ka = true ∧ (da == dep) = true ∧ (L.getD b default).kn = false) := by
    cases ka
    · exact Or.inl rfl
    · cases h1 : (da == dep)
      · exact Or.inr (Or.inl ⟨rfl, rfl⟩)
      · cases h2 : (L.getD b default).kn
        · exact Or.inr (Or.inr (Or.inr ⟨rfl, rfl, rfl⟩))
        · exact Or.inr (Or.inr (Or.inl ⟨rfl, rfl, rfl⟩))
  rcases Hway with h1 | ⟨h1, h2⟩ | ⟨h1, h2, h3⟩ | ⟨h1, h2, h3⟩
  case inr.inr.inr =>
    subst h1
    rw [h3] at b4 Hf
    have hy : fires L dep a b = true := by rw [Hf.out]; simp at h2 ⊢; exact h2
    rw [hy] at Hv
    have HV := Lib.hid (Hv.out.trans (if_pos rfl))
    clear HNo Hf Hv h3
    go_wp2_with fail
    refine wp_region_since (by kernel_rfl) (by kernel_rfl) ?_
    repeat (go_big_quiet_step (fail))
    refine wpQuiet_nil ?_
    rintro _ ⟨z, rfl⟩
    have Hs := Lib.hid (Hh.out.s.since z)
    have Hg := Lib.hid (Hh.out.g.since z)
    have Hp := Lib.hid (Hh.out.p.since z)
    have Hd := Lib.hid (Hh.out.d.since z)
    have c0 := Hs.out.c _ _ (flat_at Stp.len L b _ 0 _ Hbe.out rfl)
    have c1 := Hs.out.c _ _ (flat_at Stp.len L b _ 1 _ Hbe.out rfl)
    have c2 := Hs.out.c _ _ (flat_at Stp.len L b _ 2 _ Hbe.out rfl)
    have c3 := Hs.out.c _ _ (flat_at Stp.len L b _ 3 _ Hbe.out rfl)
    have c4 := Hs.out.c _ _ (flat_at Stp.len L b _ 4 _ Hbe.out rfl)
    have c5 := Hs.out.c _ _ (flat_at Stp.len L b _ 5 _ Hbe.out rfl)
    have cf := Hs.out.f
    rw [Nat.add_zero] at c0
    go_upto_region 2 with fail
    clear c0 c1 c2 c3 c4 c5 cf
    have s1 := ((((((Hs.out.setj (j := b * 6) (by (try simp only [List.length_set]); have := (List.getElem?_eq_some_iff.1 (flat_at Stp.len L b _ 5 _ Hbe.out rfl)).1; omega) (.int .i64 (a : Int))).setj (j := b * 6 + 1) (by (try simp only [List.length_set]); have := (List.getElem?_eq_some_iff.1 (flat_at Stp.len L b _ 5 _ Hbe.out rfl)).1; omega) (.int .i64 arc)).setj (j := b * 6 + 2) (by (try simp only [List.length_set]); have := (List.getElem?_eq_some_iff.1 (flat_at Stp.len L b _ 5 _ Hbe.out rfl)).1; omega) (.int .i64 room)).setj (j := b * 6 + 3) (by (try simp only [List.length_set]); have := (List.getElem?_eq_some_iff.1 (flat_at Stp.len L b _ 5 _ Hbe.out rfl)).1; omega) (.bool fw)).setj (j := b * 6 + 4) (by (try simp only [List.length_set]); have := (List.getElem?_eq_some_iff.1 (flat_at Stp.len L b _ 5 _ Hbe.out rfl)).1; omega) (.bool true)).setj (j := b * 6 + 5) (by (try simp only [List.length_set]); have := (List.getElem?_eq_some_iff.1 (flat_at Stp.len L b _ 5 _ Hbe.out rfl)).1; omega) (.int .i64 (dep + 1)))
    have p1 := ((((((Hp.out.far ⟨gS, b * 6, none⟩ (.int .i64 (a : Int)) hD.pS).far ⟨gS, b * 6 + 1, none⟩ (.int .i64 arc) hD.pS).far ⟨gS, b * 6 + 2, none⟩ (.int .i64 room) hD.pS).far ⟨gS, b * 6 + 3, none⟩ (.bool fw) hD.pS).far ⟨gS, b * 6 + 4, none⟩ (.bool true) hD.pS).far ⟨gS, b * 6 + 5, none⟩ (.int .i64 (dep + 1)) hD.pS)
    have d1 := ((((((Hd.out.far ⟨gS, b * 6, none⟩ (.int .i64 (a : Int)) hD.dS).far ⟨gS, b * 6 + 1, none⟩ (.int .i64 arc) hD.dS).far ⟨gS, b * 6 + 2, none⟩ (.int .i64 room) hD.dS).far ⟨gS, b * 6 + 3, none⟩ (.bool fw) hD.dS).far ⟨gS, b * 6 + 4, none⟩ (.bool true) hD.dS).far ⟨gS, b * 6 + 5, none⟩ (.int .i64 (dep + 1)) hD.dS)
    have g1 := ((((((Hg.out.far ⟨gS, b * 6, none⟩ (.int .i64 (a : Int)) hD.gS).far ⟨gS, b * 6 + 1, none⟩ (.int .i64 arc) hD.gS).far ⟨gS, b * 6 + 2, none⟩ (.int .i64 room) hD.gS).far ⟨gS, b * 6 + 3, none⟩ (.bool fw) hD.gS).far ⟨gS, b * 6 + 4, none⟩ (.bool true) hD.gS).far ⟨gS, b * 6 + 5, none⟩ (.int .i64 (dep + 1)) hD.gS)
    obtain ⟨x, hx⟩ := HB.out
    subst hx
    obtain ⟨u0, e0⟩ := x.trans z
    obtain ⟨u1, e1⟩ := u0.set ⟨gS, b * 6, none⟩ hD.bS (.int .i64 (a : Int))
    rw [← e0] at e1
    obtain ⟨u2, e2⟩ := u1.set ⟨gS, b * 6 + 1, none⟩ hD.bS (.int .i64 arc)
    rw [← e1] at e2
    obtain ⟨u3, e3⟩ := u2.set ⟨gS, b * 6 + 2, none⟩ hD.bS (.int .i64 room)
    rw [← e2] at e3
    obtain ⟨u4, e4⟩ := u3.set ⟨gS, b * 6 + 3, none⟩ hD.bS (.bool fw)
    rw [← e3] at e4
    obtain ⟨u5, e5⟩ := u4.set ⟨gS, b * 6 + 4, none⟩ hD.bS (.bool true)
    rw [← e4] at e5
    obtain ⟨u6, e6⟩ := u5.set ⟨gS, b * 6 + 5, none⟩ hD.bS (.int .i64 (dep + 1))
    rw [← e5] at e6
    have kp : Kp _ (((((((z.w.setCell ⟨gS, b * 6, none⟩ (.int .i64 (a : Int))).setCell ⟨gS, b * 6 + 1, none⟩ (.int .i64 arc)).setCell ⟨gS, b * 6 + 2, none⟩ (.int .i64 room)).setCell ⟨gS, b * 6 + 3, none⟩ (.bool fw)).setCell ⟨gS, b * 6 + 4, none⟩ (.bool true)).setCell ⟨gS, b * 6 + 5, none⟩ (.int .i64 (dep + 1)))) gS gg := (((((Kp.of z gS gg).trans (Kp.set1 _ gS gg _ _)).trans (Kp.set1 _ gS gg _ _)).trans (Kp.set1 _ gS gg _ _)).trans (Kp.set1 _ gS gg _ _)).trans (Kp.set1 _ gS gg _ _) |>.trans (Kp.set1 _ gS gg _ _)
    rw [e6] at s1 p1 d1 g1 ⊢
    rw [← flat_setS ⟨a, arc, room, fw, true, dep + 1⟩ L b hb] at s1
    rw [e6] at kp
    have HK := Lib.hid (kp.trans (Kp.set2 _ gS gg 0 (.bool true)))
    clear kp
    have HS1 := Lib.hid s1
    have HP1 := Lib.hid p1
    have HD1 := Lib.hid d1
    have HG1 := Lib.hid g1
    have q0 := g1.c 0 _ rfl
    have qf := g1.f
    clear s1 p1 d1 g1 e0 e1 e2 e3 e4 e5 e6
    go_wp2_with fail
    have g2 := HG1.out.set1 (u := .bool true)
    have s2 := HS1.out.far ⟨gg, 0, none⟩ (.bool true) (fun h => hD.gS h.symm)
    have p2 := HP1.out.far ⟨gg, 0, none⟩ (.bool true) (fun h => hD.gp h.symm)
    have d2 := HD1.out.far ⟨gg, 0, none⟩ (.bool true) (fun h => hD.gd h.symm)
    obtain ⟨u7, e7⟩ := u6.set ⟨gg, 0, none⟩ hD.bg (.bool true)
    have kp := HK.out
    rw [e7] at g2 s2 p2 d2 kp ⊢
    refine bodyPost_end (v := .tuple #[]) (by simp [results, Tryd.results121, go_sem]) rfl ?_
    refine ⟨rfl, u7, rfl, ?_, kp⟩
    rw [HV.out, hy, Bool.or_true]
    exact ⟨by rw [List.length_set]; exact p2, s2, d2, g2⟩
  case inl =>
    subst h1
    have hn := HNo.out (by rw [Hf.out]; rfl)
    have HN := Lib.hid hn
    clear hn HNo Hf Hv
    go_wp2_with fail
    refine wp_region_since (by kernel_rfl) (by kernel_rfl) ?_
    repeat (go_big_quiet_step (fail))
    refine wpQuiet_nil ?_
    rintro _ ⟨z, rfl⟩
    go_wp2_with fail
    refine bodyPost_end (v := .tuple #[]) (by simp [results, Tryd.results121, go_sem]) rfl ?_
    exact ⟨rfl, HN.out z⟩
  case inr.inl =>
    subst h1
    have hn := HNo.out (by rw [Hf.out]; simp at h2; simp [h2])
    have HN := Lib.hid hn
    clear hn HNo Hf Hv
    go_wp2_with fail
    refine wp_region_since (by kernel_rfl) (by kernel_rfl) ?_
    repeat (go_big_quiet_step (fail))
    refine wpQuiet_nil ?_
    rintro _ ⟨z, rfl⟩
    go_wp2_with fail
    refine bodyPost_end (v := .tuple #[]) (by simp [results, Tryd.results121, go_sem]) rfl ?_
    exact ⟨rfl, HN.out z⟩
  case inr.inr.inl =>
    subst h1
    rw [h3] at b4 Hf
    have hn := HNo.out (by rw [Hf.out]; simp)
    have HN := Lib.hid hn
    clear hn HNo Hf Hv h3
    go_wp2_with fail
    refine wp_region_since (by kernel_rfl) (by kernel_rfl) ?_
    repeat (go_big_quiet_step (fail))
    refine wpQuiet_nil ?_
    rintro _ ⟨z, rfl⟩
    go_wp2_with fail
    refine bodyPost_end (v := .tuple #[]) (by simp [results, Tryd.results121, go_sem]) rfl ?_
    exact ⟨rfl, HN.out z⟩
end Go.Proofs.YtdkcclngionihaaDoor
/- Every edge of the residue is visited, walked. -/
namespace Go.Proofs.YtdkcclngionihaaDoor
open Go.RowKit

def Arc.cs (x : Arc) : List Value := [.int .i64 x.u, .int .i64 x.v, .int .i64 x.cap, .int .i64 x.cost]
theorem Arc.len (x : Arc) : x.cs.length = 4 := rfl
/-- the edge of arc i forwards, backwards; all edges of the first i arcs -/
def vis1 (l : List Arc) (f : Nat → Int) (dep : Int) (S : List Stp × Bool) (i : Nat) : List Stp × Bool :=
  if f i < (arcAt l i).cap then (vis S.1 dep (arcAt l i).u.toNat (arcAt l i).v.toNat i ((arcAt l i).cap - f i) true, S.2 || fires S.1 dep (arcAt l i).u.toNat (arcAt l i).v.toNat) else S
def vis2 (l : List Arc) (f : Nat → Int) (dep : Int) (S : List Stp × Bool) (i : Nat) : List Stp × Bool :=
  if 0 < f i then (vis S.1 dep (arcAt l i).v.toNat (arcAt l i).u.toNat i (f i) false, S.2 || fires S.1 dep (arcAt l i).v.toNat (arcAt l i).u.toNat) else S
def visN (l : List Arc) (f : Nat → Int) (dep : Int) (S : List Stp × Bool) : Nat → List Stp × Bool
  | 0 => S
  | i + 1 => vis2 l f dep (vis1 l f dep (visN l f dep S i) i) i
theorem vis_len (L : List Stp) (dep : Int) (a b : Nat) (arc room : Int) (fw : Bool) : (vis L dep a b arc room fw).length = L.length := by
  unfold vis; split
  · rw [List.length_set]
  · rfl
theorem vis1_len (l : List Arc) (f : Nat → Int) (dep : Int) (S : List Stp × Bool) (i : Nat) : (vis1 l f dep S i).1.length = S.1.length := by
  unfold vis1; split
  · exact vis_len ..
  · rfl
theorem vis2_len (l : List Arc) (f : Nat → Int) (dep : Int) (S : List Stp × Bool) (i : Nat) : (vis2 l f dep S i).1.length = S.1.length := by
  unfold vis2; split
  · exact vis_len ..
  · rfl
theorem visN_len (l : List Arc) (f : Nat → Int) (dep : Int) (S : List Stp × Bool) : ∀ i, (visN l f dep S i).1.length = S.1.length
  | 0 => rfl
  | i + 1 => by simp only [visN]; rw [vis2_len, vis1_len, visN_len l f dep S i]
theorem RS.to {w W : World} {gp gS gd gg : Nat} {L : List Stp} {dep : Int} {gr : Bool} (h : RS w gp gS gd gg L dep gr) (hW : ∃ z : Since w, W = z.w) : RS W gp gS gd gg L dep gr := ⟨h.p.to hW, h.s.to hW, h.d.to hW, h.g.to hW⟩
theorem RS.since {w : World} {gp gS gd gg : Nat} {L : List Stp} {dep : Int} {gr : Bool} (h : RS w gp gS gd gg L dep gr) (y : Since w) : RS y.w gp gS gd gg L dep gr := h.to ⟨y, rfl⟩
theorem Kp.to {w W : World} (hW : ∃ z : Since w, W = z.w) (gS gg : Nat) : Kp w W gS gg := by
  obtain ⟨z, rfl⟩ := hW; exact Kp.of z gS gg
/-- an arc's cells at every later world -/
theorem Els.arc {w : World} {a : Option Addr} {l : List Arc} (h : Els Arc.cs 4 w a l) {k : Nat} (hk : k < l.length) : ∃ b off, a = some ⟨b, off, none⟩ ∧ (∀ y : Since w, y.w.cell? ⟨b, off + k * 4, none⟩ = some (.int .i64 (arcAt l k).u)) ∧ (∀ y : Since w, y.w.cell? ⟨b, off + k * 4 + 1, none⟩ = some (.int .i64 (arcAt l k).v)) ∧ (∀ y : Since w, y.w.cell? ⟨b, off + k * 4 + 2, none⟩ = some (.int .i64 (arcAt l k).cap)) ∧ (∀ y : Since w, y.w.cell? ⟨b, off + k * 4 + 3, none⟩ = some (.int .i64 (arcAt l k).cost)) := by
  have he : l[k]? = some (arcAt l k) := by unfold arcAt; rw [List.getD_eq_getElem?_getD, List.getElem?_eq_getElem hk]; rfl
  obtain ⟨b, off, ha, hb, hc⟩ := h k _ he
  exact ⟨b, off, ha, fun y => Since.cell (hc 0 _ rfl) hb y, fun y => Since.cell (hc 1 _ rfl) hb y, fun y => Since.cell (hc 2 _ rfl) hb y, fun y => Since.cell (hc 3 _ rfl) hb y⟩
theorem visit_int (B : World) (gp gS gd gg : Nat) (hD : RD B gp gS gd gg) (n : Nat) (dep : Int) (hd : 0 ≤ dep ∧ dep ≤ 100000) (w : World) (hB : IsSince B w) (S : List Stp × Bool) (hS : S.1.length = n) (h : RS w gp gS gd gg S.1 dep S.2) (a b : Int) (ha : 0 ≤ a ∧ a < n) (hb : 0 ≤ b ∧ b < n) (arc : Nat) (room cost : Int) (fw : Bool) :
    Calls Tryd.prog 121 #[.int .i64 a, .int .i64 b, .int .i64 (arc : Int), .int .i64 room, .int .i64 cost, .bool fw, .pointer (some ⟨gp, 0, none⟩), .pointer (some ⟨gd, 0, none⟩), .pointer (some ⟨gg, 0, none⟩)] w fun o w' => o = .returned (.tuple #[]) ∧ ∃ y : Since B, w' = y.w ∧ RS y.w gp gS gd gg (vis S.1 dep a.toNat b.toNat arc room fw) dep (S.2 || fires S.1 dep a.toNat b.toNat) ∧ Kp w y.w gS gg := by
  obtain ⟨a', rfl⟩ := Int.eq_ofNat_of_zero_le ha.1
  obtain ⟨b', rfl⟩ := Int.eq_ofNat_of_zero_le hb.1
  exact visit_calls B w hB gp gS gd gg hD S.1 dep S.2 h a' b' (by omega) (by omega) arc room cost fw hd
set_option linter.unusedSimpArgs false in
set_option maxRecDepth 100000 in
set_option maxHeartbeats 8000000 in
theorem each120_calls (B : World) (x : Since B) (gp gS gd gg : Nat) (hD : RD B gp gS gd gg) (L : List Stp) (dep : Int) (gr : Bool) (h : RS x.w gp gS gd gg L dep gr) (l : List Arc) (F : List Int) (n : Int) (aa ao : Option Addr) (ca co : Nat)
    (hA : Els Arc.cs 4 B aa l) (hF : IntRow B ao F) (hFl : F.length = l.length) (hok : NetOk L.length l) (hr : ∀ i, i < l.length → (0 ≤ at0 F i ∧ at0 F i ≤ 65536) ∧ (arcAt l i).cap ≤ 65536 ∧ 0 ≤ (arcAt l i).cost ∧ (arcAt l i).cost ≤ 65536) (hl : l.length ≤ 512) (hd : 0 ≤ dep ∧ dep ≤ 100000) :
    Calls Tryd.prog 120 #[.agg #[.int .i64 n, .slice aa l.length ca, .slice ao F.length co], .func (.func 121) #[] #[.pointer (some ⟨gp, 0, none⟩), .pointer (some ⟨gd, 0, none⟩), .pointer (some ⟨gg, 0, none⟩)]] x.w fun o w' => o = .returned (.tuple #[]) ∧ ∃ y : Since B, w' = y.w ∧ RS y.w gp gS gd gg (visN l (at0 F) dep (L, gr) l.length).1 dep (visN l (at0 F) dep (L, gr) l.length).2 ∧ Kp x.w y.w gS gg := by
  have Hh := Lib.hid h
  have HA := Lib.hid hA
  have HF := Lib.hid hF
  have Hok := Lib.hid hok
  have Hr := Lib.hid hr
  have HFl := Lib.hid hFl
  have Hl := Lib.hid hl
  have HV := Lib.hid (visit_int B gp gS gd gg hD L.length dep hd)
  clear h hA hF hok hr hFl hl
  obtain ⟨m, hm⟩ : ∃ m, m = l.length := ⟨_, rfl⟩
  obtain ⟨m2, hm2⟩ : ∃ m, m = F.length := ⟨_, rfl⟩
  rw [← hm, ← hm2]
  have Hm := Lib.hid hm
  have Hm2 := Lib.hid hm2
  have hml : m ≤ 512 := by rw [hm]; exact Hl.out
  clear hm hm2
  go_enter Tryd.func120, Tryd.ntmps120
  go_upto_region 1 with fail
  have hx0 : (x.w.alloc (.cells #[.int .i64 n, .slice aa m ca, .slice ao m2 co] 130)).cell? ⟨x.w.heap.size, 0, none⟩ = some (.int .i64 n) := by simp [go_sem]
  have hx1 : (x.w.alloc (.cells #[.int .i64 n, .slice aa m ca, .slice ao m2 co] 130)).cell? ⟨x.w.heap.size, 1, none⟩ = some (.slice aa m ca) := by simp [go_sem]
  have hx2 : (x.w.alloc (.cells #[.int .i64 n, .slice aa m ca, .slice ao m2 co] 130)).cell? ⟨x.w.heap.size, 2, none⟩ = some (.slice ao m2 co) := by simp [go_sem]
  have hxf : ∀ o, (x.w.alloc (.cells #[.int .i64 n, .slice aa m ca, .slice ao m2 co] 130)).frozen? ⟨x.w.heap.size, o, none⟩ = false := fun o => by simp [go_sem]
  have hlt0 : x.w.heap.size < (x.w.alloc (.cells #[.int .i64 n, .slice aa m ca, .slice ao m2 co] 130)).heap.size := by simp
  have hst0 : ∃ zz : Since x.w, (x.w.alloc (.cells #[.int .i64 n, .slice aa m ca, .slice ao m2 co] 130)) = zz.w := IsSince.alloc (IsSince.self _) _
  have hsz0 := x.b.size
  obtain ⟨y1, e2⟩ := IsSince.alloc (IsSince.of x) (.cells #[.int .i64 n, .slice aa m ca, .slice ao m2 co] 130)
  rw [e2] at hx0 hx1 hx2 hxf hlt0 hst0 ⊢
  (have hbx := BoxIs.new x.w [.int .i64 n, .slice aa m ca, .slice ao m2 co] 130; rw [e2] at hbx; have hbS : x.w.heap.size ≠ gS := (by have := Hh.out.s.lt; omega); have hbg : x.w.heap.size ≠ gg := (by have := Hh.out.g.lt; omega); have hR1 := Hh.out.to hst0; have hK1 := Kp.to hst0 gS gg)
  clear e2 hst0
  generalize x.w.heap.size = bx at *
  have Hhx0 : ∀ q : Since y1.w, q.w.cell? ⟨bx, 0, none⟩ = some (.int .i64 n) := fun q => Since.cell hx0 (by omega) q
  have Hhx1 : ∀ q : Since y1.w, q.w.cell? ⟨bx, 1, none⟩ = some (.slice aa m ca) := fun q => Since.cell hx1 (by omega) q
  have Hhx2 : ∀ q : Since y1.w, q.w.cell? ⟨bx, 2, none⟩ = some (.slice ao m2 co) := fun q => Since.cell hx2 (by omega) q
  have Hhxf : ∀ (q : Since y1.w) (o : Nat), q.w.frozen? ⟨bx, o, none⟩ = false := fun q o => Since.free (hxf o) (by omega) q
  have Hhxg := Lib.hid (And.intro hsz0 hlt0)
  clear hlt0 hsz0
  have HR1 := Lib.hid hR1; have HK1 := Lib.hid hK1; have HBX := Lib.hid hbx
  clear hR1 hK1 hbx Hhx0 Hhx2 Hhxf Hhxg hx0 hx1 hx2 hxf Hh
  change Code.wp _ _ _ _ (Since.self y1.w).w
  go_wp2_with fail
  go_loopw [10] (fun si wr => ∃ (k : Nat) (y : Since B), k ≤ m ∧ si = .int .i64 (k : Int) ∧ wr = y.w ∧ RS y.w gp gS gd gg (visN l (at0 F) dep (L, gr) k).1 dep (visN l (at0 F) dep (L, gr) k).2 ∧ BoxIs y.w bx [.int .i64 n, .slice aa m ca, .slice ao m2 co] ∧ Kp x.w y.w gS gg) (fun si _ => m - (intOf si).toNat)
  case atStart => exact ⟨0, y1, by omega, rfl, rfl, HR1.out, HBX.out, HK1.out⟩
  case round =>
    obtain ⟨k, y, hk, rfl, rfl, hR, hX, hK⟩ := hrel
    clear HR1 HK1 HBX Hhx1
    have HR := Lib.hid hR; have HX := Lib.hid hX; have HK := Lib.hid hK
    clear hR hX hK
    by_cases hlt : k < m
    · have hk0 : (0 : Int) ≤ (k : Int) := by omega
      have hkl : (k : Int) < (m : Int) := by omega
      have hkm : (k : Int) < (m2 : Int) := by have := Hm.out; have := Hm2.out; have := HFl.out; omega
      obtain ⟨b1, o1, rfl, a0, a1, a2, a3⟩ := HA.out.arc (k := k) (by have := Hm.out; omega)
      obtain ⟨b2, o2, rfl, hb2, hc2⟩ := HF.out k (by have := Hm.out; have := HFl.out; omega)
      have f0 : ∀ y : Since B, y.w.cell? ⟨b2, o2 + k, none⟩ = some (.int .i64 (at0 F k)) := Since.cell hc2 hb2
      clear hb2 hc2
      obtain ⟨⟨hf0, hf1⟩, hc1, hw0, hw1⟩ := Hr.out k (by have := Hm.out; omega)
      obtain ⟨hu, hv, hc0⟩ := Hok.out k (by have := Hm.out; omega)
      have HE1 := Lib.hid (show ∀ S : List Stp × Bool, vis1 l (at0 F) dep S k = if at0 F k < (arcAt l k).cap then (vis S.1 dep (arcAt l k).u.toNat (arcAt l k).v.toNat k ((arcAt l k).cap - at0 F k) true, S.2 || fires S.1 dep (arcAt l k).u.toNat (arcAt l k).v.toNat) else S from fun S => rfl)
      have HE2 := Lib.hid (show ∀ S : List Stp × Bool, vis2 l (at0 F) dep S k = if 0 < at0 F k then (vis S.1 dep (arcAt l k).v.toNat (arcAt l k).u.toNat k (at0 F k) false, S.2 || fires S.1 dep (arcAt l k).v.toNat (arcAt l k).u.toNat) else S from fun S => rfl)
      have HL1 := Lib.hid (visN_len l (at0 F) dep (L, gr) k)
      have HL2 := Lib.hid (vis1_len l (at0 F) dep (visN l (at0 F) dep (L, gr) k) k)
      have HN := Lib.hid (show visN l (at0 F) dep (L, gr) (k + 1) = vis2 l (at0 F) dep (vis1 l (at0 F) dep (visN l (at0 F) dep (L, gr) k) k) k from rfl)
      generalize visN l (at0 F) dep (L, gr) k = S at *
      obtain ⟨S3, hS3⟩ : ∃ S3, S3 = visN l (at0 F) dep (L, gr) (k + 1) := ⟨_, rfl⟩
      rw [← hS3] at HN
      have HS3 := Lib.hid hS3
      clear hS3
      generalize arcAt l k = e at *
      generalize at0 F k = f at *
      have f0' := f0
      clear Hok Hr
      go_upto_region 4 with fail
      have hq0 : (y.w.alloc (.cells #[.int .i64 e.u, .int .i64 e.v, .int .i64 e.cap, .int .i64 e.cost] 127)).cell? ⟨y.w.heap.size, 0, none⟩ = some (.int .i64 e.u) := by simp [go_sem]
      have hq1 : (y.w.alloc (.cells #[.int .i64 e.u, .int .i64 e.v, .int .i64 e.cap, .int .i64 e.cost] 127)).cell? ⟨y.w.heap.size, 1, none⟩ = some (.int .i64 e.v) := by simp [go_sem]
      have hq2 : (y.w.alloc (.cells #[.int .i64 e.u, .int .i64 e.v, .int .i64 e.cap, .int .i64 e.cost] 127)).cell? ⟨y.w.heap.size, 2, none⟩ = some (.int .i64 e.cap) := by simp [go_sem]
      have hq3 : (y.w.alloc (.cells #[.int .i64 e.u, .int .i64 e.v, .int .i64 e.cap, .int .i64 e.cost] 127)).cell? ⟨y.w.heap.size, 3, none⟩ = some (.int .i64 e.cost) := by simp [go_sem]
      have hqf : ∀ o, (y.w.alloc (.cells #[.int .i64 e.u, .int .i64 e.v, .int .i64 e.cap, .int .i64 e.cost] 127)).frozen? ⟨y.w.heap.size, o, none⟩ = false := fun o => by simp [go_sem]
      have hlt0 : y.w.heap.size < (y.w.alloc (.cells #[.int .i64 e.u, .int .i64 e.v, .int .i64 e.cap, .int .i64 e.cost] 127)).heap.size := by simp
      have hst0 : ∃ zz : Since y.w, (y.w.alloc (.cells #[.int .i64 e.u, .int .i64 e.v, .int .i64 e.cap, .int .i64 e.cost] 127)) = zz.w := IsSince.alloc (IsSince.self _) _
      have hsz0 := y.b.size
      obtain ⟨y2, e2⟩ := IsSince.alloc (IsSince.of y) (.cells #[.int .i64 e.u, .int .i64 e.v, .int .i64 e.cap, .int .i64 e.cost] 127)
      rw [e2] at hq0 hq1 hq2 hq3 hqf hlt0 hst0 ⊢
      (have hax := BoxIs.new y.w [.int .i64 e.u, .int .i64 e.v, .int .i64 e.cap, .int .i64 e.cost] 127; rw [e2] at hax; have haS : y.w.heap.size ≠ gS := (by have := HR.out.s.lt; omega); have hag : y.w.heap.size ≠ gg := (by have := HR.out.g.lt; omega); have hR2 := HR.out.to hst0; have hX2 := HX.out.to hst0; have hK2 := HK.out.trans (Kp.to hst0 gS gg))
      clear e2 hst0
      generalize y.w.heap.size = ga at *
      have Hhq0 : ∀ q : Since y2.w, q.w.cell? ⟨ga, 0, none⟩ = some (.int .i64 e.u) := fun q => Since.cell hq0 (by omega) q
      have Hhq1 : ∀ q : Since y2.w, q.w.cell? ⟨ga, 1, none⟩ = some (.int .i64 e.v) := fun q => Since.cell hq1 (by omega) q
      have Hhq2 : ∀ q : Since y2.w, q.w.cell? ⟨ga, 2, none⟩ = some (.int .i64 e.cap) := fun q => Since.cell hq2 (by omega) q
      have Hhq3 : ∀ q : Since y2.w, q.w.cell? ⟨ga, 3, none⟩ = some (.int .i64 e.cost) := fun q => Since.cell hq3 (by omega) q
      have Hhqf : ∀ (q : Since y2.w) (o : Nat), q.w.frozen? ⟨ga, o, none⟩ = false := fun q o => Since.free (hqf o) (by omega) q
      have Hhqg := Lib.hid (And.intro hsz0 hlt0)
      clear hlt0 hsz0
      have HR2 := Lib.hid hR2; have HX2 := Lib.hid hX2; have HK2 := Lib.hid hK2; have HAX := Lib.hid hax
      clear hR2 hX2 hK2 hax HR HX HK hq0 hq1 hq2 hq3 hqf Hhqf Hhqg
      have k0 := fun q : Since y2.w => (HX2.out.since q).c 0 _ rfl
      have k1 := fun q : Since y2.w => (HX2.out.since q).c 1 _ rfl
      have k2 := fun q : Since y2.w => (HX2.out.since q).c 2 _ rfl
      replace f0 := Since.cellTo ⟨y2, rfl⟩ f0
      change Code.wp _ _ _ _ (Since.self y2.w).w
      have HU := Lib.hid (fun w' (h : IsSince y2.w w') => show IsSince B w' from by obtain ⟨q, hq⟩ := h; obtain ⟨z', hz'⟩ := y2.trans q; exact ⟨z', hq.trans hz'⟩)
      by_cases h1 : f < e.cap
      · have HE := Lib.hid ((HE1.out S).trans (if_pos h1))
        clear HE1
        refine wp_region_since (by kernel_rfl) (by kernel_rfl) ?_
        repeat (go_big_quiet_step (fail))
        refine wpQuiet_nil ?_
        rintro _ ⟨z, rfl⟩
        go_upto_region 5 with fail
        have i1 := fun w' (h : IsSince y2.w w') => IsSince.cell k1 h
        have i2 := fun w' (h : IsSince y2.w w') => IsSince.cell k2 h
        have j0 := fun w' (h : IsSince y2.w w') => IsSince.cell Hhq0 h
        have j1 := fun w' (h : IsSince y2.w w') => IsSince.cell Hhq1 h
        have j2 := fun w' (h : IsSince y2.w w') => IsSince.cell Hhq2 h
        have j3 := fun w' (h : IsSince y2.w w') => IsSince.cell Hhq3 h
        have g0 := fun w' (h : IsSince y2.w w') => IsSince.cell f0 h
        have ws : IntKind.i64.wrap (e.cap - f) = e.cap - f := IntWalk.i64_in _ (by omega)
        refine wp_region_M (fun w' => IsSince y2.w w') 16 (by kernel_rfl) (IsSince.drew' (IsSince.of z)) (fun hS => ?_)
        refine wpAnyM_takeU (i := 0) (v := ?_) rfl (by kernel_rfl) (by kernel_rfl) (by kernel_rfl) (by kernel_rfl) (fun _ _ _ h => h) hS (Or.inl ⟨by rfl, ?_⟩) ?_
        rotate_left
        · (intro w hSw; (try dsimp only at hSw); go_split_ands; go_simp; try (with_reducible rfl))
        (try simp only [Act.put, List.setIfInBounds_toArray, List.set_cons_zero, List.set_cons_succ])
        refine wpAnyM_takeU (i := 1) (v := ?_) rfl (by kernel_rfl) (by kernel_rfl) (by kernel_rfl) (by kernel_rfl) (fun _ _ _ h => h) hS (Or.inl ⟨by rfl, ?_⟩) ?_
        rotate_left
        · (intro w hSw; (try dsimp only at hSw); go_split_ands; go_simp; try (with_reducible rfl))
        (try simp only [Act.put, List.setIfInBounds_toArray, List.set_cons_zero, List.set_cons_succ])
        refine wpAnyM_takeU (i := 2) (v := ?_) rfl (by kernel_rfl) (by kernel_rfl) (by kernel_rfl) (by kernel_rfl) (fun _ _ _ h => h) hS (Or.inl ⟨by rfl, ?_⟩) ?_
        rotate_left
        · (intro w hSw; (try dsimp only at hSw); go_split_ands; go_simp; try (with_reducible rfl))
        (try simp only [Act.put, List.setIfInBounds_toArray, List.set_cons_zero, List.set_cons_succ])
        refine wpAnyM_takeU (i := 3) (v := ?_) rfl (by kernel_rfl) (by kernel_rfl) (by kernel_rfl) (by kernel_rfl) (fun _ _ _ h => h) hS (Or.inl ⟨by rfl, ?_⟩) ?_
        rotate_left
        · (intro w hSw; (try dsimp only at hSw); go_split_ands; go_simp; try (with_reducible rfl))
        (try simp only [Act.put, List.setIfInBounds_toArray, List.set_cons_zero, List.set_cons_succ])
        refine wpAnyM_takeU (i := 4) (v := ?_) rfl (by kernel_rfl) (by kernel_rfl) (by kernel_rfl) (by kernel_rfl) (fun _ _ _ h => h) hS (Or.inl ⟨by rfl, ?_⟩) ?_
        rotate_left
        · (intro w hSw; (try dsimp only at hSw); go_split_ands; go_simp; try (with_reducible rfl))
        (try simp only [Act.put, List.setIfInBounds_toArray, List.set_cons_zero, List.set_cons_succ])
        refine wpAnyM_takeU (i := 5) (v := ?_) rfl (by kernel_rfl) (by kernel_rfl) (by kernel_rfl) (by kernel_rfl) (fun _ _ _ h => h) hS (Or.inl ⟨by rfl, ?_⟩) ?_
        rotate_left
        · (intro w hSw; (try dsimp only at hSw); go_split_ands; go_simp; try (with_reducible rfl))
        (try simp only [Act.put, List.setIfInBounds_toArray, List.set_cons_zero, List.set_cons_succ])
        refine wpAnyM_takeU (i := 6) (v := ?_) rfl (by kernel_rfl) (by kernel_rfl) (by kernel_rfl) (by kernel_rfl) (fun _ _ _ h => h) hS (Or.inl ⟨by rfl, ?_⟩) ?_
        rotate_left
        · (intro w hSw; (try dsimp only at hSw); go_split_ands; go_simp; try (with_reducible rfl))
        (try simp only [Act.put, List.setIfInBounds_toArray, List.set_cons_zero, List.set_cons_succ])
        refine wpAnyM_takeU (i := 7) (v := ?_) rfl (by kernel_rfl) (by kernel_rfl) (by kernel_rfl) (by kernel_rfl) (fun _ _ _ h => h) hS (Or.inl ⟨by rfl, ?_⟩) ?_
        rotate_left
        · (intro w hSw; (try dsimp only at hSw); go_split_ands; go_simp; try (with_reducible rfl))
        (try simp only [Act.put, List.setIfInBounds_toArray, List.set_cons_zero, List.set_cons_succ])
        refine wpAnyM_takeU (i := 8) (v := ?_) rfl (by kernel_rfl) (by kernel_rfl) (by kernel_rfl) (by kernel_rfl) (fun _ _ _ h => h) hS (Or.inl ⟨by rfl, ?_⟩) ?_
        rotate_left
        · (intro w hSw; (try dsimp only at hSw); go_split_ands; go_simp; try (with_reducible rfl))
        (try simp only [Act.put, List.setIfInBounds_toArray, List.set_cons_zero, List.set_cons_succ])
        refine wpAnyM_takeU (i := 9) (v := ?_) rfl (by kernel_rfl) (by kernel_rfl) (by kernel_rfl) (by kernel_rfl) (fun _ _ _ h => h) hS (Or.inl ⟨by rfl, ?_⟩) ?_
        rotate_left
        · (intro w hSw; (try dsimp only at hSw); go_split_ands; go_simp; try (with_reducible rfl))
        (try simp only [Act.put, List.setIfInBounds_toArray, List.set_cons_zero, List.set_cons_succ])
        refine wpAnyM_takeU (i := 10) (v := ?_) rfl (by kernel_rfl) (by kernel_rfl) (by kernel_rfl) (by kernel_rfl) (fun _ _ _ h => h) hS (Or.inl ⟨by rfl, ?_⟩) ?_
        rotate_left
        · (intro w hSw; (try dsimp only at hSw); go_split_ands; go_simp; try (with_reducible rfl))
        (try simp only [Act.put, List.setIfInBounds_toArray, List.set_cons_zero, List.set_cons_succ])
        refine wpAnyM_takeU (i := 11) (v := ?_) rfl (by kernel_rfl) (by kernel_rfl) (by kernel_rfl) (by kernel_rfl) (fun _ _ _ h => h) hS (Or.inl ⟨by rfl, ?_⟩) ?_
        rotate_left
        · (intro w hSw; (try dsimp only at hSw); go_split_ands; go_simp; try (with_reducible rfl))
        (try simp only [Act.put, List.setIfInBounds_toArray, List.set_cons_zero, List.set_cons_succ])
        refine wpAnyM_takeU (i := 12) (v := ?_) rfl (by kernel_rfl) (by kernel_rfl) (by kernel_rfl) (by kernel_rfl) (fun _ _ _ h => h) hS (Or.inl ⟨by rfl, ?_⟩) ?_
        rotate_left
        · (intro w hSw; (try dsimp only at hSw); go_split_ands; go_simp; try (with_reducible rfl))
        (try simp only [Act.put, List.setIfInBounds_toArray, List.set_cons_zero, List.set_cons_succ])
        refine wpAnyM_takeU (i := 13) (v := ?_) rfl (by kernel_rfl) (by kernel_rfl) (by kernel_rfl) (by kernel_rfl) (fun _ _ _ h => h) hS (Or.inl ⟨by rfl, ?_⟩) ?_
        rotate_left
        · (intro w hSw; (try dsimp only at hSw); go_split_ands; go_simp; try (with_reducible rfl))
        (try simp only [Act.put, List.setIfInBounds_toArray, List.set_cons_zero, List.set_cons_succ])
        refine wpAnyM_takeU (i := 14) (v := ?_) rfl (by kernel_rfl) (by kernel_rfl) (by kernel_rfl) (by kernel_rfl) (fun _ _ _ h => h) hS (Or.inl ⟨by rfl, ?_⟩) ?_
        rotate_left
        · (intro w hSw; (try dsimp only at hSw); go_split_ands; go_simp; try (with_reducible rfl))
        (try simp only [Act.put, List.setIfInBounds_toArray, List.set_cons_zero, List.set_cons_succ])
        refine wpAnyM_takeU (i := 15) (v := ?_) rfl (by kernel_rfl) (by kernel_rfl) (by kernel_rfl) (by kernel_rfl) (fun _ _ _ h => h) hS (Or.inl ⟨by rfl, ?_⟩) ?_
        rotate_left
        · (intro w hSw; (try dsimp only at hSw); go_split_ands; go_simp; try (with_reducible rfl))
        (try simp only [Act.put, List.setIfInBounds_toArray, List.set_cons_zero, List.set_cons_succ])
        refine wpAnyM_one (i := 16) (by kernel_rfl) rfl (fun K hK => ?_)
        (go_simp; have hT := HR2.out.to hS; (with_reducible refine (HV.out _ (HU.out _ hS) S HL1.out hT e.u e.v hu hv k (e.cap - f) e.cost true).mono ?_); rintro _ _ ⟨rfl, y3, rfl, hR3, hK3⟩; have hX3 := (HX2.out.to hS).kp hK3 hbS hbg; have hA3 := (HAX.out.to hS).kp hK3 haS hag; replace hK3 := HK2.out.trans ((Kp.to hS gS gg).trans hK3))
        refine hK.out _ _ (Or.inl rfl) (fun _ => ?_)
        clear hK K hS
        (try simp only [Act.put, List.setIfInBounds_toArray, List.set_cons_zero, List.set_cons_succ])
        refine wpAnyM_done (by kernel_rfl) ?_
        have HR3 := Lib.hid (show RS y3.w gp gS gd gg (vis1 l (at0 F) dep S k).1 dep (vis1 l (at0 F) dep S k).2 by rw [HE.out]; exact hR3)
        have HX3 := Lib.hid hX3; have HA3 := Lib.hid hA3; have HK3 := Lib.hid hK3
        clear hR3 hX3 hA3 hK3 i1 i2 j0 j1 j2 j3 g0 ws HE h1 HR2 HX2 HAX HK2 HU k0 k1 k2 f0 Hhq0 Hhq1 Hhq2 Hhq3
        go_upto_region 6 with fail
        have k0 := fun q : Since y3.w => (HX3.out.since q).c 0 _ rfl
        have k1 := fun q : Since y3.w => (HX3.out.since q).c 1 _ rfl
        have k2 := fun q : Since y3.w => (HX3.out.since q).c 2 _ rfl
        have h0 := fun q : Since y3.w => (HA3.out.since q).c 0 _ rfl
        have h1 := fun q : Since y3.w => (HA3.out.since q).c 1 _ rfl
        have h3 := fun q : Since y3.w => (HA3.out.since q).c 3 _ rfl
        have f0 := Since.cellTo ⟨y3, rfl⟩ f0'
        have HU := Lib.hid (fun w' (h : IsSince y3.w w') => show IsSince B w' from by obtain ⟨q, hq⟩ := h; obtain ⟨z', hz'⟩ := y3.trans q; exact ⟨z', hq.trans hz'⟩)
        change Code.wp _ _ _ _ (Since.self y3.w).w
        by_cases h2 : 0 < f
        · have HE := Lib.hid (HN.out.trans ((HE2.out _).trans (if_pos h2)))
          have hlen := HL2.out.trans HL1.out
          clear HE2 HN
          generalize vis1 l (at0 F) dep S k = S2 at *
          go_upto_region 7 with fail
          have i1 := fun w' (h : IsSince y3.w w') => IsSince.cell k2 h
          have j0 := fun w' (h : IsSince y3.w w') => IsSince.cell h0 h
          have j1 := fun w' (h : IsSince y3.w w') => IsSince.cell h1 h
          have j3 := fun w' (h : IsSince y3.w w') => IsSince.cell h3 h
          have g0 := fun w' (h : IsSince y3.w w') => IsSince.cell f0 h
          have ws : IntKind.i64.wrap (-e.cost) = -e.cost := IntWalk.i64_in _ (by omega)
          refine wp_region_M (fun w' => IsSince y3.w w') 14 (by kernel_rfl) (IsSince.drew' (IsSince.self _)) (fun hS => ?_)
          refine wpAnyM_takeU (i := 0) (v := ?_) rfl (by kernel_rfl) (by kernel_rfl) (by kernel_rfl) (by kernel_rfl) (fun _ _ _ h => h) hS (Or.inl ⟨by rfl, ?_⟩) ?_
          rotate_left
          · (intro w hSw; (try dsimp only at hSw); go_split_ands; go_simp; try (with_reducible rfl))
          (try simp only [Act.put, List.setIfInBounds_toArray, List.set_cons_zero, List.set_cons_succ])
          refine wpAnyM_takeU (i := 1) (v := ?_) rfl (by kernel_rfl) (by kernel_rfl) (by kernel_rfl) (by kernel_rfl) (fun _ _ _ h => h) hS (Or.inl ⟨by rfl, ?_⟩) ?_
          rotate_left
          · (intro w hSw; (try dsimp only at hSw); go_split_ands; go_simp; try (with_reducible rfl))
          (try simp only [Act.put, List.setIfInBounds_toArray, List.set_cons_zero, List.set_cons_succ])
          refine wpAnyM_takeU (i := 2) (v := ?_) rfl (by kernel_rfl) (by kernel_rfl) (by kernel_rfl) (by kernel_rfl) (fun _ _ _ h => h) hS (Or.inl ⟨by rfl, ?_⟩) ?_
          rotate_left
          · (intro w hSw; (try dsimp only at hSw); go_split_ands; go_simp; try (with_reducible rfl))
          (try simp only [Act.put, List.setIfInBounds_toArray, List.set_cons_zero, List.set_cons_succ])
          refine wpAnyM_takeU (i := 3) (v := ?_) rfl (by kernel_rfl) (by kernel_rfl) (by kernel_rfl) (by kernel_rfl) (fun _ _ _ h => h) hS (Or.inl ⟨by rfl, ?_⟩) ?_
          rotate_left
          · (intro w hSw; (try dsimp only at hSw); go_split_ands; go_simp; try (with_reducible rfl))
          (try simp only [Act.put, List.setIfInBounds_toArray, List.set_cons_zero, List.set_cons_succ])
          refine wpAnyM_takeU (i := 4) (v := ?_) rfl (by kernel_rfl) (by kernel_rfl) (by kernel_rfl) (by kernel_rfl) (fun _ _ _ h => h) hS (Or.inl ⟨by rfl, ?_⟩) ?_
          rotate_left
          · (intro w hSw; (try dsimp only at hSw); go_split_ands; go_simp; try (with_reducible rfl))
          (try simp only [Act.put, List.setIfInBounds_toArray, List.set_cons_zero, List.set_cons_succ])
          refine wpAnyM_takeU (i := 5) (v := ?_) rfl (by kernel_rfl) (by kernel_rfl) (by kernel_rfl) (by kernel_rfl) (fun _ _ _ h => h) hS (Or.inl ⟨by rfl, ?_⟩) ?_
          rotate_left
          · (intro w hSw; (try dsimp only at hSw); go_split_ands; go_simp; try (with_reducible rfl))
          (try simp only [Act.put, List.setIfInBounds_toArray, List.set_cons_zero, List.set_cons_succ])
          refine wpAnyM_takeU (i := 6) (v := ?_) rfl (by kernel_rfl) (by kernel_rfl) (by kernel_rfl) (by kernel_rfl) (fun _ _ _ h => h) hS (Or.inl ⟨by rfl, ?_⟩) ?_
          rotate_left
          · (intro w hSw; (try dsimp only at hSw); go_split_ands; go_simp; try (with_reducible rfl))
          (try simp only [Act.put, List.setIfInBounds_toArray, List.set_cons_zero, List.set_cons_succ])
          refine wpAnyM_takeU (i := 7) (v := ?_) rfl (by kernel_rfl) (by kernel_rfl) (by kernel_rfl) (by kernel_rfl) (fun _ _ _ h => h) hS (Or.inl ⟨by rfl, ?_⟩) ?_
          rotate_left
          · (intro w hSw; (try dsimp only at hSw); go_split_ands; go_simp; try (with_reducible rfl))
          (try simp only [Act.put, List.setIfInBounds_toArray, List.set_cons_zero, List.set_cons_succ])
          refine wpAnyM_takeU (i := 8) (v := ?_) rfl (by kernel_rfl) (by kernel_rfl) (by kernel_rfl) (by kernel_rfl) (fun _ _ _ h => h) hS (Or.inl ⟨by rfl, ?_⟩) ?_
          rotate_left
          · (intro w hSw; (try dsimp only at hSw); go_split_ands; go_simp; try (with_reducible rfl))
          (try simp only [Act.put, List.setIfInBounds_toArray, List.set_cons_zero, List.set_cons_succ])
          refine wpAnyM_takeU (i := 9) (v := ?_) rfl (by kernel_rfl) (by kernel_rfl) (by kernel_rfl) (by kernel_rfl) (fun _ _ _ h => h) hS (Or.inl ⟨by rfl, ?_⟩) ?_
          rotate_left
          · (intro w hSw; (try dsimp only at hSw); go_split_ands; go_simp; try (with_reducible rfl))
          (try simp only [Act.put, List.setIfInBounds_toArray, List.set_cons_zero, List.set_cons_succ])
          refine wpAnyM_takeU (i := 10) (v := ?_) rfl (by kernel_rfl) (by kernel_rfl) (by kernel_rfl) (by kernel_rfl) (fun _ _ _ h => h) hS (Or.inl ⟨by rfl, ?_⟩) ?_
          rotate_left
          · (intro w hSw; (try dsimp only at hSw); go_split_ands; go_simp; try (with_reducible rfl))
          (try simp only [Act.put, List.setIfInBounds_toArray, List.set_cons_zero, List.set_cons_succ])
          refine wpAnyM_takeU (i := 11) (v := ?_) rfl (by kernel_rfl) (by kernel_rfl) (by kernel_rfl) (by kernel_rfl) (fun _ _ _ h => h) hS (Or.inl ⟨by rfl, ?_⟩) ?_
          rotate_left
          · (intro w hSw; (try dsimp only at hSw); go_split_ands; go_simp; try (with_reducible rfl))
          (try simp only [Act.put, List.setIfInBounds_toArray, List.set_cons_zero, List.set_cons_succ])
          refine wpAnyM_takeU (i := 12) (v := ?_) rfl (by kernel_rfl) (by kernel_rfl) (by kernel_rfl) (by kernel_rfl) (fun _ _ _ h => h) hS (Or.inl ⟨by rfl, ?_⟩) ?_
          rotate_left
          · (intro w hSw; (try dsimp only at hSw); go_split_ands; go_simp; try (with_reducible rfl))
          (try simp only [Act.put, List.setIfInBounds_toArray, List.set_cons_zero, List.set_cons_succ])
          refine wpAnyM_takeU (i := 13) (v := ?_) rfl (by kernel_rfl) (by kernel_rfl) (by kernel_rfl) (by kernel_rfl) (fun _ _ _ h => h) hS (Or.inl ⟨by rfl, ?_⟩) ?_
          rotate_left
          · (intro w hSw; (try dsimp only at hSw); go_split_ands; go_simp; try (with_reducible rfl))
          (try simp only [Act.put, List.setIfInBounds_toArray, List.set_cons_zero, List.set_cons_succ])
          refine wpAnyM_one (i := 14) (by kernel_rfl) rfl (fun K hK => ?_)
          (go_simp; have hT := HR3.out.to hS; (with_reducible refine (HV.out _ (HU.out _ hS) S2 hlen hT e.v e.u hv hu k f (-e.cost) false).mono ?_); rintro _ _ ⟨rfl, y4, rfl, hR4, hK4⟩; have hX4 := (HX3.out.to hS).kp hK4 hbS hbg; replace hK4 := HK3.out.trans ((Kp.to hS gS gg).trans hK4))
          refine hK.out _ _ (Or.inl rfl) (fun _ => ?_)
          clear hK K hS
          (try simp only [Act.put, List.setIfInBounds_toArray, List.set_cons_zero, List.set_cons_succ])
          refine wpAnyM_done (by kernel_rfl) ?_
          have HR4 := Lib.hid (show RS y4.w gp gS gd gg S3.1 dep S3.2 by rw [HE.out]; exact hR4)
          have HX4 := Lib.hid hX4; have HK4 := Lib.hid hK4
          clear hR4 hX4 hK4 i1 j0 j1 j3 g0 ws HE h2 HU k0 k1 k2 f0 h0 h1 h3
          go_wp2_with fail
          go_roundw
          case rel => exact ⟨k + 1, y4, by omega, by go_num, rfl, HS3.out ▸ HR4.out, HX4.out, HK4.out⟩
          case measure => simp [intOf] <;> omega
        · have HE := Lib.hid (HN.out.trans ((HE2.out _).trans (if_neg h2)))
          clear HE2 HN
          have HR4 := Lib.hid (show ∀ q : Since y3.w, RS q.w gp gS gd gg S3.1 dep S3.2 from fun q => by rw [HE.out]; exact HR3.out.since q)
          clear HE
          go_wp2_with fail
          go_roundw
          case rel => exact ⟨k + 1, y3, by omega, by go_num, rfl, HS3.out ▸ HR4.out (Since.self _), HX3.out, HK3.out⟩
          case measure => simp [intOf] <;> omega
      · have HE := Lib.hid ((HE1.out S).trans (if_neg h1))
        clear HE1
        refine wp_region_since (by kernel_rfl) (by kernel_rfl) ?_
        repeat (go_big_quiet_step (fail))
        refine wpQuiet_nil ?_
        rintro _ ⟨z, rfl⟩
        obtain ⟨y3, h3⟩ := y2.trans z
        have hR3 := HR2.out.since z
        have hX3 := HX2.out.since z
        have hA3 := HAX.out.since z
        have hK3 := HK2.out.trans (Kp.of z gS gg)
        rw [h3] at hR3 hX3 hA3 hK3 ⊢
        have HR3 := Lib.hid (show RS y3.w gp gS gd gg (vis1 l (at0 F) dep S k).1 dep (vis1 l (at0 F) dep S k).2 by rw [HE.out]; exact hR3)
        have HX3 := Lib.hid hX3; have HA3 := Lib.hid hA3; have HK3 := Lib.hid hK3
        clear hR3 hX3 hA3 hK3 h3 HE h1 HR2 HX2 HAX HK2 HU k0 k1 k2 f0 Hhq0 Hhq1 Hhq2 Hhq3
        go_upto_region 6 with fail
        have k0 := fun q : Since y3.w => (HX3.out.since q).c 0 _ rfl
        have k1 := fun q : Since y3.w => (HX3.out.since q).c 1 _ rfl
        have k2 := fun q : Since y3.w => (HX3.out.since q).c 2 _ rfl
        have h0 := fun q : Since y3.w => (HA3.out.since q).c 0 _ rfl
        have h1 := fun q : Since y3.w => (HA3.out.since q).c 1 _ rfl
        have h3 := fun q : Since y3.w => (HA3.out.since q).c 3 _ rfl
        have f0 := Since.cellTo ⟨y3, rfl⟩ f0'
        have HU := Lib.hid (fun w' (h : IsSince y3.w w') => show IsSince B w' from by obtain ⟨q, hq⟩ := h; obtain ⟨z', hz'⟩ := y3.trans q; exact ⟨z', hq.trans hz'⟩)
        change Code.wp _ _ _ _ (Since.self y3.w).w
        by_cases h2 : 0 < f
        · have HE := Lib.hid (HN.out.trans ((HE2.out _).trans (if_pos h2)))
          have hlen := HL2.out.trans HL1.out
          clear HE2 HN
          generalize vis1 l (at0 F) dep S k = S2 at *
          go_upto_region 7 with fail
          have i1 := fun w' (h : IsSince y3.w w') => IsSince.cell k2 h
          have j0 := fun w' (h : IsSince y3.w w') => IsSince.cell h0 h
          have j1 := fun w' (h : IsSince y3.w w') => IsSince.cell h1 h
          have j3 := fun w' (h : IsSince y3.w w') => IsSince.cell h3 h
          have g0 := fun w' (h : IsSince y3.w w') => IsSince.cell f0 h
          have ws : IntKind.i64.wrap (-e.cost) = -e.cost := IntWalk.i64_in _ (by omega)
          refine wp_region_M (fun w' => IsSince y3.w w') 14 (by kernel_rfl) (IsSince.drew' (IsSince.self _)) (fun hS => ?_)
          refine wpAnyM_takeU (i := 0) (v := ?_) rfl (by kernel_rfl) (by kernel_rfl) (by kernel_rfl) (by kernel_rfl) (fun _ _ _ h => h) hS (Or.inl ⟨by rfl, ?_⟩) ?_
          rotate_left
          · (intro w hSw; (try dsimp only at hSw); go_split_ands; go_simp; try (with_reducible rfl))
          (try simp only [Act.put, List.setIfInBounds_toArray, List.set_cons_zero, List.set_cons_succ])
          refine wpAnyM_takeU (i := 1) (v := ?_) rfl (by kernel_rfl) (by kernel_rfl) (by kernel_rfl) (by kernel_rfl) (fun _ _ _ h => h) hS (Or.inl ⟨by rfl, ?_⟩) ?_
          rotate_left
          · (intro w hSw; (try dsimp only at hSw); go_split_ands; go_simp; try (with_reducible rfl))
          (try simp only [Act.put, List.setIfInBounds_toArray, List.set_cons_zero, List.set_cons_succ])
          refine wpAnyM_takeU (i := 2) (v := ?_) rfl (by kernel_rfl) (by kernel_rfl) (by kernel_rfl) (by kernel_rfl) (fun _ _ _ h => h) hS (Or.inl ⟨by rfl, ?_⟩) ?_
          rotate_left
          · (intro w hSw; (try dsimp only at hSw); go_split_ands; go_simp; try (with_reducible rfl))
          (try simp only [Act.put, List.setIfInBounds_toArray, List.set_cons_zero, List.set_cons_succ])
          refine wpAnyM_takeU (i := 3) (v := ?_) rfl (by kernel_rfl) (by kernel_rfl) (by kernel_rfl) (by kernel_rfl) (fun _ _ _ h => h) hS (Or.inl ⟨by rfl, ?_⟩) ?_
          rotate_left
          · (intro w hSw; (try dsimp only at hSw); go_split_ands; go_simp; try (with_reducible rfl))
          (try simp only [Act.put, List.setIfInBounds_toArray, List.set_cons_zero, List.set_cons_succ])
          refine wpAnyM_takeU (i := 4) (v := ?_) rfl (by kernel_rfl) (by kernel_rfl) (by kernel_rfl) (by kernel_rfl) (fun _ _ _ h => h) hS (Or.inl ⟨by rfl, ?_⟩) ?_
          rotate_left
          · (intro w hSw; (try dsimp only at hSw); go_split_ands; go_simp; try (with_reducible rfl))
          (try simp only [Act.put, List.setIfInBounds_toArray, List.set_cons_zero, List.set_cons_succ])
          refine wpAnyM_takeU (i := 5) (v := ?_) rfl (by kernel_rfl) (by kernel_rfl) (by kernel_rfl) (by kernel_rfl) (fun _ _ _ h => h) hS (Or.inl ⟨by rfl, ?_⟩) ?_
          rotate_left
          · (intro w hSw; (try dsimp only at hSw); go_split_ands; go_simp; try (with_reducible rfl))
          (try simp only [Act.put, List.setIfInBounds_toArray, List.set_cons_zero, List.set_cons_succ])
          refine wpAnyM_takeU (i := 6) (v := ?_) rfl (by kernel_rfl) (by kernel_rfl) (by kernel_rfl) (by kernel_rfl) (fun _ _ _ h => h) hS (Or.inl ⟨by rfl, ?_⟩) ?_
          rotate_left
          · (intro w hSw; (try dsimp only at hSw); go_split_ands; go_simp; try (with_reducible rfl))
          (try simp only [Act.put, List.setIfInBounds_toArray, List.set_cons_zero, List.set_cons_succ])
          refine wpAnyM_takeU (i := 7) (v := ?_) rfl (by kernel_rfl) (by kernel_rfl) (by kernel_rfl) (by kernel_rfl) (fun _ _ _ h => h) hS (Or.inl ⟨by rfl, ?_⟩) ?_
          rotate_left
          · (intro w hSw; (try dsimp only at hSw); go_split_ands; go_simp; try (with_reducible rfl))
          (try simp only [Act.put, List.setIfInBounds_toArray, List.set_cons_zero, List.set_cons_succ])
          refine wpAnyM_takeU (i := 8) (v := ?_) rfl (by kernel_rfl) (by kernel_rfl) (by kernel_rfl) (by kernel_rfl) (fun _ _ _ h => h) hS (Or.inl ⟨by rfl, ?_⟩) ?_
          rotate_left
          · (intro w hSw; (try dsimp only at hSw); go_split_ands; go_simp; try (with_reducible rfl))
          (try simp only [Act.put, List.setIfInBounds_toArray, List.set_cons_zero, List.set_cons_succ])
          refine wpAnyM_takeU (i := 9) (v := ?_) rfl (by kernel_rfl) (by kernel_rfl) (by kernel_rfl) (by kernel_rfl) (fun _ _ _ h => h) hS (Or.inl ⟨by rfl, ?_⟩) ?_
          rotate_left
          · (intro w hSw; (try dsimp only at hSw); go_split_ands; go_simp; try (with_reducible rfl))
          (try simp only [Act.put, List.setIfInBounds_toArray, List.set_cons_zero, List.set_cons_succ])
          refine wpAnyM_takeU (i := 10) (v := ?_) rfl (by kernel_rfl) (by kernel_rfl) (by kernel_rfl) (by kernel_rfl) (fun _ _ _ h => h) hS (Or.inl ⟨by rfl, ?_⟩) ?_
          rotate_left
          · (intro w hSw; (try dsimp only at hSw); go_split_ands; go_simp; try (with_reducible rfl))
          (try simp only [Act.put, List.setIfInBounds_toArray, List.set_cons_zero, List.set_cons_succ])
          refine wpAnyM_takeU (i := 11) (v := ?_) rfl (by kernel_rfl) (by kernel_rfl) (by kernel_rfl) (by kernel_rfl) (fun _ _ _ h => h) hS (Or.inl ⟨by rfl, ?_⟩) ?_
          rotate_left
          · (intro w hSw; (try dsimp only at hSw); go_split_ands; go_simp; try (with_reducible rfl))
          (try simp only [Act.put, List.setIfInBounds_toArray, List.set_cons_zero, List.set_cons_succ])
          refine wpAnyM_takeU (i := 12) (v := ?_) rfl (by kernel_rfl) (by kernel_rfl) (by kernel_rfl) (by kernel_rfl) (fun _ _ _ h => h) hS (Or.inl ⟨by rfl, ?_⟩) ?_
          rotate_left
          · (intro w hSw; (try dsimp only at hSw); go_split_ands; go_simp; try (with_reducible rfl))
          (try simp only [Act.put, List.setIfInBounds_toArray, List.set_cons_zero, List.set_cons_succ])
          refine wpAnyM_takeU (i := 13) (v := ?_) rfl (by kernel_rfl) (by kernel_rfl) (by kernel_rfl) (by kernel_rfl) (fun _ _ _ h => h) hS (Or.inl ⟨by rfl, ?_⟩) ?_
          rotate_left
          · (intro w hSw; (try dsimp only at hSw); go_split_ands; go_simp; try (with_reducible rfl))
          (try simp only [Act.put, List.setIfInBounds_toArray, List.set_cons_zero, List.set_cons_succ])
          refine wpAnyM_one (i := 14) (by kernel_rfl) rfl (fun K hK => ?_)
          (go_simp; have hT := HR3.out.to hS; (with_reducible refine (HV.out _ (HU.out _ hS) S2 hlen hT e.v e.u hv hu k f (-e.cost) false).mono ?_); rintro _ _ ⟨rfl, y4, rfl, hR4, hK4⟩; have hX4 := (HX3.out.to hS).kp hK4 hbS hbg; replace hK4 := HK3.out.trans ((Kp.to hS gS gg).trans hK4))
          refine hK.out _ _ (Or.inl rfl) (fun _ => ?_)
          clear hK K hS
          (try simp only [Act.put, List.setIfInBounds_toArray, List.set_cons_zero, List.set_cons_succ])
          refine wpAnyM_done (by kernel_rfl) ?_
          have HR4 := Lib.hid (show RS y4.w gp gS gd gg S3.1 dep S3.2 by rw [HE.out]; exact hR4)
          have HX4 := Lib.hid hX4; have HK4 := Lib.hid hK4
          clear hR4 hX4 hK4 i1 j0 j1 j3 g0 ws HE h2 HU k0 k1 k2 f0 h0 h1 h3
          go_wp2_with fail
          go_roundw
          case rel => exact ⟨k + 1, y4, by omega, by go_num, rfl, HS3.out ▸ HR4.out, HX4.out, HK4.out⟩
          case measure => simp [intOf] <;> omega
        · have HE := Lib.hid (HN.out.trans ((HE2.out _).trans (if_neg h2)))
          clear HE2 HN
          have HR4 := Lib.hid (show ∀ q : Since y3.w, RS q.w gp gS gd gg S3.1 dep S3.2 from fun q => by rw [HE.out]; exact HR3.out.since q)
          clear HE
          go_wp2_with fail
          go_roundw
          case rel => exact ⟨k + 1, y3, by omega, by go_num, rfl, HS3.out ▸ HR4.out (Since.self _), HX3.out, HK3.out⟩
          case measure => simp [intOf] <;> omega
    · obtain rfl : k = m := by omega
      go_wp2_with fail
      refine bodyPost_end (v := .tuple #[]) (by simp [results, Tryd.results120, go_sem]) rfl ?_
      exact ⟨rfl, y, rfl, HR.out, HK.out⟩
end Go.Proofs.YtdkcclngionihaaDoor
/- What the passes of a search bring: plain mathematics on visN, no program in sight. -/
namespace Go.Proofs.YtdkcclngionihaaDoor

/-- the steps of the nodes -/
def sg (L : List Stp) (k : Nat) : Stp := L.getD k default
def cntK (L : List Stp) : Nat := L.countP (·.kn)
theorem sg_set {L : List Stp} {b : Nat} (hb : b < L.length) (y : Stp) (k : Nat) : sg (L.set b y) k = if k = b then y else sg L k := by
  unfold sg
  rw [List.getD_eq_getElem?_getD, List.getD_eq_getElem?_getD, List.getElem?_set]
  by_cases h : k = b
  · subst h; rw [if_pos rfl, if_pos rfl, if_pos hb]; rfl
  · rw [if_neg (fun e => h e.symm), if_neg h]
/-- ahead of a pass of depth d -/
structure Rch (n : Nat) (l : List Arc) (f : Nat → Int) (s : Nat) (d : Int) (L : List Stp) : Prop where
  len : L.length = n
  d0 : 0 ≤ d
  t : Tree n l f s (sg L)
  b : ∀ k, k < n → (sg L k).kn = true → (sg L k).dep ≤ d
  c : ∀ k : Nat, k < n → (sg L k).kn = true → (sg L k).dep < d → ∀ i fw b room, Res l f i fw (k : Int) b room → (sg L b.toNat).kn = true
/-- within it: the edges of E are visited -/
structure Pss (n : Nat) (l : List Arc) (f : Nat → Int) (s : Nat) (d : Int) (L0 : List Stp) (S : List Stp × Bool) (E : Nat → Bool → Prop) : Prop where
  len : S.1.length = n
  d0 : 0 ≤ d
  t : Tree n l f s (sg S.1)
  b : ∀ k, k < n → (sg S.1 k).kn = true → (sg S.1 k).dep ≤ d + 1
  c : ∀ k : Nat, k < n → (sg S.1 k).kn = true → (sg S.1 k).dep < d → ∀ i fw b room, Res l f i fw (k : Int) b room → (sg S.1 b.toNat).kn = true
  e : ∀ k : Nat, k < n → (sg S.1 k).kn = true → (sg S.1 k).dep = d → ∀ i fw b room, E i fw → Res l f i fw (k : Int) b room → (sg S.1 b.toNat).kn = true
  g : S.2 = false → S.1 = L0
  m : cntK L0 ≤ cntK S.1 ∧ (S.2 = true → cntK L0 < cntK S.1)
theorem Rch.pss {n : Nat} {l : List Arc} {f : Nat → Int} {s : Nat} {d : Int} {L : List Stp} (h : Rch n l f s d L) : Pss n l f s d L (L, false) (fun i _ => i < 0) :=
  ⟨h.len, h.d0, h.t, fun k h1 h2 => Int.le_trans (h.b k h1 h2) (by omega), h.c, fun _ _ _ _ _ _ _ _ h => by omega, fun _ => rfl, Nat.le_refl _, fun h => by cases h⟩
theorem Res.same {l : List Arc} {f : Nat → Int} {i : Nat} {fw : Bool} {a b r a' b' r' : Int} (h : Res l f i fw a b r) (k : Res l f i fw a' b' r') : a' = a ∧ b' = b := by
  rcases h.2 with ⟨h0, h1, h2, _⟩ | ⟨h0, h1, h2, _⟩ <;> rcases k.2 with ⟨k0, k1, k2, _⟩ | ⟨k0, k1, k2, _⟩
  · exact ⟨k1.symm.trans h1, k2.symm.trans h2⟩
  · rw [h0] at k0; cases k0
  · rw [h0] at k0; cases k0
  · exact ⟨k1.symm.trans h1, k2.symm.trans h2⟩
section
variable {n : Nat} {l : List Arc} {f : Nat → Int} {s : Nat} {d : Int} {L0 : List Stp} {S : List Stp × Bool} {E : Nat → Bool → Prop}
theorem Pss.skip {E' : Nat → Bool → Prop} (h : Pss n l f s d L0 S E) (hE : ∀ i fw, E' i fw → E i fw ∨ ∀ a b r, ¬ Res l f i fw a b r) : Pss n l f s d L0 S E' := by
  refine { h with e := fun k h1 h2 h3 i fw b room hi hr => ?_ }
  rcases hE i fw hi with h4 | h4
  · exact h.e k h1 h2 h3 i fw b room h4 hr
  · exact absurd hr (h4 _ _ _)
theorem Pss.visit {E' : Nat → Bool → Prop} (h : Pss n l f s d L0 S E) {a b : Nat} {i : Nat} {fw : Bool} {room : Int} (ha : a < n) (hb : b < n) (hr : Res l f i fw (a : Int) (b : Int) room) (hE : ∀ j gw, E' j gw → E j gw ∨ (j = i ∧ gw = fw)) :
    Pss n l f s d L0 (vis S.1 d a b i room fw, S.2 || fires S.1 d a b) E' := by
  have hlen := h.len
  cases hf : fires S.1 d a b
  · have e1 : vis S.1 d a b i room fw = S.1 := by unfold vis; rw [if_neg (by rw [hf]; decide)]
    rw [e1, Bool.or_false]
    refine { h with e := fun k h1 h2 h3 j gw b' room' hj hr' => ?_ }
    rcases hE j gw hj with h4 | ⟨rfl, rfl⟩
    · exact h.e k h1 h2 h3 j gw b' room' h4 hr'
    · obtain ⟨ea, eb⟩ := hr.same hr'
      obtain rfl : k = a := by omega
      rw [eb, Int.toNat_natCast]
      have hk : (S.1.getD k default).kn = true := h2
      have hd : (S.1.getD k default).dep = d := h3
      unfold fires at hf
      rw [hk, hd] at hf
      simpa [sg] using hf
  · have hkn : (sg S.1 a).kn = true ∧ (sg S.1 a).dep = d ∧ (sg S.1 b).kn = false := by
      unfold fires at hf
      simp only [Bool.and_eq_true, decide_eq_true_eq, Bool.not_eq_true'] at hf
      exact ⟨hf.1.1, hf.1.2, hf.2⟩
    obtain ⟨k1, k2, k3⟩ := hkn
    have e1 : vis S.1 d a b i room fw = S.1.set b ⟨a, i, room, fw, true, d + 1⟩ := by unfold vis; rw [if_pos hf]
    rw [e1, Bool.or_true]
    have hbl : b < S.1.length := by rw [hlen]; exact hb
    have hab : a ≠ b := fun e => by subst e; rw [k1] at k3; cases k3
    have hsb : s ≠ b := fun e => by subst e; rw [h.t.r.1] at k3; cases k3
    have mono : ∀ k, (sg S.1 k).kn = true → sg (S.1.set b ⟨a, i, room, fw, true, d + 1⟩) k = sg S.1 k := fun k hk => by
      rw [sg_set hbl]
      by_cases e : k = b
      · subst e; rw [hk] at k3; cases k3
      · rw [if_neg e]
    have monok : ∀ k, (sg S.1 k).kn = true → (sg (S.1.set b ⟨a, i, room, fw, true, d + 1⟩) k).kn = true := fun k hk => by rw [mono k hk]; exact hk
    have old : ∀ k, (sg (S.1.set b ⟨a, i, room, fw, true, d + 1⟩) k).kn = true → k ≠ b → (sg S.1 k).kn = true ∧ sg (S.1.set b ⟨a, i, room, fw, true, d + 1⟩) k = sg S.1 k := fun k hk e => by
      rw [sg_set hbl, if_neg e] at hk ⊢
      exact ⟨hk, rfl⟩
    have new : sg (S.1.set b ⟨a, i, room, fw, true, d + 1⟩) b = ⟨a, i, room, fw, true, d + 1⟩ := by rw [sg_set hbl, if_pos rfl]
    have hc : cntK (S.1.set b ⟨a, i, room, fw, true, d + 1⟩) = cntK S.1 + 1 := by
      unfold cntK
      have hg : S.1[b].kn = false := by
        have : sg S.1 b = S.1[b] := by unfold sg; rw [List.getD_eq_getElem?_getD, List.getElem?_eq_getElem hbl]; rfl
        rw [← this]; exact k3
      rw [List.countP_set hbl]
      simp [hg]
    have hd0 := h.d0
    refine ⟨by rw [List.length_set]; exact hlen, h.d0, ⟨h.t.sn, ?_, ?_, ?_⟩, ?_, ?_, ?_, ?_, ?_, ?_⟩
    · rw [mono s h.t.r.1]; exact h.t.r
    · intro k h1 h2
      by_cases e : k = b
      · subst e; rw [new]; show 0 ≤ d + 1; omega
      · obtain ⟨o1, o2⟩ := old k h2 e
        rw [o2]; exact h.t.d k h1 o1
    · intro k h1 h2 h3
      by_cases e : k = b
      · subst e
        rw [new]
        refine ⟨⟨i, rfl, hr⟩, ⟨Int.natCast_nonneg a, by show (a : Int) < n; omega⟩, ?_, ?_⟩
        · show (sg (S.1.set k _) (a : Int).toNat).kn = true
          rw [Int.toNat_natCast]; exact monok a k1
        · show d + 1 = (sg (S.1.set k _) (a : Int).toNat).dep + 1
          rw [Int.toNat_natCast, mono a k1, k2]
      · obtain ⟨o1, o2⟩ := old k h2 e
        obtain ⟨p1, p2, p3, p4⟩ := h.t.k k h1 o1 h3
        rw [o2]
        exact ⟨p1, p2, monok _ p3, by rw [mono _ p3]; exact p4⟩
    · intro k h1 h2
      by_cases e : k = b
      · subst e; rw [new]; exact Int.le_refl _
      · obtain ⟨o1, o2⟩ := old k h2 e
        rw [o2]; exact h.b k h1 o1
    · intro k h1 h2 h3 j gw b' room' hr'
      by_cases e : k = b
      · subst e; rw [new] at h3; have h3' : d + 1 < d := h3; omega
      · obtain ⟨o1, o2⟩ := old k h2 e
        rw [o2] at h3
        exact monok _ (h.c k h1 o1 h3 j gw b' room' hr')
    · intro k h1 h2 h3 j gw b' room' hj hr'
      by_cases e : k = b
      · subst e; rw [new] at h3; have h3' : d + 1 = d := h3; omega
      · obtain ⟨o1, o2⟩ := old k h2 e
        rw [o2] at h3
        rcases hE j gw hj with h4 | ⟨rfl, rfl⟩
        · exact monok _ (h.e k h1 o1 h3 j gw b' room' h4 hr')
        · obtain ⟨_, eb⟩ := hr.same hr'
          rw [eb, Int.toNat_natCast, new]
    · intro h; cases h
    · show cntK L0 ≤ cntK (S.1.set b _); rw [hc]; have := h.m.1; omega
    · intro _; show cntK L0 < cntK (S.1.set b _); rw [hc]; have := h.m.1; omega
end
theorem visN_pss {n : Nat} {l : List Arc} {f : Nat → Int} {s : Nat} {d : Int} {L0 : List Stp} (hok : NetOk n l) (h : Rch n l f s d L0) : ∀ j, j ≤ l.length → Pss n l f s d L0 (visN l f d (L0, false) j) (fun i _ => i < j)
  | 0, _ => h.pss
  | j + 1, hj => by
    have ih := visN_pss hok h j (by omega)
    obtain ⟨⟨u0, u1⟩, ⟨v0, v1⟩, _⟩ := hok j (by omega)
    have hu : ((arcAt l j).u.toNat : Int) = (arcAt l j).u := Int.toNat_of_nonneg u0
    have hv : ((arcAt l j).v.toNat : Int) = (arcAt l j).v := Int.toNat_of_nonneg v0
    simp only [visN]
    have h1 : Pss n l f s d L0 (vis1 l f d (visN l f d (L0, false) j) j) (fun i fw => i < j ∨ (i = j ∧ fw = true)) := by
      unfold vis1
      by_cases hc : f j < (arcAt l j).cap
      · rw [if_pos hc]
        exact ih.visit (by omega) (by omega) ⟨by omega, Or.inl ⟨rfl, hu.symm, hv.symm, rfl, hc⟩⟩ (fun i fw h => h)
      · rw [if_neg hc]
        refine ih.skip (fun i fw h => h.imp_right ?_)
        rintro ⟨rfl, rfl⟩ a b r hr
        rcases hr.2 with ⟨_, _, _, _, h5⟩ | ⟨h0, _⟩
        · exact hc h5
        · cases h0
    unfold vis2
    by_cases hc : 0 < f j
    · rw [if_pos hc]
      refine h1.visit (by omega) (by omega) ⟨by omega, Or.inr ⟨rfl, hv.symm, hu.symm, rfl, hc⟩⟩ (fun i fw h => ?_)
      cases fw
      · by_cases e : i = j
        · exact Or.inr ⟨e, rfl⟩
        · exact Or.inl (Or.inl (by omega))
      · by_cases e : i = j
        · exact Or.inl (Or.inr ⟨e, rfl⟩)
        · exact Or.inl (Or.inl (by omega))
    · rw [if_neg hc]
      refine h1.skip (fun i fw h => ?_)
      by_cases e : i = j
      · subst e
        cases fw
        · refine Or.inr (fun a b r hr => ?_)
          rcases hr.2 with ⟨h0, _⟩ | ⟨_, _, _, _, h5⟩
          · cases h0
          · exact hc h5
        · exact Or.inl (Or.inr ⟨rfl, rfl⟩)
      · exact Or.inl (Or.inl (by omega))
/-- a pass that found something -/
theorem Rch.more {n : Nat} {l : List Arc} {f : Nat → Int} {s : Nat} {d : Int} {L : List Stp} (hok : NetOk n l) (h : Rch n l f s d L) : Rch n l f s (d + 1) (visN l f d (L, false) l.length).1 := by
  have k := visN_pss hok h l.length (Nat.le_refl _)
  have hd := h.d0
  refine ⟨k.len, by omega, k.t, k.b, fun q h1 h2 h3 i fw b room hr => ?_⟩
  by_cases hq : (sg (visN l f d (L, false) l.length).1 q).dep < d
  · exact k.c q h1 h2 hq i fw b room hr
  · exact k.e q h1 h2 (by omega) i fw b room hr.1 hr
/-- what a search brings -/
structure Found (n : Nat) (l : List Arc) (f : Nat → Int) (s : Nat) (L : List Stp) : Prop where
  len : L.length = n
  t : Tree n l f s (sg L)
  c : ∀ k : Nat, k < n → (sg L k).kn = true → ∀ i fw b room, Res l f i fw (k : Int) b room → (sg L b.toNat).kn = true
theorem Rch.found {n : Nat} {l : List Arc} {f : Nat → Int} {s : Nat} {d : Int} {L : List Stp} (hok : NetOk n l) (h : Rch n l f s d L) (hg : (visN l f d (L, false) l.length).2 = false) : Found n l f s (visN l f d (L, false) l.length).1 := by
  have k := visN_pss hok h l.length (Nat.le_refl _)
  have e := k.g hg
  refine ⟨k.len, k.t, fun q h1 h2 i fw b room hr => ?_⟩
  have hb := h.b q h1 (by rw [← e]; exact h2)
  rw [← e] at hb
  by_cases hq : (sg (visN l f d (L, false) l.length).1 q).dep < d
  · exact k.c q h1 h2 hq i fw b room hr
  · exact k.e q h1 h2 (by omega) i fw b room hr.1 hr
/-- t was not reached: the flow is a greatest one -/
theorem Found.most {n : Nat} {l : List Arc} {f : Nat → Int} {s t : Nat} {L : List Stp} (h : Found n l f s L) (hok : NetOk n l) {v : Int} (hF : Flow n l (s : Int) (t : Int) f v) (ht : (sg L t).kn = false) : IsMost n l (s : Int) (t : Int) v := by
  have hs := h.t.sn
  refine most_of_closed hF hok ⟨by omega, by omega⟩ (K := fun j => (sg L j.toNat).kn) (by simpa using h.t.r.1) (by simpa using ht) (fun i fw a b room hr ha => ?_)
  have hi := hok i hr.1
  have han : 0 ≤ a ∧ a < n := by
    rcases hr.2 with ⟨_, rfl, _⟩ | ⟨_, rfl, _⟩
    · exact hi.1
    · exact hi.2.1
  exact h.c a.toNat (by omega) ha i fw b room (by rw [Int.toNat_of_nonneg han.1]; exact hr)
theorem cntK_le (L : List Stp) : cntK L ≤ L.length := List.countP_le_length
end Go.Proofs.YtdkcclngionihaaDoor
/- The way back from t: plain mathematics, no program in sight. -/
namespace Go.Proofs.YtdkcclngionihaaDoor

theorem at0_set {F : List Int} {i : Nat} (hi : i < F.length) (v : Int) (k : Nat) : at0 (F.set i v) k = if k = i then v else at0 F k := by
  unfold at0
  rw [List.getD_eq_getElem?_getD, List.getD_eq_getElem?_getD, List.getElem?_set]
  by_cases h : k = i
  · subst h; rw [if_pos rfl, if_pos rfl, if_pos hi]; rfl
  · rw [if_neg (fun e => h e.symm), if_neg h]
theorem bump_set {F : List Int} {i : Nat} (hi : i < F.length) (d : Int) : at0 (F.set i (at0 F i + d)) = bump (at0 F) i d := by
  funext k
  rw [at0_set hi]
  unfold bump
  by_cases h : k = i
  · subst h; simp
  · rw [if_neg h, if_neg h]
section
variable {n : Nat} {l : List Arc} {f : Nat → Int} {s : Nat} {st : Nat → Stp} (hT : Tree n l f s st)
include hT
/-- short of s the way goes on -/
theorem Tree.short {t : Nat} (ht : t < n) (hk : (st t).kn = true) {m : Nat} (hm : (m : Int) ≤ (st t).dep) (hs : pth st s t m ≠ s) : (m : Int) < (st t).dep := by
  obtain ⟨h1, h2, h3⟩ := hT.way ht hk m hm
  have h0 := hT.d _ h1 h2
  by_cases e : (m : Int) = (st t).dep
  · exact absurd ((hT.zero h1 h2).1 (by omega)) hs
  · omega
theorem Tree.room {t : Nat} (ht : t < n) (hk : (st t).kn = true) {m : Nat} (hm : (m : Int) < (st t).dep) : 1 ≤ (st (pth st s t m)).room := by
  obtain ⟨_, _, i, _, hr⟩ := hT.edge ht hk hm
  rcases hr.2 with ⟨_, _, _, h3, h4⟩ | ⟨_, _, _, h3, h4⟩ <;> omega
end
end Go.Proofs.YtdkcclngionihaaDoor
/- Hiding cells of a table whose sums are published: plain mathematics, no program in sight. -/
namespace Go.Proofs.YtdkcclngionihaaDoor

/-- element i of a list of truth values -/
def bo (h : List Bool) (i : Nat) : Bool := h.getD i false
/-- a table that is right -/
structure SG (R C : Nat) (l : List Int) : Prop where
  r : 1 ≤ R ∧ R ≤ 8
  c : 1 ≤ C ∧ C ≤ 8
  n : l.length = R * C
  z : ∀ i, i < l.length → 0 ≤ at0 l i
  s : sumF (at0 l) l.length ≤ 65536
/-- the arcs of a hidden cell: it can lose what it has, and gain anything -/
def netC (R C : Nat) (l : List Int) (h : List Bool) (but : Nat) (i : Nat) : List Arc :=
  if bo h i = true ∧ i ≠ but then [⟨((R + i % C : Nat) : Int), ((i / C : Nat) : Int), at0 l i, 0⟩, ⟨((i / C : Nat) : Int), ((R + i % C : Nat) : Int), 65536, 0⟩] else []
def netN (R C : Nat) (l : List Int) (h : List Bool) (but : Nat) : Nat → List Arc
  | 0 => []
  | k + 1 => netN R C l h but k ++ netC R C l h but k
theorem quo_in {k C R : Nat} (h : k / C < R) : 0 ≤ (k : Int) / (C : Int) ∧ (k : Int) / (C : Int) < (R : Int) := by
  rw [← Int.natCast_ediv]; exact ⟨Int.natCast_nonneg _, Int.ofNat_lt.2 h⟩
theorem rem_in {k C R : Nat} (h : k % C < R) : 0 ≤ (k : Int) % (C : Int) ∧ (k : Int) % (C : Int) < (R : Int) := by
  rw [← Int.natCast_emod]; exact ⟨Int.natCast_nonneg _, Int.ofNat_lt.2 h⟩
/-- the greatest amount -/
noncomputable def mostV (n : Nat) (l : List Arc) (s t : Int) : Int := open Classical in if h : ∃ v, IsMost n l s t v then h.choose else 0
theorem mostV_eq {n : Nat} {l : List Arc} {s t v : Int} (h : NetOk n l) (hs : 0 ≤ s ∧ s < n) (hv : IsMost n l s t v) : mostV n l s t = v := by
  unfold mostV
  rw [dif_pos ⟨v, hv⟩]
  exact IsMost.unique h hs (Exists.choose_spec (⟨v, hv⟩ : ∃ v, IsMost n l s t v)) hv
theorem sumF_one {f : Nat → Int} : ∀ (n i : Nat), (∀ j, j < n → 0 ≤ f j) → i < n → f i ≤ sumF f n
  | n + 1, i, h, hi => by
    have h0 : 0 ≤ sumF f n := by
      have := sumF_le (f := fun _ => 0) (g := f) n (fun j hj => h j (by omega))
      rwa [sumF_zero] at this
    simp only [sumF]
    by_cases e : i = n
    · subst e; omega
    · have := sumF_one n i (fun j hj => h j (by omega)) (by omega)
      have := h n (by omega)
      omega
section
variable {R C : Nat} {l : List Int} (hG : SG R C l)
include hG
theorem SG.cell {i : Nat} (hi : i < l.length) : i / C < R ∧ i % C < C ∧ 0 ≤ at0 l i ∧ at0 l i ≤ 65536 := by
  have hc := hG.c
  have hn := hG.n
  refine ⟨Nat.div_lt_of_lt_mul (by rw [Nat.mul_comm]; omega), Nat.mod_lt _ (by omega), hG.z i hi, ?_⟩
  have := sumF_one l.length i hG.z hi
  have := hG.s
  omega
theorem SG.len : l.length ≤ 64 := by
  have h1 := Nat.mul_le_mul hG.r.2 hG.c.2
  have := hG.n
  omega
theorem net_mem (h : List Bool) (but : Nat) : ∀ k, k ≤ l.length → ∀ a ∈ netN R C l h but k, (0 ≤ a.u ∧ a.u < ((R + C : Nat) : Int)) ∧ (0 ≤ a.v ∧ a.v < ((R + C : Nat) : Int)) ∧ 0 ≤ a.cap ∧ a.cap ≤ 65536 ∧ a.cost = 0
  | 0, _, a, ha => by simp [netN] at ha
  | k + 1, hk, a, ha => by
    rw [netN, List.mem_append] at ha
    rcases ha with ha | ha
    · exact net_mem h but k (by omega) a ha
    · obtain ⟨h1, h2, h3, h4⟩ := hG.cell (i := k) (by omega)
      unfold netC at ha
      generalize k / C = q at *
      generalize k % C = r at *
      split at ha
      · simp only [List.mem_cons, List.not_mem_nil, or_false] at ha
        rcases ha with rfl | rfl
        · refine ⟨⟨?_, ?_⟩, ⟨?_, ?_⟩, h3, h4, rfl⟩ <;> show _ <;> dsimp only <;> omega
        · refine ⟨⟨?_, ?_⟩, ⟨?_, ?_⟩, by show (0 : Int) ≤ 65536; decide, Int.le_refl _, rfl⟩ <;> show _ <;> dsimp only <;> omega
      · cases ha
omit hG in
theorem net_len (h : List Bool) (but : Nat) : ∀ k, (netN R C l h but k).length ≤ 2 * k
  | 0 => Nat.le_refl _
  | k + 1 => by
    have := net_len h but k
    rw [netN, List.length_append]
    unfold netC
    split <;> simp <;> omega
omit hG in
theorem arcAt_mem {m : List Arc} {i : Nat} (hi : i < m.length) : arcAt m i ∈ m := by
  unfold arcAt
  rw [List.getD_eq_getElem?_getD, List.getElem?_eq_getElem hi]
  exact List.getElem_mem hi
theorem SG.netOk (h : List Bool) (but : Nat) : NetOk (R + C) (netN R C l h but l.length) := fun i hi => by
  obtain ⟨a, b, c, _⟩ := net_mem hG h but l.length (Nat.le_refl _) _ (arcAt_mem hi)
  exact ⟨a, b, c⟩
end
noncomputable def gainV (R C : Nat) (l : List Int) (h : List Bool) (i : Nat) : Int := mostV (R + C) (netN R C l h i l.length) ((R + i % C : Nat) : Int) ((i / C : Nat) : Int)
noncomputable def lossV (R C : Nat) (l : List Int) (h : List Bool) (i : Nat) : Int := mostV (R + C) (netN R C l h i l.length) ((i / C : Nat) : Int) ((R + i % C : Nat) : Int)
/-- the interval of a cell -/
noncomputable def loV (R C : Nat) (l : List Int) (h : List Bool) (i : Nat) : Int := if bo h i = true then at0 l i - min (at0 l i) (lossV R C l h i) else at0 l i
noncomputable def hiV (R C : Nat) (l : List Int) (h : List Bool) (i : Nat) : Int := if bo h i = true then at0 l i + gainV R C l h i else at0 l i
/-- a hidden cell whose interval is too small -/
noncomputable def narrow (R C : Nat) (l : List Int) (h : List Bool) (width : Int) (i : Nat) : Bool := bo h i && decide (hiV R C l h i - loV R C l h i < width)
/-- the first place of a kind -/
def fstP (p : Nat → Bool) (n : Nat) : Option Nat := (List.range n).find? p
noncomputable def unsV (R C : Nat) (l : List Int) (h : List Bool) (width : Int) : Option Nat := fstP (narrow R C l h width) h.length
/-- the cell that is hidden next -/
def nextV (C : Nat) (h : List Bool) (i : Nat) : Option Nat :=
  ((fstP (fun k => !bo h k && decide (k / C = i / C)) h.length).or (fstP (fun k => !bo h k && decide (k % C = i % C)) h.length)).or (fstP (fun k => !bo h k) h.length)
noncomputable def hideF (R C : Nat) (l : List Int) (width : Int) : Nat → List Bool → Option (List Bool)
  | 0, _ => none
  | f + 1, h => match unsV R C l h width with
    | none => some h
    | some i => match nextV C h i with
      | none => none
      | some k => hideF R C l width f (h.set k true)
def smallB (least n : Int) : Bool := decide (1 ≤ n) && decide (n < least)
noncomputable def hideV (R C : Nat) (l : List Int) (least width : Int) : Option (List Bool) := hideF R C l width (l.length + 1) (l.map (smallB least))
/-- a number or -1 -/
def orNeg : Option Nat → Int
  | some i => i
  | none => -1
theorem fstP_some {p : Nat → Bool} {n i : Nat} (hi : i < n) (hp : p i = true) (hn : ∀ j, j < i → p j = false) : fstP p n = some i := by
  unfold fstP
  rw [List.find?_range_eq_some]
  exact ⟨hp, by simpa using hi, fun j hj => by simp [hn j hj]⟩
theorem fstP_none {p : Nat → Bool} {n : Nat} (hn : ∀ j, j < n → p j = false) : fstP p n = none := by
  unfold fstP
  rw [List.find?_eq_none]
  intro x hx
  rw [List.mem_range] at hx
  simp [hn x hx]
theorem fstP_mem {p : Nat → Bool} {n i : Nat} (h : fstP p n = some i) : i < n ∧ p i = true := by
  unfold fstP at h
  rw [List.find?_range_eq_some] at h
  exact ⟨by simpa using h.2.1, h.1⟩
end Go.Proofs.YtdkcclngionihaaDoor
