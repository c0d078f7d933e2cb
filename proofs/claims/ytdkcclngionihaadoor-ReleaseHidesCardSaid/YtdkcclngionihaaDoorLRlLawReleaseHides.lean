/- The walks of noise, fourth part: Total. -/
import Derived.Test.YtdkcclngionihaaDoorRlMm
import Derived.Deep.MidRow
import Derived.Deep.WholeRow
import Derived.Laws.ResultCell
import Derived.Lib.SliceRun
set_option linter.all false
namespace Go.Proofs.YtdkcclngionihaaDoor
open Go.RowKit

end Go.Proofs.YtdkcclngionihaaDoor
/- The walks of noise, fifth part: the reference's Total, At, the reference's At. -/
namespace Go.Proofs.YtdkcclngionihaaDoor
open Go.RowKit

end Go.Proofs.YtdkcclngionihaaDoor
/- The walks of noise, sixth part: the reference's At, Excess. -/
namespace Go.Proofs.YtdkcclngionihaaDoor
open Go.RowKit

end Go.Proofs.YtdkcclngionihaaDoor
/- The walks of noise, seventh part: Make. -/
namespace Go.Proofs.YtdkcclngionihaaDoor
open Go.RowKit

theorem ints : SliceOf Tryd.prog 22 3 (.int .i64 0) 1 8 := SliceOf.mk' (by kernel_rfl) (by kernel_rfl) rfl (by decide)

theorem nmap_at {l : List Int} {n i : Nat} (hn : l.length = n) (h : i < n) : (l.map (Value.int .i64)).getD i undef = .int .i64 (at0 l i) := by
  unfold at0
  simp [List.getD_eq_getElem?_getD, List.getElem?_map, List.getElem?_eq_getElem (show i < l.length by omega)]
/-- new numbers in memory -/
def NewInts (w0 : World) (l : List Int) (v : Value) (w' : World) : Prop := ∃ a cap, v = .slice a l.length cap ∧ l.length ≤ cap ∧ ∃ y : Since w0, w' = y.w ∧ IntRow y.w a l
/-- what Make gives back -/
instance (num den : Int) : Decidable (Right num den) := by unfold Right; infer_instance
end Go.Proofs.YtdkcclngionihaaDoor
/- The walks of noise, ninth part: math/bits.Len64, Power. -/
namespace Go.Proofs.YtdkcclngionihaaDoor
open Go.RowKit

/-- n has L bits -/
def IsLen (n L : Nat) : Prop := n < 2 ^ L ∧ (L = 0 ∨ 2 ^ (L - 1) ≤ n)
instance (n L : Nat) : Decidable (IsLen n L) := by unfold IsLen; infer_instance
def lenN (n : Nat) : Nat := if n = 0 then 0 else n.log2 + 1
theorem IsLen.unique {n L M : Nat} (h : IsLen n L) (k : IsLen n M) : L = M := by
  rcases Nat.lt_trichotomy L M with c | c | c
  · have : 2 ^ L ≤ 2 ^ (M - 1) := Nat.pow_le_pow_right (by decide) (by omega)
    rcases k.2 with e | e
    · omega
    · have := h.1; omega
  · exact c
  · have : 2 ^ M ≤ 2 ^ (L - 1) := Nat.pow_le_pow_right (by decide) (by omega)
    rcases h.2 with e | e
    · omega
    · have := k.1; omega
end Go.Proofs.YtdkcclngionihaaDoor
/- The walks of noise, tenth part: Power, Below. -/
namespace Go.Proofs.YtdkcclngionihaaDoor
open Go.RowKit

/-- the least power of 2 that is not less than n -/
def pw (n : Int) : Int := ((2 ^ lenN (n - 1).toNat : Nat) : Int)
/-- the first of n numbers that q says yes to; n if there is none -/
def firstN (q : Nat → Bool) : Nat → Nat
  | 0 => 0
  | n + 1 => if firstN q n < n then firstN q n else if q n then n else n + 1
/-- what Below gives back: the place of the word that is taken -/
def bI (ws : List Int) (n : Int) : Nat := firstN (fun i => decide (at0 ws i % pw n < n)) ws.length
def bE (ws : List Int) (n : Int) : Int := if 1 ≤ n ∧ n ≤ 1125899906842624 then (if bI ws n < ws.length then 0 else 4) else 1
def bV (ws : List Int) (n : Int) : Int := if bE ws n = 0 then at0 ws (bI ws n) % pw n else 0
end Go.Proofs.YtdkcclngionihaaDoor
/- The walks of noise, eleventh part: the reference's Below. -/
namespace Go.Proofs.YtdkcclngionihaaDoor
open Go.RowKit

end Go.Proofs.YtdkcclngionihaaDoor
/- The plain mathematics of Add: which words are used, what comes out. -/
namespace Go.Proofs.YtdkcclngionihaaDoor

/-- how many words k numbers use -/
def us (t : Int) (ws : List Int) : Nat → Nat
  | 0 => 0
  | k + 1 => us t ws k + (bI (ws.drop (us t ws k)) t + 1)
def okw (t : Int) (ws : List Int) (k : Nat) : Prop := bE (ws.drop (us t ws k)) t = 0
noncomputable def outv (l xs ws : List Int) (k : Nat) : Int := at0 xs k + atV l (bV (ws.drop (us (total l) ws k)) (total l))
noncomputable def outL (l xs ws : List Int) (n : Nat) : List Int := (List.range n).map (outv l xs ws)
theorem outL_length (l xs ws : List Int) (n : Nat) : (outL l xs ws n).length = n := by simp [outL]
def InR (xs : List Int) : Prop := ∀ i, i < xs.length → -1000000 ≤ at0 xs i ∧ at0 xs i ≤ 1000000
noncomputable def addE (l xs ws : List Int) : Int := open Classical in
  if ¬ Good l then 32 else if 512 < xs.length then 8 else if ¬ InR xs then 1 else if ∀ k, k < xs.length → okw (total l) ws k then 0 else 4
end Go.Proofs.YtdkcclngionihaaDoor
/- The walks of noise, twelfth part: Add. -/
namespace Go.Proofs.YtdkcclngionihaaDoor
open Go.RowKit

/-- what Add gives back -/
def Added (w0 : World) (l xs ws : List Int) (e : Ending) (w' : World) : Prop :=
  if addE l xs ws = 0 then ∃ v, e = .returned (.tuple #[v, .int .i64 (us (total l) ws xs.length), .int .i64 0]) ∧ NewInts w0 (outL l xs ws xs.length) v w'
  else e = .returned (.tuple #[.slice none 0 0, .int .i64 0, .int .i64 (addE l xs ws)]) ∧ ∃ y : Since w0, w' = y.w
theorem Added.fail {w0 : World} {l xs ws : List Int} {n : Int} (h : addE l xs ws = n) (hn : n ≠ 0) {w' : World} (hw : ∃ y : Since w0, w' = y.w) : Added w0 l xs ws (.returned (.tuple #[.slice none 0 0, .int .i64 0, .int .i64 n])) w' := by
  unfold Added; rw [if_neg (by omega), h]; exact ⟨rfl, hw⟩
theorem Added.done {w0 w' : World} {l xs ws : List Int} {base : Nat} {v : Value} (h : addE l xs ws = 0) (hown : w'.ownsRow base 3 1 v xs.length ((outL l xs ws xs.length).map (.int .i64))) (hw : ∃ y : Since w0, w' = y.w) :
    Added w0 l xs ws (.returned (.tuple #[v, .int .i64 (us (total l) ws xs.length), .int .i64 0])) w' := by
  unfold Added; rw [if_pos h]
  obtain ⟨a, cap, rfl, hcap, hrow, _⟩ := own_row hown
  obtain ⟨y, rfl⟩ := hw
  refine ⟨_, rfl, a, cap, by rw [outL_length], by rw [outL_length]; exact hcap, y, rfl, ?_⟩
  intro i hi
  rw [outL_length] at hi
  obtain ⟨b, off, h1, h2, h3⟩ := hrow i hi
  exact ⟨b, off, h1, h2, by rw [h3]; exact congrArg some (nmap_at (outL_length _ _ _ _) hi)⟩
end Go.Proofs.YtdkcclngionihaaDoor
/- noise.Add: the new numbers lie in new memory. Written by mkadd.py out of NzW12. -/
namespace Go.Proofs.YtdkcclngionihaaDoor
open Go.RowKit

/-- what Add gives back: in new memory -/
def AddedF (w0 : World) (l xs ws : List Int) (e : Ending) (w' : World) : Prop :=
  if addE l xs ws = 0 then ∃ a cap, e = .returned (.tuple #[.slice a xs.length cap, .int .i64 (us (total l) ws xs.length), .int .i64 0]) ∧ ∃ y : Since w0, w' = y.w ∧ IntRow y.w a (outL l xs ws xs.length) ∧ ∀ b, a = some b → w0.heap.size ≤ b.block
  else e = .returned (.tuple #[.slice none 0 0, .int .i64 0, .int .i64 (addE l xs ws)]) ∧ ∃ y : Since w0, w' = y.w
theorem AddedF.fail {w0 : World} {l xs ws : List Int} {n : Int} (h : addE l xs ws = n) (hn : n ≠ 0) {w' : World} (hw : ∃ y : Since w0, w' = y.w) : AddedF w0 l xs ws (.returned (.tuple #[.slice none 0 0, .int .i64 0, .int .i64 n])) w' := by
  unfold AddedF; rw [if_neg (by omega), h]; exact ⟨rfl, hw⟩
theorem AddedF.done {w0 w' : World} {l xs ws : List Int} {base : Nat} {v : Value} (h : addE l xs ws = 0) (hown : w'.ownsRow base 3 1 v xs.length ((outL l xs ws xs.length).map (.int .i64))) (hw : ∃ y : Since w0, w' = y.w) (hb : w0.heap.size ≤ base) :
    AddedF w0 l xs ws (.returned (.tuple #[v, .int .i64 (us (total l) ws xs.length), .int .i64 0])) w' := by
  unfold AddedF; rw [if_pos h]
  obtain ⟨a, cap, rfl, hcap, hrow, hfr⟩ := own_row hown
  obtain ⟨y, rfl⟩ := hw
  refine ⟨a, cap, rfl, y, rfl, ?_, fun b e => Nat.le_trans hb (hfr b e)⟩
  intro i hi
  rw [outL_length] at hi
  obtain ⟨b, off, h1, h2, h3⟩ := hrow i hi
  exact ⟨b, off, h1, h2, by rw [h3]; exact congrArg some (nmap_at (outL_length _ _ _ _) hi)⟩
end Go.Proofs.YtdkcclngionihaaDoor
/- The reference's Add: the new numbers lie in new memory. Written by mkaddr.py out of NzW13. -/
namespace Go.Proofs.YtdkcclngionihaaDoor
open Go.RowKit

end Go.Proofs.YtdkcclngionihaaDoor
/- The reference's flow between rows and columns: what is sent over each hidden cell, and the greatest amount: plain mathematics, no program in sight. -/
namespace Go.Proofs.YtdkcclngionihaaDoor

/-- cells that take part -/
def actC (h : List Bool) (but i : Nat) : Bool := bo h i && decide (i ≠ but)
theorem actC_iff {h : List Bool} {but i : Nat} : actC h but i = true ↔ bo h i = true ∧ i ≠ but := by simp [actC]
/-- what is sent over cell i (from its row to its column) gives to node z -/
def exI (R C : Nat) (X : Nat → Int) (i : Nat) (z : Int) : Int := (if ((i / C : Nat) : Int) = z then X i else 0) - (if ((R + i % C : Nat) : Int) = z then X i else 0)
theorem arcAt_app {a b : List Arc} {j : Nat} : arcAt (a ++ b) j = if j < a.length then arcAt a j else arcAt b (j - a.length) := by
  unfold arcAt
  rw [List.getD_eq_getElem?_getD, List.getD_eq_getElem?_getD, List.getD_eq_getElem?_getD]
  by_cases h : j < a.length
  · rw [if_pos h, List.getElem?_append_left h]
  · rw [if_neg h, List.getElem?_append_right (by omega)]
theorem sumF_app (f : Nat → Int) (m : Nat) : ∀ n, sumF f (m + n) = sumF f m + sumF (fun i => f (m + i)) n
  | 0 => by simp [sumF]
  | n + 1 => by
    rw [← Nat.add_assoc]
    simp only [sumF]
    rw [sumF_app f m n]; omega
theorem exc_app (a b : List Arc) (f : Nat → Int) (z : Int) : exc (a ++ b) f z = exc a f z + exc b (fun i => f (a.length + i)) z := by
  unfold exc
  rw [List.length_append, sumF_app]
  refine congr (congrArg _ (sumF_congr _ fun i hi => ?_)) (sumF_congr _ fun i hi => ?_)
  · rw [arcAt_app, if_pos hi]
  · rw [arcAt_app, if_neg (by omega), Nat.add_sub_cancel_left]
theorem exc_congr {a : List Arc} {f g : Nat → Int} (h : ∀ i, i < a.length → f i = g i) (z : Int) : exc a f z = exc a g z := by
  unfold exc
  exact sumF_congr _ fun i hi => by rw [h i hi]
/-- how an arc of the network is used -/
def UseOf (R C : Nat) (l : List Int) (h : List Bool) (but k : Nat) (X : Nat → Int) (a : Arc) (x : Int) : Prop :=
  ∃ i, i < k ∧ actC h but i = true ∧ ((a = ⟨((R + i % C : Nat) : Int), ((i / C : Nat) : Int), at0 l i, 0⟩ ∧ x = max (-(X i)) 0) ∨ (a = ⟨((i / C : Nat) : Int), ((R + i % C : Nat) : Int), 65536, 0⟩ ∧ x = max (X i) 0))
theorem net_use (R C : Nat) (l : List Int) (h : List Bool) (but : Nat) (X : Nat → Int) : ∀ k, ∃ f : Nat → Int, (∀ j, j < (netN R C l h but k).length → UseOf R C l h but k X (arcAt (netN R C l h but k) j) (f j)) ∧
    ∀ z, exc (netN R C l h but k) f z = sumF (fun i => if actC h but i = true then exI R C X i z else 0) k
  | 0 => ⟨fun _ => 0, fun j hj => by simp [netN] at hj, fun z => by simp [netN, exc, sumF]⟩
  | k + 1 => by
    obtain ⟨f, h1, h2⟩ := net_use R C l h but X k
    by_cases ha : actC h but k = true
    · have hc : netC R C l h but k = [⟨((R + k % C : Nat) : Int), ((k / C : Nat) : Int), at0 l k, 0⟩, ⟨((k / C : Nat) : Int), ((R + k % C : Nat) : Int), 65536, 0⟩] := by
        unfold netC; rw [if_pos (actC_iff.1 ha)]
      obtain ⟨N, hN⟩ : ∃ N, N = netN R C l h but k := ⟨_, rfl⟩
      have hn : netN R C l h but (k + 1) = N ++ netC R C l h but k := by rw [hN]; rfl
      rw [← hN] at h1 h2
      rw [hn, hc]
      refine ⟨fun j => if j < N.length then f j else if j = N.length then max (-(X k)) 0 else max (X k) 0, fun j hj => ?_, fun z => ?_⟩
      · rw [arcAt_app]
        by_cases hj1 : j < N.length
        · simp only [if_pos hj1]
          obtain ⟨i, hi, a, b⟩ := h1 j hj1
          exact ⟨i, by omega, a, b⟩
        · simp only [if_neg hj1]
          simp only [List.length_append, List.length_cons, List.length_nil] at hj
          by_cases hj2 : j = N.length
          · subst hj2
            simp only [if_pos, Nat.sub_self]
            exact ⟨k, by omega, ha, Or.inl ⟨rfl, rfl⟩⟩
          · simp only [if_neg hj2]
            rw [show j - N.length = 1 by omega]
            exact ⟨k, by omega, ha, Or.inr ⟨rfl, rfl⟩⟩
      · rw [exc_app, exc_congr (g := f) (fun i hi => by simp only [if_pos hi]), h2]
        simp only [sumF]
        rw [if_pos ha]
        congr 1
        simp only [exc, List.length_cons, List.length_nil, Nat.zero_add, sumF]
        rw [if_neg (by omega : ¬ N.length + 0 < N.length), if_pos (Nat.add_zero _ : N.length + 0 = N.length), if_neg (by omega : ¬ N.length + 1 < N.length), if_neg (by omega : ¬ N.length + 1 = N.length)]
        show 0 + arcEx ⟨_, _, _, _⟩ _ z + arcEx ⟨_, _, _, _⟩ _ z = exI R C X k z
        unfold arcEx exI
        dsimp only
        split <;> split <;> omega
    · have hc : netC R C l h but k = [] := by
        unfold netC; rw [if_neg (fun hh => ha (actC_iff.2 hh))]
      have hn : netN R C l h but (k + 1) = netN R C l h but k := by show netN R C l h but k ++ netC R C l h but k = _; rw [hc, List.append_nil]
      rw [hn]
      refine ⟨f, fun j hj => ?_, fun z => ?_⟩
      · obtain ⟨i, hi, a, b⟩ := h1 j hj
        exact ⟨i, by omega, a, b⟩
      · rw [h2]; simp only [sumF]; rw [if_neg ha]; omega
/-- the reference's nodes -/
def excR (C : Nat) (h : List Bool) (but n : Nat) (X : Nat → Int) (z : Nat) : Int := sumF (fun i => if actC h but i = true then (if i / C = z then X i else 0) - (if 8 + i % C = z then X i else 0) else 0) n
theorem ite_iff {p q : Prop} [Decidable p] [Decidable q] (h : p ↔ q) (a b : Int) : (if p then a else b) = if q then a else b := by
  by_cases hp : p
  · rw [if_pos hp, if_pos (h.1 hp)]
  · rw [if_neg hp, if_neg (fun hq => hp (h.2 hq))]
/-- the pair of nodes of a cell -/
def actM (R C : Nat) (h : List Bool) (but q p : Nat) : Bool := decide (q < R) && decide (p < C) && actC h but (q * C + p)
/-- the capacities that are left -/
def matX (R C : Nat) (l : List Int) (h : List Bool) (but : Nat) (X : Nat → Int) (u v : Nat) : Int :=
  if u < 8 ∧ 8 ≤ v ∧ actM R C h but u (v - 8) = true then 131072 - X (u * C + (v - 8))
  else if 8 ≤ u ∧ v < 8 ∧ actM R C h but v (u - 8) = true then at0 l (v * C + (u - 8)) + X (v * C + (u - 8)) else 0
/-- what the reference has sent -/
structure Sent (R C : Nat) (l : List Int) (h : List Bool) (but s t : Nat) (X : Nat → Int) (total : Int) : Prop where
  b : ∀ i, i < l.length → actC h but i = true → 0 ≤ at0 l i + X i ∧ -total ≤ X i ∧ X i ≤ total
  e : ∀ z, z < 16 → excR C h but l.length X z = (if z = s then total else 0) - (if z = t then total else 0)
/-- a reference's node in the program's network -/
def nodP (R u : Nat) : Int := if u < 8 then (u : Int) else ((R + (u - 8) : Nat) : Int)
def refN (R : Nat) (z : Int) : Nat := if z < (R : Int) then z.toNat else 8 + (z - R).toNat
def okN (R C u : Nat) : Prop := u < R ∨ (8 ≤ u ∧ u < 8 + C)
section
variable {R C : Nat} {l : List Int} (hG : SG R C l)
include hG
theorem ref_nod {u : Nat} (hu : okN R C u) : refN R (nodP R u) = u ∧ 0 ≤ nodP R u ∧ nodP R u < ((R + C : Nat) : Int) := by
  have := hG.r
  unfold refN nodP
  rcases hu with h | h
  · rw [if_pos (by omega), if_pos (by omega)]; refine ⟨?_, ?_, ?_⟩ <;> omega
  · rw [if_neg (by omega), if_neg (by omega)]; refine ⟨?_, ?_, ?_⟩ <;> omega
theorem nod_inj {u v : Nat} (hu : okN R C u) (hv : okN R C v) (e : nodP R u = nodP R v) : u = v := by
  rw [← (ref_nod hG hu).1, ← (ref_nod hG hv).1, e]
theorem ref_ok {z : Int} (h0 : 0 ≤ z) (h1 : z < ((R + C : Nat) : Int)) : okN R C (refN R z) ∧ nodP R (refN R z) = z := by
  have := hG.r
  unfold refN okN nodP
  by_cases h : z < (R : Int)
  · rw [if_pos h, if_pos (by omega)]; exact ⟨Or.inl (by omega), by omega⟩
  · rw [if_neg h, if_neg (by omega)]; exact ⟨Or.inr (by omega), by omega⟩
/-- the excess in the program's network -/
theorem exI_ref {h : List Bool} {but : Nat} {X : Nat → Int} {u : Nat} (hu : okN R C u) : sumF (fun i => if actC h but i = true then exI R C X i (nodP R u) else 0) l.length = excR C h but l.length X u := by
  unfold excR
  refine sumF_congr _ fun i hi => ?_
  obtain ⟨h1, h2, _⟩ := hG.cell hi
  have hr := hG.r
  by_cases ha : actC h but i = true
  · rw [if_pos ha, if_pos ha]
    unfold exI
    have e1 : (((i / C : Nat) : Int) = nodP R u) ↔ i / C = u := by
      refine ⟨fun e => nod_inj hG (Or.inl h1) hu ?_, fun e => ?_⟩
      · rw [← e]; unfold nodP; rw [if_pos (by omega)]
      · rw [← e]; unfold nodP; rw [if_pos (by omega)]
    have e2 : (((R + i % C : Nat) : Int) = nodP R u) ↔ 8 + i % C = u := by
      have hk : okN R C (8 + i % C) := Or.inr (by omega)
      have hn : nodP R (8 + i % C) = ((R + i % C : Nat) : Int) := by unfold nodP; rw [if_neg (by omega)]; congr 2; omega
      refine ⟨fun e => nod_inj hG hk hu (by rw [hn, e]), fun e => by rw [← e, hn]⟩
    exact congr (congrArg _ (ite_iff e1 _ _)) (ite_iff e2 _ _)
  · rw [if_neg ha, if_neg ha]
theorem exI_out {h : List Bool} {but : Nat} {X : Nat → Int} {z : Int} (hz : z < 0 ∨ ((R + C : Nat) : Int) ≤ z) : sumF (fun i => if actC h but i = true then exI R C X i z else 0) l.length = 0 := by
  rw [sumF_congr (g := fun _ => 0) _ fun i hi => ?_]; · exact sumF_zero _
  obtain ⟨h1, h2, _⟩ := hG.cell hi
  by_cases ha : actC h but i = true
  · rw [if_pos ha]
    unfold exI
    generalize i / C = q at *
    generalize i % C = r at *
    rw [if_neg (by omega), if_neg (by omega)]; rfl
  · rw [if_neg ha]
/-- a flow in the program's network -/
theorem sent_flow {h : List Bool} {but s t : Nat} {X : Nat → Int} {total : Int} (hS : Sent R C l h but s t X total) (hs : okN R C s) (ht : okN R C t) (hst : s ≠ t) (h0 : 0 ≤ total) (h1 : total ≤ 65536) :
    ∃ f, Flow (R + C) (netN R C l h but l.length) (nodP R s) (nodP R t) f total ∧ ∀ j, j < (netN R C l h but l.length).length → UseOf R C l h but l.length X (arcAt (netN R C l h but l.length) j) (f j) := by
  obtain ⟨f, f1, f2⟩ := net_use R C l h but X l.length
  have hr := hG.r
  have hc := hG.c
  have in16 : ∀ u, okN R C u → u < 16 := fun u hu => by rcases hu with h | h <;> omega
  refine ⟨f, ⟨fun j hj => ?_, fun z h2 h3 => ?_, ?_⟩, f1⟩
  · obtain ⟨i, hi, ha, hb⟩ := f1 j hj
    obtain ⟨b1, b2, b3⟩ := hS.b i hi ha
    rcases hb with ⟨e, hx⟩ | ⟨e, hx⟩
    · rw [e, hx]; dsimp only; have := (hG.cell hi).2.2.1; omega
    · rw [e, hx]; dsimp only; omega
  · rw [f2]
    by_cases hz : 0 ≤ z ∧ z < ((R + C : Nat) : Int)
    · obtain ⟨hk, e⟩ := ref_ok hG hz.1 hz.2
      rw [← e, exI_ref hG hk, hS.e _ (in16 _ hk)]
      rw [if_neg (fun hh => h2 (by rw [← e, hh])), if_neg (fun hh => h3 (by rw [← e, hh]))]; rfl
    · exact exI_out hG (by omega)
  · rw [f2, exI_ref hG hs, hS.e _ (in16 _ hs), if_pos rfl, if_neg hst]; omega
theorem sent_le {h : List Bool} {but s t : Nat} {X : Nat → Int} {total : Int} (hS : Sent R C l h but s t X total) (hs : okN R C s) (ht : okN R C t) (hst : s ≠ t) (h0 : 0 ≤ total) (h1 : total ≤ 65536) {v : Int}
    (hv : IsMost (R + C) (netN R C l h but l.length) (nodP R s) (nodP R t) v) : total ≤ v := by
  obtain ⟨f, hF, _⟩ := sent_flow hG hS hs ht hst h0 h1
  obtain ⟨_, S, s1, s2, s3⟩ := hv
  rw [← s3]
  exact hF.le_cut (hG.netOk h but) (ref_nod hG hs).2 s1 s2
/-- nothing more can be sent -/
theorem sent_most {h : List Bool} {but s t : Nat} {X : Nat → Int} {total : Int} (hS : Sent R C l h but s t X total) (hs : okN R C s) (ht : okN R C t) (hst : s ≠ t) (h0 : 0 ≤ total) (h1 : total ≤ 65536)
    {K : Nat → Bool} (k1 : K s = true) (k2 : K t = false) (hK : ∀ u v, u < 16 → v < 16 → K u = true → 0 < matX R C l h but X u v → K v = true) : IsMost (R + C) (netN R C l h but l.length) (nodP R s) (nodP R t) total := by
  obtain ⟨f, hF, f1⟩ := sent_flow hG hS hs ht hst h0 h1
  have hr := hG.r
  have hc := hG.c
  refine most_of_closed (K := fun z => K (refN R z)) hF (hG.netOk h but) (ref_nod hG hs).2 (by show K (refN R (nodP R s)) = true; rw [(ref_nod hG hs).1]; exact k1) (by show K (refN R (nodP R t)) = false; rw [(ref_nod hG ht).1]; exact k2) ?_
  intro j fw a b room hres ha
  obtain ⟨hj, hres⟩ := hres
  obtain ⟨i, hi, hac, hb⟩ := f1 j hj
  obtain ⟨b1, b2, b3⟩ := hS.b i hi hac
  obtain ⟨q1, q2, q3, q4⟩ := hG.cell hi
  have hC0 : 0 < C := by omega
  have hdm : i / C * C + i % C = i := by rw [Nat.mul_comm]; exact Nat.div_add_mod i C
  have nr : refN R ((i / C : Nat) : Int) = i / C := by generalize i / C = q at *; unfold refN; rw [if_pos (by omega)]; omega
  have nc : refN R ((R + i % C : Nat) : Int) = 8 + i % C := by generalize i % C = r at *; unfold refN; rw [if_neg (by omega)]; omega
  have hm : actM R C h but (i / C) (i % C) = true := by
    unfold actM; rw [hdm, hac]; simp [q1, q2]
  -- from the row to the column there is always room
  have rc : K (i / C) = true → K (8 + i % C) = true := fun hk => hK _ _ (by omega) (by omega) hk (by
    unfold matX
    rw [show 8 + i % C - 8 = i % C by omega, hdm, if_pos ⟨by omega, by omega, hm⟩]; omega)
  have cr : 0 < at0 l i + X i → K (8 + i % C) = true → K (i / C) = true := fun hp hk => hK _ _ (by omega) (by omega) hk (by
    unfold matX
    rw [show 8 + i % C - 8 = i % C by omega, hdm, if_neg (by omega), if_pos ⟨by omega, by omega, hm⟩]; omega)
  rcases hb with ⟨e, hx⟩ | ⟨e, hx⟩
  · rcases hres with ⟨_, e1, e2, _, hlt⟩ | ⟨_, e1, e2, _, hlt⟩
    · rw [e] at e1 e2 hlt
      dsimp only at e1 e2 hlt
      rw [← e1, nc] at ha
      rw [← e2, nr]
      exact cr (by omega) ha
    · rw [e] at e1 e2
      dsimp only at e1 e2
      rw [← e1, nr] at ha
      rw [← e2, nc]
      exact rc ha
  · rcases hres with ⟨_, e1, e2, _, hlt⟩ | ⟨_, e1, e2, _, hlt⟩
    · rw [e] at e1 e2
      dsimp only at e1 e2
      rw [← e1, nr] at ha
      rw [← e2, nc]
      exact rc ha
    · rw [e] at e1 e2
      dsimp only at e1 e2
      rw [← e1, nc] at ha
      rw [← e2, nr]
      exact cr (by omega) ha
end
end Go.Proofs.YtdkcclngionihaaDoor
/- The reference's flow: a way, and what is pushed along it: plain mathematics, no program in sight. -/
namespace Go.Proofs.YtdkcclngionihaaDoor

/-- what the search from s found: the node before each, and how early each was found -/
structure Way (M : Nat → Nat → Int) (s : Nat) (bef : Nat → Int) (r : Nat → Nat) : Prop where
  z0 : bef s = (s : Int)
  rg : ∀ z, z < 16 → -1 ≤ bef z ∧ bef z < 16
  up : ∀ z, z < 16 → z ≠ s → 0 ≤ bef z → r (bef z).toNat < r z ∧ 0 ≤ bef (bef z).toNat ∧ 0 < M (bef z).toNat z
  cl : ∀ u v, u < 16 → v < 16 → 0 ≤ bef u → 0 < M u v → 0 ≤ bef v
/-- the way back from t -/
def wayP (bef : Nat → Int) (t : Nat) : Nat → Nat
  | 0 => t
  | m + 1 => (bef (wayP bef t m)).toNat
section
variable {M : Nat → Nat → Int} {s : Nat} {bef : Nat → Int} {r : Nat → Nat} (W : Way M s bef r)
include W
theorem Way.on {t : Nat} (ht : t < 16) (h0 : 0 ≤ bef t) : ∀ m, (∀ j, j < m → wayP bef t j ≠ s) → wayP bef t m < 16 ∧ 0 ≤ bef (wayP bef t m)
  | 0, _ => ⟨ht, h0⟩
  | m + 1, h => by
    obtain ⟨a, b⟩ := Way.on ht h0 m fun j hj => h j (by omega)
    have := W.up _ a (h m (by omega)) b
    have := W.rg _ a
    exact ⟨by show (bef _).toNat < 16; omega, by show 0 ≤ bef (bef _).toNat; exact (W.up _ a (h m (by omega)) b).2.1⟩
theorem Way.down {t : Nat} (ht : t < 16) (h0 : 0 ≤ bef t) {m : Nat} (h : ∀ j, j < m → wayP bef t j ≠ s) : ∀ j, j ≤ m → r (wayP bef t j) + j ≤ r t
  | 0, _ => Nat.le_refl _
  | j + 1, hj => by
    have := Way.down ht h0 h j (by omega)
    obtain ⟨a, b⟩ := W.on ht h0 j fun i hi => h i (by omega)
    have := (W.up _ a (h j (by omega)) b).1
    show r (bef _).toNat + (j + 1) ≤ r t
    omega
theorem Way.ends {t : Nat} (ht : t < 16) (h0 : 0 ≤ bef t) : ∃ d, wayP bef t d = s ∧ ∀ j, j < d → wayP bef t j ≠ s := by
  by_cases he : ∃ d, wayP bef t d = s
  · obtain ⟨d, hd⟩ := he
    induction d using Nat.strongRecOn with
    | _ d ih =>
      by_cases h : ∃ j, j < d ∧ wayP bef t j = s
      · obtain ⟨j, hj, e⟩ := h; exact ih j hj e
      · exact ⟨d, hd, fun j hj e => h ⟨j, hj, e⟩⟩
  · exact absurd (W.down ht h0 (m := r t + 1) (fun j _ e => he ⟨j, e⟩) (r t + 1) (Nat.le_refl _)) (by omega)
theorem Way.rank {t d : Nat} (ht : t < 16) (h0 : 0 ≤ bef t) (h : ∀ j, j < d → wayP bef t j ≠ s) {i j : Nat} (hij : i < j) (hj : j ≤ d) : r (wayP bef t j) < r (wayP bef t i) := by
  induction j with
  | zero => omega
  | succ j ih =>
    obtain ⟨a, b⟩ := W.on ht h0 j fun i hi => h i (by omega)
    have h1 := (W.up _ a (h j (by omega)) b).1
    by_cases e : i = j
    · subst e; exact h1
    · exact Nat.lt_trans h1 (ih (by omega) (by omega))
theorem Way.edge {t d : Nat} (ht : t < 16) (h0 : 0 ≤ bef t) (h : ∀ j, j < d → wayP bef t j ≠ s) {m : Nat} (hm : m < d) : wayP bef t m < 16 ∧ wayP bef t (m + 1) < 16 ∧ bef (wayP bef t m) = (wayP bef t (m + 1) : Int) ∧ 0 < M (wayP bef t (m + 1)) (wayP bef t m) := by
  obtain ⟨a, b⟩ := W.on ht h0 m fun i hi => h i (by omega)
  obtain ⟨a', _⟩ := W.on ht h0 (m + 1) fun i hi => h i (by omega)
  refine ⟨a, a', ?_, (W.up _ a (h m hm) b).2.2⟩
  show bef _ = (((bef _).toNat : Nat) : Int)
  omega
end
/-- the cell of a pair of nodes -/
def celOf (C u v : Nat) : Nat := if u < 8 then u * C + (v - 8) else v * C + (u - 8)
/-- the pair is that of a cell that takes part -/
def actP (R C : Nat) (h : List Bool) (but u v : Nat) : Prop := (u < 8 ∧ 8 ≤ v ∧ actM R C h but u (v - 8) = true) ∨ (8 ≤ u ∧ v < 8 ∧ actM R C h but v (u - 8) = true)
theorem act_of_pos {R C : Nat} {l : List Int} {h : List Bool} {but : Nat} {X : Nat → Int} {u v : Nat} (hp : 0 < matX R C l h but X u v) : actP R C h but u v := by
  unfold matX at hp
  by_cases h1 : u < 8 ∧ 8 ≤ v ∧ actM R C h but u (v - 8) = true
  · exact Or.inl h1
  · rw [if_neg h1] at hp
    by_cases h2 : 8 ≤ u ∧ v < 8 ∧ actM R C h but v (u - 8) = true
    · exact Or.inr h2
    · rw [if_neg h2] at hp; omega
theorem actM_in {R C : Nat} {h : List Bool} {but q p : Nat} (ha : actM R C h but q p = true) : q < R ∧ p < C ∧ actC h but (q * C + p) = true := by
  unfold actM at ha
  simp only [Bool.and_eq_true, decide_eq_true_eq] at ha
  exact ⟨ha.1.1, ha.1.2, ha.2⟩
theorem cel_inj {C q p q' p' : Nat} (hp : p < C) (hp' : p' < C) (e : q * C + p = q' * C + p') : q = q' ∧ p = p' := by
  have h1 : (q * C + p) / C = q := by rw [Nat.mul_comm, Nat.mul_add_div (by omega), Nat.div_eq_of_lt hp]; rfl
  have h2 : (q' * C + p') / C = q' := by rw [Nat.mul_comm, Nat.mul_add_div (by omega), Nat.div_eq_of_lt hp']; rfl
  have : q = q' := by rw [← h1, ← h2, e]
  subst this
  exact ⟨rfl, by omega⟩
theorem cel_div {C q p : Nat} (hp : p < C) : (q * C + p) / C = q ∧ (q * C + p) % C = p := by
  refine ⟨by rw [Nat.mul_comm, Nat.mul_add_div (by omega), Nat.div_eq_of_lt hp]; rfl, ?_⟩
  rw [Nat.mul_comm, Nat.mul_add_mod, Nat.mod_eq_of_lt hp]
theorem cel_lt {R C q p : Nat} (hq : q < R) (hp : p < C) : q * C + p < R * C := by
  have := Nat.mul_le_mul_right C (show q + 1 ≤ R from hq)
  rw [Nat.add_mul] at this
  omega
section
variable {R C : Nat} {l : List Int} {h : List Bool} {but : Nat}
/-- the capacities behind a push over one pair -/
theorem mat_bump {X : Nat → Int} {u v : Nat} (hp : actP R C h but u v) (k : Int) (a b : Nat) :
    matX R C l h but (bump X (celOf C u v) (if u < 8 then k else -k)) a b = if a = u ∧ b = v then matX R C l h but X u v - k else if a = v ∧ b = u then matX R C l h but X v u + k else matX R C l h but X a b := by
  have key : ∀ q p q' p', actM R C h but q p = true → actM R C h but q' p' = true → (q * C + p = q' * C + p' ↔ q = q' ∧ p = p') := fun q p q' p' h1 h2 =>
    ⟨fun e => cel_inj (actM_in h1).2.1 (actM_in h2).2.1 e, fun e => by rw [e.1, e.2]⟩
  rcases hp with ⟨u8, v8, ha⟩ | ⟨u8, v8, ha⟩
  · have hc : celOf C u v = u * C + (v - 8) := by unfold celOf; rw [if_pos u8]
    have c1 : matX R C l h but X u v = 131072 - X (u * C + (v - 8)) := by unfold matX; rw [if_pos (⟨u8, v8, ha⟩ : u < 8 ∧ 8 ≤ v ∧ actM R C h but u (v - 8) = true)]
    have c2 : matX R C l h but X v u = at0 l (u * C + (v - 8)) + X (u * C + (v - 8)) := by
      unfold matX
      rw [if_neg (fun hh => by omega : ¬ (v < 8 ∧ 8 ≤ u ∧ actM R C h but v (u - 8) = true)), if_pos (⟨v8, u8, ha⟩ : 8 ≤ v ∧ u < 8 ∧ actM R C h but u (v - 8) = true)]
    rw [hc, if_pos u8, c1, c2]
    unfold matX
    by_cases h1 : a < 8 ∧ 8 ≤ b ∧ actM R C h but a (b - 8) = true
    · rw [if_pos h1, if_pos h1]
      by_cases e : a = u ∧ b = v
      · obtain ⟨rfl, rfl⟩ := e
        rw [if_pos ⟨rfl, rfl⟩]; unfold bump; rw [if_pos rfl]; omega
      · rw [if_neg e, if_neg (by omega)]
        unfold bump
        rw [if_neg (fun e2 => e (by have := (key _ _ _ _ h1.2.2 ha).1 e2; omega))]
    · rw [if_neg h1, if_neg h1]
      rw [if_neg (fun e => h1 (by obtain ⟨rfl, rfl⟩ := e; exact ⟨u8, v8, ha⟩) : ¬ (a = u ∧ b = v))]
      by_cases h2 : 8 ≤ a ∧ b < 8 ∧ actM R C h but b (a - 8) = true
      · rw [if_pos h2, if_pos h2]
        by_cases e : a = v ∧ b = u
        · obtain ⟨rfl, rfl⟩ := e
          rw [if_pos ⟨rfl, rfl⟩]; unfold bump; rw [if_pos rfl]; omega
        · rw [if_neg e]
          unfold bump
          rw [if_neg (fun e2 => e (by have := (key _ _ _ _ h2.2.2 ha).1 e2; omega))]
      · rw [if_neg h2, if_neg h2, if_neg (fun e => h2 (by obtain ⟨rfl, rfl⟩ := e; exact ⟨v8, u8, ha⟩))]
  · have hc : celOf C u v = v * C + (u - 8) := by unfold celOf; rw [if_neg (by omega)]
    have c2 : matX R C l h but X v u = 131072 - X (v * C + (u - 8)) := by unfold matX; rw [if_pos (⟨v8, u8, ha⟩ : v < 8 ∧ 8 ≤ u ∧ actM R C h but v (u - 8) = true)]
    have c1 : matX R C l h but X u v = at0 l (v * C + (u - 8)) + X (v * C + (u - 8)) := by
      unfold matX
      rw [if_neg (fun hh => by omega : ¬ (u < 8 ∧ 8 ≤ v ∧ actM R C h but u (v - 8) = true)), if_pos (⟨u8, v8, ha⟩ : 8 ≤ u ∧ v < 8 ∧ actM R C h but v (u - 8) = true)]
    rw [hc, if_neg (by omega : ¬ u < 8), c1, c2]
    unfold matX
    by_cases h1 : a < 8 ∧ 8 ≤ b ∧ actM R C h but a (b - 8) = true
    · rw [if_pos h1, if_pos h1, if_neg (by omega : ¬ (a = u ∧ b = v))]
      by_cases e : a = v ∧ b = u
      · obtain ⟨rfl, rfl⟩ := e
        rw [if_pos ⟨rfl, rfl⟩]; unfold bump; rw [if_pos rfl]; omega
      · rw [if_neg e]
        unfold bump
        rw [if_neg (fun e2 => e (by have := (key _ _ _ _ h1.2.2 ha).1 e2; omega))]
    · rw [if_neg h1, if_neg h1]
      by_cases h2 : 8 ≤ a ∧ b < 8 ∧ actM R C h but b (a - 8) = true
      · rw [if_pos h2, if_pos h2]
        by_cases e : a = u ∧ b = v
        · obtain ⟨rfl, rfl⟩ := e
          rw [if_pos ⟨rfl, rfl⟩]; unfold bump; rw [if_pos rfl]; omega
        · rw [if_neg e, if_neg (by omega)]
          unfold bump
          rw [if_neg (fun e2 => e (by have := (key _ _ _ _ h2.2.2 ha).1 e2; omega))]
      · rw [if_neg h2, if_neg h2, if_neg (fun e => h2 (by obtain ⟨rfl, rfl⟩ := e; exact ⟨u8, v8, ha⟩)), if_neg (fun e => h1 (by obtain ⟨rfl, rfl⟩ := e; exact ⟨v8, u8, ha⟩))]
theorem excR_bump (X : Nat → Int) (c : Nat) (dl : Int) (z n : Nat) (hc : c < n) (ha : actC h but c = true) : excR C h but n (bump X c dl) z = excR C h but n X z + ((if c / C = z then dl else 0) - (if 8 + c % C = z then dl else 0)) := by
  unfold excR
  have e : ∀ i, (if actC h but i = true then (if i / C = z then bump X c dl i else 0) - (if 8 + i % C = z then bump X c dl i else 0) else 0) = if i = c then (if actC h but i = true then (if i / C = z then X i else 0) - (if 8 + i % C = z then X i else 0) else 0) + ((if c / C = z then dl else 0) - (if 8 + c % C = z then dl else 0)) else (if actC h but i = true then (if i / C = z then X i else 0) - (if 8 + i % C = z then X i else 0) else 0) := fun i => by
    unfold bump
    by_cases hi : i = c
    · subst hi
      rw [if_pos rfl, if_pos rfl, if_pos ha, if_pos ha]
      by_cases h1 : i / C = z <;> by_cases h2 : 8 + i % C = z <;> simp only [h1, h2, if_true, if_false] <;> omega
    · rw [if_neg hi, if_neg hi]
  rw [sumF_congr _ fun i _ => e i, sumF_set, if_pos hc]
end
theorem mat_val {R C : Nat} {l : List Int} {h : List Bool} {but : Nat} {X : Nat → Int} {u v : Nat} (hp : actP R C h but u v) : matX R C l h but X u v = if u < 8 then 131072 - X (celOf C u v) else at0 l (celOf C u v) + X (celOf C u v) := by
  unfold matX celOf
  rcases hp with hp | hp
  · rw [if_pos hp, if_pos hp.1, if_pos hp.1]
  · rw [if_neg (fun hh => by omega : ¬ (u < 8 ∧ 8 ≤ v ∧ actM R C h but u (v - 8) = true)), if_pos hp, if_neg (by omega : ¬ u < 8), if_neg (by omega : ¬ u < 8)]
/-- m edges of the way are pushed -/
structure Psh (R C : Nat) (l : List Int) (h : List Bool) (but s t : Nat) (bef : Nat → Int) (X0 : Nat → Int) (d : Nat) (k : Int) (m : Nat) (X : Nat → Int) : Prop where
  e : ∀ z, z < 16 → excR C h but l.length X z = excR C h but l.length X0 z + (if wayP bef t m = z then k else 0) - (if t = z then k else 0)
  b : ∀ i, -k ≤ X i - X0 i ∧ X i - X0 i ≤ k
  u : ∀ i, m ≤ i → i < d → X (celOf C (wayP bef t (i + 1)) (wayP bef t i)) = X0 (celOf C (wayP bef t (i + 1)) (wayP bef t i))
  p : ∀ a b, 0 ≤ matX R C l h but X a b
section
variable {R C : Nat} {l : List Int} {h : List Bool} {but s t : Nat} {bef : Nat → Int} {r : Nat → Nat} {X0 : Nat → Int} {d : Nat} {k total : Int}
theorem psh_start (hp : ∀ a b, 0 ≤ matX R C l h but X0 a b) (hk : 0 ≤ k) : Psh R C l h but s t bef X0 d k 0 X0 :=
  ⟨fun z _ => by show _ = _ + (if t = z then k else 0) - _; omega, fun i => by omega, fun i _ _ => rfl, hp⟩
theorem act_same {a b c e : Nat} (h1 : actP R C h but a b) (h2 : actP R C h but c e) (hc : celOf C a b = celOf C c e) : (a = c ∧ b = e) ∨ (a = e ∧ b = c) := by
  have key : ∀ q p q' p', actM R C h but q p = true → actM R C h but q' p' = true → q * C + p = q' * C + p' → q = q' ∧ p = p' := fun q p q' p' h1 h2 e => cel_inj (actM_in h1).2.1 (actM_in h2).2.1 e
  unfold celOf at hc
  rcases h1 with ⟨u8, v8, ha⟩ | ⟨u8, v8, ha⟩ <;> rcases h2 with ⟨u8', v8', ha'⟩ | ⟨u8', v8', ha'⟩
  · rw [if_pos u8, if_pos u8'] at hc; have := key _ _ _ _ ha ha' hc; omega
  · rw [if_pos u8, if_neg (by omega)] at hc; have := key _ _ _ _ ha ha' hc; omega
  · rw [if_neg (by omega), if_pos u8'] at hc; have := key _ _ _ _ ha ha' hc; omega
  · rw [if_neg (by omega), if_neg (by omega)] at hc; have := key _ _ _ _ ha ha' hc; omega
theorem psh_step (hG : SG R C l) (W : Way (matX R C l h but X0) s bef r) (ht : t < 16) (h0 : 0 ≤ bef t) (hd : ∀ j, j < d → wayP bef t j ≠ s) (hk : 0 ≤ k) (hkM : ∀ j, j < d → k ≤ matX R C l h but X0 (wayP bef t (j + 1)) (wayP bef t j)) {m : Nat} (hm : m < d) {X : Nat → Int} (hP : Psh R C l h but s t bef X0 d k m X) :
    actP R C h but (wayP bef t (m + 1)) (wayP bef t m) ∧ Psh R C l h but s t bef X0 d k (m + 1) (bump X (celOf C (wayP bef t (m + 1)) (wayP bef t m)) (if wayP bef t (m + 1) < 8 then k else -k)) := by
  obtain ⟨v16, u16, hb, hpos⟩ := W.edge ht h0 hd hm
  have ha := act_of_pos hpos
  obtain ⟨u, hu⟩ : ∃ u, u = wayP bef t (m + 1) := ⟨_, rfl⟩
  obtain ⟨v, hv⟩ : ∃ v, v = wayP bef t m := ⟨_, rfl⟩
  rw [← hu, ← hv] at ha
  have hcM := hkM m hm
  have hun := hP.u m (Nat.le_refl _) hm
  rw [← hu, ← hv] at hcM hun
  rw [← hu, ← hv]
  -- the cell, its row and its column
  have hcell : ∃ q p, q < R ∧ p < C ∧ celOf C u v = q * C + p ∧ actC h but (q * C + p) = true ∧ ((u < 8 ∧ q = u ∧ 8 + p = v) ∨ (8 ≤ u ∧ q = v ∧ 8 + p = u)) := by
    unfold celOf
    rcases ha with ⟨u8, v8, hx⟩ | ⟨u8, v8, hx⟩
    · obtain ⟨a1, a2, a3⟩ := actM_in hx
      exact ⟨u, v - 8, a1, a2, by rw [if_pos u8], a3, Or.inl ⟨u8, rfl, by omega⟩⟩
    · obtain ⟨a1, a2, a3⟩ := actM_in hx
      exact ⟨v, u - 8, a1, a2, by rw [if_neg (by omega)], a3, Or.inr ⟨u8, rfl, by omega⟩⟩
  have hMe : matX R C l h but X u v = matX R C l h but X0 u v := by rw [mat_val ha, mat_val ha, hun]
  refine ⟨ha, fun z hz => ?_, fun i => ?_, fun i hi hi' => ?_, fun a b => ?_⟩
  · obtain ⟨q, p, hq, hp, hc, hac, hside⟩ := hcell
    rw [excR_bump _ _ _ _ _ (by rw [hc, hG.n]; exact cel_lt hq hp) (by rw [hc]; exact hac), hP.e z hz, hc, (cel_div hp).1, (cel_div hp).2, ← hu, ← hv]
    rcases hside with ⟨u8, rfl, rfl⟩ | ⟨u8, rfl, rfl⟩
    · rw [if_pos u8]; omega
    · rw [if_neg (by omega : ¬ 8 + p < 8)]
      by_cases e1 : q = z <;> by_cases e2 : 8 + p = z <;> simp only [e1, e2, if_true, if_false] <;> omega
  · have := hP.b i
    unfold bump
    by_cases hi : i = celOf C u v
    · rw [if_pos hi, hi, hun]
      split <;> omega
    · rw [if_neg hi]; exact this
  · have h2 := hP.u i (by omega) hi'
    obtain ⟨_, _, _, hpos'⟩ := W.edge ht h0 hd hi'
    unfold bump
    rw [if_neg (fun e => ?_)]; · exact h2
    rcases act_same (act_of_pos hpos') ha e with ⟨e1, e2⟩ | ⟨e1, e2⟩
    · have := W.rank ht h0 hd (i := m) (j := i) (by omega) (by omega)
      rw [e2, hv] at this; omega
    · have := W.rank ht h0 hd (i := m) (j := i + 1) (by omega) (by omega)
      rw [e1, hv] at this; omega
  · rw [mat_bump ha]
    split
    · rw [hMe]; omega
    · split
      · have := hP.p v u; omega
      · exact hP.p a b
theorem psh_bd {X : Nat → Int} {m : Nat} (hP : Psh R C l h but s t bef X0 d k m X) (hk : 0 ≤ k) (a b : Nat) : matX R C l h but X a b ≤ matX R C l h but X0 a b + k := by
  unfold matX
  split
  · have := hP.b (a * C + (b - 8)); omega
  · split
    · have := hP.b (b * C + (a - 8)); omega
    · omega
theorem psh_done (hS : Sent R C l h but s t X0 total) (hG : SG R C l) {X : Nat → Int} (hd : wayP bef t d = s) (hP : Psh R C l h but s t bef X0 d k d X) : Sent R C l h but s t X (total + k) := by
  refine ⟨fun i hi ha => ?_, fun z hz => ?_⟩
  · obtain ⟨b1, b2, b3⟩ := hS.b i hi ha
    have := hP.b i
    refine ⟨?_, by omega, by omega⟩
    obtain ⟨q1, q2, _⟩ := hG.cell hi
    have hr := hG.r
    have hdm : i / C * C + i % C = i := by rw [Nat.mul_comm]; exact Nat.div_add_mod i C
    have hm : actM R C h but (i / C) (i % C) = true := by unfold actM; rw [hdm, ha]; simp [q1, q2]
    have hp := hP.p (8 + i % C) (i / C)
    unfold matX at hp
    rw [show 8 + i % C - 8 = i % C by omega, hdm, if_neg (by omega), if_pos ⟨by omega, by omega, hm⟩] at hp
    exact hp
  · rw [hP.e z hz, hS.e z hz, hd]
    by_cases e1 : z = s <;> by_cases e2 : z = t <;> simp only [e1, e2, if_true, if_false, eq_comm] <;> (try split) <;> omega
theorem sent_zero (hG : SG R C l) : Sent R C l h but s t (fun _ => 0) 0 := by
  refine ⟨fun i hi _ => by have := hG.z i hi; omega, fun z hz => ?_⟩
  have : excR C h but l.length (fun _ => 0) z = 0 := by
    unfold excR
    rw [sumF_congr (g := fun _ => 0) _ fun i hi => by split <;> (try split) <;> (try split) <;> rfl]
    exact sumF_zero _
  rw [this]; simp
theorem mat_nonneg (hG : SG R C l) (hS : Sent R C l h but s t X0 total) (h0 : 0 ≤ total) (h1 : total ≤ 65536) (a b : Nat) : 0 ≤ matX R C l h but X0 a b ∧ matX R C l h but X0 a b ≤ 262144 := by
  unfold matX
  split
  · rename_i hc
    obtain ⟨q1, q2, q3⟩ := actM_in hc.2.2
    have := hS.b _ (by rw [hG.n]; exact cel_lt q1 q2) q3
    omega
  · split
    · rename_i hc
      obtain ⟨q1, q2, q3⟩ := actM_in hc.2.2
      have hi : b * C + (a - 8) < l.length := by rw [hG.n]; exact cel_lt q1 q2
      have := hS.b _ hi q3
      have := (hG.cell hi).2.2
      omega
    · omega
end
end Go.Proofs.YtdkcclngionihaaDoor
/- Whole arrays by value: a net of 16 times 16 numbers, a row of 16. -/
namespace Go.Proofs.YtdkcclngionihaaDoor
open Go.RowKit

/-- the cells of a row of numbers -/
def intsF (n : Nat) (f : Nat → Int) : List Value := (List.range n).map fun i => .int .i64 (f i)
/-- a net's cells -/
def netL (M : Nat → Nat → Int) : List Value := intsF 256 fun i => M (i / 16) (i % 16)
theorem intsF_len (n : Nat) (f : Nat → Int) : (intsF n f).length = n := by simp [intsF]
theorem netL_len (M : Nat → Nat → Int) : (netL M).length = 256 := intsF_len _ _
theorem intsF_at {n : Nat} {f : Nat → Int} {i : Nat} (hi : i < n) : (intsF n f)[i]? = some (.int .i64 (f i)) := by
  simp [intsF, List.getElem?_map, List.getElem?_range hi]
theorem intsF_one (n : Nat) (f : Nat → Int) : ∀ v ∈ intsF n f, v.oneCell' = true := by
  intro v hv
  obtain ⟨i, _, rfl⟩ := List.mem_map.1 hv
  rfl
theorem intsF_congr {n : Nat} {f g : Nat → Int} (h : ∀ i, i < n → f i = g i) : intsF n f = intsF n g := by
  unfold intsF
  exact List.map_congr_left fun i hi => by rw [h i (List.mem_range.1 hi)]
theorem intsF_set {n : Nat} {f : Nat → Int} {i : Nat} (x : Int) : (intsF n f).set i (.int .i64 x) = intsF n (fun j => if j = i then x else f j) := by
  refine List.ext_getElem (by simp [intsF_len]) fun j h1 h2 => ?_
  rw [intsF_len] at h2
  rw [List.getElem_set]
  simp only [intsF, List.getElem_map, List.getElem_range]
  by_cases e : i = j
  · subst e; rw [if_pos rfl, if_pos rfl]
  · rw [if_neg e, if_neg (fun h => e h.symm)]
theorem netL_at {M : Nat → Nat → Int} {u v : Nat} (hu : u < 16) (hv : v < 16) : (netL M)[u * 16 + v]? = some (.int .i64 (M u v)) := by
  unfold netL
  rw [intsF_at (by omega), show (u * 16 + v) / 16 = u by omega, show (u * 16 + v) % 16 = v by omega]
theorem netL_set {M : Nat → Nat → Int} {u v : Nat} (hu : u < 16) (hv : v < 16) (x : Int) : (netL M).set (u * 16 + v) (.int .i64 x) = netL (fun a b => if a = u ∧ b = v then x else M a b) := by
  unfold netL
  rw [intsF_set]
  refine intsF_congr fun j hj => ?_
  dsimp only
  by_cases e : j = u * 16 + v
  · subst e; rw [if_pos rfl, if_pos (by omega)]
  · rw [if_neg e, if_neg (by omega)]
theorem netL_congr {M N : Nat → Nat → Int} (h : ∀ u v, u < 16 → v < 16 → M u v = N u v) : netL M = netL N := intsF_congr fun i hi => h _ _ (by omega) (by omega)
theorem rowZ : (Array.replicate 16 (.int .i64 0) : Array Value) = (intsF 16 fun _ => 0).toArray := by
  apply Array.ext (by simp [intsF_len])
  intro i h1 h2
  simp [intsF]
theorem netZ : (Array.replicate 256 (.int .i64 0) : Array Value) = (netL fun _ _ => 0).toArray := by
  apply Array.ext (by simp [netL_len])
  intro i h1 h2
  simp [netL, intsF]
theorem zNet : ∀ w, (zeroValue 141).run Tryd.prog w = .ok (.agg (netL fun _ _ => 0).toArray) w := by
  rw [← netZ]; exact (zero_of_info (n := 256) (by kernel_rfl)).1
theorem zRow : ∀ w, (zeroValue 139).run Tryd.prog w = .ok (.agg (intsF 16 fun _ => 0).toArray) w := by
  rw [← rowZ]; exact (zero_of_info (n := 16) (by kernel_rfl)).1
theorem iNet : (Tryd.prog.info? 141).map (·.size) = some 256 := by kernel_rfl
theorem iRow : (Tryd.prog.info? 139).map (·.size) = some 16 := by kernel_rfl
theorem BoxIs.there {w : World} {g : Nat} {vs : List Value} (h : BoxIs w g vs) : w.there g 0 vs.length := fun j hj => by
  rw [Nat.zero_add]
  exact ⟨by rw [h.c j _ (List.getElem?_eq_getElem hj)]; rfl, h.f j⟩
theorem BoxIs.stores {w : World} {g : Nat} {vs us : List Value} (h : BoxIs w g vs) (hl : vs.length = us.length) (h1 : ∀ v ∈ us, v.oneCell' = true) : (storeCells ⟨g, 0, none⟩ us).run Tryd.prog w = .ok () (w.setCells g 0 us) := by
  have := run_storeCells_cells (P := Tryd.prog) g 0 us 0 w (fun j hj => by have := (h.there j (by omega)).1; simpa using this) (fun j hj => by have := (h.there j (by omega)).2; simpa using this) h1
  simpa using this
theorem ldVarNet {w : World} {g : Nat} {M : Nat → Nat → Int} (h : BoxIs w g (netL M)) : (loadVar 141 ⟨g, 0, none⟩).run Tryd.prog w = .ok (.agg (netL M).toArray) w :=
  run_loadVar_mid w g 0 _ (netL M) _ (fun j v hv => by rw [Nat.zero_add]; exact h.c j v hv) Tryd.underlying141 rfl (by rw [netL_len]; exact iNet)
theorem ldVarRow {w : World} {g : Nat} {f : Nat → Int} (h : BoxIs w g (intsF 16 f)) : (loadVar 139 ⟨g, 0, none⟩).run Tryd.prog w = .ok (.agg (intsF 16 f).toArray) w :=
  run_loadVar_mid w g 0 _ (intsF 16 f) _ (fun j v hv => by rw [Nat.zero_add]; exact h.c j v hv) Tryd.underlying139 rfl (by rw [intsF_len]; exact iRow)
theorem results_cell1 {fn : Func} {p : Tmp} {ty : TypeId} (h : fn.results = #[.cell p ty]) (tmps : Array Value) (P : Program) (w : World) :
    (results fn tmps).run P w = ((asAddr (tmps.getD p undef)).run P w).andThen fun a w₁ => (loadVar ty a).run P w₁ := by
  simp only [results, h]
  simp [Sem.run_bind, Result.andThen]
theorem ldNet_exec {o : Oper} {a : Act} {x : Operand} {w : World} {g : Nat} {M : Nat → Nat → Int} (ho : o.op = .load 141 x) (hx : a.eval x = .pointer (some ⟨g, 0, none⟩)) (h : BoxIs w g (netL M)) : (execOp a.eval o).run Tryd.prog w = .ok (.value (.agg (netL M).toArray)) w := by
  unfold execOp
  simp only [ho, hx, Instr.loadAt, Instr.sureAddr, Sem.run_bind, Sem.run_pure, Result.andThen_ok, ldVarNet h]
theorem setsSize (g : Nat) : ∀ (vs : List Value) (o : Nat) (w : World), (w.setCells g o vs).heap.size = w.heap.size
  | [], _, _ => rfl
  | v :: vs, o, w => by rw [World.setCells, setsSize g vs]; simp [World.setCell]
/-- all of a box is written -/
theorem BoxIs.setAll {w : World} {g : Nat} {vs us : List Value} (h : BoxIs w g vs) (hl : vs.length = us.length) : BoxIs (w.setCells g 0 us) g us :=
  ⟨by rw [setsSize]; exact h.lt, fun j v hv => by
    have := World.rangeAt_setCells_same w g 0 us (by rw [← hl]; exact h.there) j v hv
    rwa [Nat.zero_add] at this, fun o => by rw [World.frozen?_setCells]; exact h.f o⟩
end Go.Proofs.YtdkcclngionihaaDoor
/- The reference's net, walked. -/
namespace Go.Proofs.YtdkcclngionihaaDoor
open Go.RowKit

/-- the net of the first k cells -/
def matP (R C : Nat) (l : List Int) (h : List Bool) (but k : Nat) (u v : Nat) : Int :=
  if u < 8 ∧ 8 ≤ v ∧ actM R C h but u (v - 8) = true ∧ u * C + (v - 8) < k then 131072
  else if 8 ≤ u ∧ v < 8 ∧ actM R C h but v (u - 8) = true ∧ v * C + (u - 8) < k then at0 l (v * C + (u - 8)) else 0
theorem matP_zero (R C : Nat) (l : List Int) (h : List Bool) (but : Nat) : matP R C l h but 0 = fun _ _ => 0 := by
  funext u v
  unfold matP
  rw [if_neg (by omega), if_neg (by omega)]
theorem matP_done {R C : Nat} {l : List Int} (hG : SG R C l) (h : List Bool) (but : Nat) : matP R C l h but l.length = matX R C l h but fun _ => 0 := by
  funext u v
  unfold matP matX
  by_cases h1 : u < 8 ∧ 8 ≤ v ∧ actM R C h but u (v - 8) = true
  · rw [if_pos h1, if_pos ⟨h1.1, h1.2.1, h1.2.2, by rw [hG.n]; exact cel_lt (actM_in h1.2.2).1 (actM_in h1.2.2).2.1⟩]; rfl
  · rw [if_neg h1, if_neg (fun hh => h1 ⟨hh.1, hh.2.1, hh.2.2.1⟩)]
    by_cases h2 : 8 ≤ u ∧ v < 8 ∧ actM R C h but v (u - 8) = true
    · rw [if_pos h2, if_pos ⟨h2.1, h2.2.1, h2.2.2, by rw [hG.n]; exact cel_lt (actM_in h2.2.2).1 (actM_in h2.2.2).2.1⟩]; exact (Int.add_zero _).symm
    · rw [if_neg h2, if_neg (fun hh => h2 ⟨hh.1, hh.2.1, hh.2.2.1⟩)]
theorem matP_no {R C : Nat} {l : List Int} {h : List Bool} {but k : Nat} (ha : actC h but k = false) : matP R C l h but (k + 1) = matP R C l h but k := by
  funext u v
  have key : ∀ q p, actM R C h but q p = true → (q * C + p < k + 1 ↔ q * C + p < k) := fun q p hp => by
    have := (actM_in hp).2.2
    refine ⟨fun hl => ?_, fun hl => by omega⟩
    by_cases e : q * C + p = k
    · rw [e, ha] at this; cases this
    · omega
  unfold matP
  by_cases h1 : u < 8 ∧ 8 ≤ v ∧ actM R C h but u (v - 8) = true ∧ u * C + (v - 8) < k
  · rw [if_pos h1, if_pos ⟨h1.1, h1.2.1, h1.2.2.1, by omega⟩]
  · rw [if_neg h1, if_neg (fun hh => h1 ⟨hh.1, hh.2.1, hh.2.2.1, (key _ _ hh.2.2.1).1 hh.2.2.2⟩)]
    by_cases h2 : 8 ≤ u ∧ v < 8 ∧ actM R C h but v (u - 8) = true ∧ v * C + (u - 8) < k
    · rw [if_pos h2, if_pos ⟨h2.1, h2.2.1, h2.2.2.1, by omega⟩]
    · rw [if_neg h2, if_neg (fun hh => h2 ⟨hh.1, hh.2.1, hh.2.2.1, (key _ _ hh.2.2.1).1 hh.2.2.2⟩)]
theorem matP_yes {R C : Nat} {l : List Int} {h : List Bool} {but q p : Nat} (hR : R ≤ 8) (hq : q < R) (hp : p < C) (ha : actC h but (q * C + p) = true) (u v : Nat) :
    matP R C l h but (q * C + p + 1) u v = if u = 8 + p ∧ v = q then at0 l (q * C + p) else if u = q ∧ v = 8 + p then 131072 else matP R C l h but (q * C + p) u v := by
  have hM : actM R C h but q p = true := by unfold actM; rw [ha]; simp [hq, hp]
  unfold matP
  by_cases e1 : u = 8 + p ∧ v = q
  · obtain ⟨rfl, rfl⟩ := e1
    rw [if_pos (⟨rfl, rfl⟩ : 8 + p = 8 + p ∧ v = v), if_neg (fun hh => by omega : ¬ (8 + p < 8 ∧ 8 ≤ v ∧ actM R C h but (8 + p) (v - 8) = true ∧ (8 + p) * C + (v - 8) < v * C + p + 1)), Nat.add_sub_cancel_left, if_pos (⟨by omega, by omega, hM, by omega⟩ : 8 ≤ 8 + p ∧ v < 8 ∧ actM R C h but v p = true ∧ v * C + p < v * C + p + 1)]
  · rw [if_neg e1]
    by_cases e2 : u = q ∧ v = 8 + p
    · obtain ⟨rfl, rfl⟩ := e2
      rw [if_pos (⟨rfl, rfl⟩ : u = u ∧ 8 + p = 8 + p), Nat.add_sub_cancel_left, if_pos (⟨by omega, by omega, hM, by omega⟩ : u < 8 ∧ 8 ≤ 8 + p ∧ actM R C h but u p = true ∧ u * C + p < u * C + p + 1)]
    · rw [if_neg e2]
      have k1 : ∀ q' p', actM R C h but q' p' = true → ¬ (q' = q ∧ p' = p) → (q' * C + p' < q * C + p + 1 ↔ q' * C + p' < q * C + p) := fun q' p' hm hn =>
        ⟨fun hl => by
          by_cases e : q' * C + p' = q * C + p
          · exact absurd (cel_inj (actM_in hm).2.1 hp e) hn
          · omega, fun hl => by omega⟩
      by_cases h1 : u < 8 ∧ 8 ≤ v ∧ actM R C h but u (v - 8) = true
      · have := k1 u (v - 8) h1.2.2 (by omega)
        by_cases h3 : u * C + (v - 8) < q * C + p
        · rw [if_pos ⟨h1.1, h1.2.1, h1.2.2, this.2 h3⟩, if_pos ⟨h1.1, h1.2.1, h1.2.2, h3⟩]
        · rw [if_neg (fun hh => h3 (this.1 hh.2.2.2)), if_neg (fun hh => by omega : ¬ (8 ≤ u ∧ v < 8 ∧ actM R C h but v (u - 8) = true ∧ v * C + (u - 8) < q * C + p + 1)), if_neg (fun hh => h3 hh.2.2.2), if_neg (fun hh => by omega : ¬ (8 ≤ u ∧ v < 8 ∧ actM R C h but v (u - 8) = true ∧ v * C + (u - 8) < q * C + p))]
      · rw [if_neg (fun hh => h1 ⟨hh.1, hh.2.1, hh.2.2.1⟩ : ¬ (u < 8 ∧ 8 ≤ v ∧ actM R C h but u (v - 8) = true ∧ u * C + (v - 8) < q * C + p + 1)), if_neg (fun hh => h1 ⟨hh.1, hh.2.1, hh.2.2.1⟩ : ¬ (u < 8 ∧ 8 ≤ v ∧ actM R C h but u (v - 8) = true ∧ u * C + (v - 8) < q * C + p))]
        by_cases h2 : 8 ≤ u ∧ v < 8 ∧ actM R C h but v (u - 8) = true
        · have := k1 v (u - 8) h2.2.2 (by omega)
          by_cases h3 : v * C + (u - 8) < q * C + p
          · rw [if_pos ⟨h2.1, h2.2.1, h2.2.2, this.2 h3⟩, if_pos ⟨h2.1, h2.2.1, h2.2.2, h3⟩]
          · rw [if_neg (fun hh => h3 (this.1 hh.2.2.2)), if_neg (fun hh => h3 hh.2.2.2)]
        · rw [if_neg (fun hh => h2 ⟨hh.1, hh.2.1, hh.2.2.1⟩ : ¬ (8 ≤ u ∧ v < 8 ∧ actM R C h but v (u - 8) = true ∧ v * C + (u - 8) < q * C + p + 1)), if_neg (fun hh => h2 ⟨hh.1, hh.2.1, hh.2.2.1⟩ : ¬ (8 ≤ u ∧ v < 8 ∧ actM R C h but v (u - 8) = true ∧ v * C + (u - 8) < q * C + p))]
set_option linter.unusedSimpArgs false in
set_option maxRecDepth 100000 in
set_option maxHeartbeats 8000000 in
theorem rnet_calls (w : World) (x : Since w) (R C : Nat) (l : List Int) (h : List Bool) (but : Nat) (a ah : Option Addr) (c ch : Nat) (hL : IntRow w a l) (hH : BlRow w ah h) (hG : SG R C l) (hh : h.length = l.length) :
    Calls Tryd.prog 95 #[.agg #[.int .i64 (R : Int), .int .i64 (C : Int), .slice a l.length c], .slice ah h.length ch, .int .i64 (but : Int)] x.w fun o w' => o = .returned (.agg (netL (matX R C l h but fun _ => 0)).toArray) ∧ ∃ y : Since w, w' = y.w := by
  have HL := Lib.hid hL
  have HH := Lib.hid hH
  have HG := Lib.hid hG
  obtain ⟨m, hm⟩ : ∃ m, m = l.length := ⟨_, rfl⟩
  have Hm := Lib.hid hm
  have HP := Lib.hid (show netL (matP R C l h but m) = netL (matX R C l h but fun _ => 0) from by rw [hm, matP_done hG])
  have zn := zNet
  have hm64 : m ≤ 64 := by have := hG.len; omega
  obtain ⟨hr0, hr1⟩ := hG.r
  obtain ⟨hc0, hc1⟩ := hG.c
  rw [hh, ← hm]
  have Hh := Lib.hid hh
  clear hL hH hG hh hm
  go_enter Tryd.func95, Tryd.ntmps95
  go_upto_region 2 with fail
  have hb0_0 : ∀ y : Since ((x.w.alloc (.cells #[.int .i64 (R : Int), .int .i64 (C : Int), .slice a m c] 31)).alloc (.cells (netL fun _ _ => 0).toArray 141)), y.w.cell? ⟨x.w.heap.size, 0, none⟩ = some (.int .i64 (R : Int)) := fun y => Since.cell (by simp [go_sem]) (by first | (simp; done) | (simp; omega)) y
  have hb0_1 : ∀ y : Since ((x.w.alloc (.cells #[.int .i64 (R : Int), .int .i64 (C : Int), .slice a m c] 31)).alloc (.cells (netL fun _ _ => 0).toArray 141)), y.w.cell? ⟨x.w.heap.size, 1, none⟩ = some (.int .i64 (C : Int)) := fun y => Since.cell (by simp [go_sem]) (by first | (simp; done) | (simp; omega)) y
  have hb0_2 : ∀ y : Since ((x.w.alloc (.cells #[.int .i64 (R : Int), .int .i64 (C : Int), .slice a m c] 31)).alloc (.cells (netL fun _ _ => 0).toArray 141)), y.w.cell? ⟨x.w.heap.size, 2, none⟩ = some (.slice a m c) := fun y => Since.cell (by simp [go_sem]) (by first | (simp; done) | (simp; omega)) y
  have hf0 : ∀ (y : Since ((x.w.alloc (.cells #[.int .i64 (R : Int), .int .i64 (C : Int), .slice a m c] 31)).alloc (.cells (netL fun _ _ => 0).toArray 141))) (o : Nat), y.w.frozen? ⟨x.w.heap.size, o, none⟩ = false := fun y o => Since.free (by simp [go_sem]) (by first | (simp; done) | (simp; omega)) y
  have hB1 : ∀ y : Since ((x.w.alloc (.cells #[.int .i64 (R : Int), .int .i64 (C : Int), .slice a m c] 31)).alloc (.cells (netL fun _ _ => 0).toArray 141)), BoxIs y.w (x.w.heap.size + 1) (netL fun _ _ => 0) := fun y => by have h := ((BoxIs.new (x.w.alloc (.cells #[.int .i64 (R : Int), .int .i64 (C : Int), .slice a m c] 31)) (netL fun _ _ => 0) 141)).since y; rwa [show (x.w.alloc (.cells #[.int .i64 (R : Int), .int .i64 (C : Int), .slice a m c] 31)).heap.size = x.w.heap.size + 1 from by simp] at h
  have hWup : ∃ z : Since w, ((x.w.alloc (.cells #[.int .i64 (R : Int), .int .i64 (C : Int), .slice a m c] 31)).alloc (.cells (netL fun _ _ => 0).toArray 141)) = z.w := Since.allocs x [.cells #[.int .i64 (R : Int), .int .i64 (C : Int), .slice a m c] 31, .cells (netL fun _ _ => 0).toArray 141]
  obtain ⟨y0, hy0⟩ := Since.refl ((x.w.alloc (.cells #[.int .i64 (R : Int), .int .i64 (C : Int), .slice a m c] 31)).alloc (.cells (netL fun _ _ => 0).toArray 141))
  have Hbx := Lib.hid (And.intro x.b.size (show x.w.heap.size + 2 = ((x.w.alloc (.cells #[.int .i64 (R : Int), .int .i64 (C : Int), .slice a m c] 31)).alloc (.cells (netL fun _ _ => 0).toArray 141)).heap.size from by simp))
  generalize hW : ((x.w.alloc (.cells #[.int .i64 (R : Int), .int .i64 (C : Int), .slice a m c] 31)).alloc (.cells (netL fun _ _ => 0).toArray 141)) = W at *
  clear hW
  generalize x.w.heap.size = bx at *
  have Hup := Lib.hid (Since.up hWup)
  rw [hy0]
  have Hy0 := Lib.hid hy0
  clear hy0
  clear zn
  replace HL := Lib.hid (HL.out.to hWup)
  replace HH := Lib.hid (HH.out.to hWup)
  clear hWup hf0
  have HB1 := Lib.hid hB1
  clear hB1
  have hgn : W.heap.size ≤ bx + 2 := by have := Hbx.out.2; omega
  obtain ⟨y1, e1⟩ : ∃ q : Since W, y0.w.alloc (.cells (netL fun _ _ => 0).toArray 141) = q.w := IsSince.alloc (IsSince.of y0) _
  have hN := BoxIs.new y0.w (netL fun _ _ => 0) 141
  rw [e1, show y0.w.heap.size = bx + 2 from by rw [← Hy0.out]; exact Hbx.out.2.symm, ← matP_zero R C l h but] at hN
  rw [e1]
  clear e1 Hy0 y0
  have HN0 := Lib.hid hN
  clear hN
  go_upto_region 3 with fail
  go_loopw [8] (fun si wr => ∃ (k : Nat) (y : Since W), k ≤ m ∧ si = .int .i64 (k : Int) ∧ wr = y.w ∧ BoxIs y.w (bx + 2) (netL (matP R C l h but k))) (fun si _ => m - (intOf si).toNat)
  case atStart => exact ⟨0, y1, by omega, rfl, rfl, HN0.out⟩
  case round =>
    obtain ⟨k, y, hk, rfl, rfl, hN⟩ := hrel
    have HN := Lib.hid hN
    clear hN HN0
    by_cases hlt : k < m
    · have hk0 : (0 : Int) ≤ (k : Int) := by omega
      have hkl : (k : Int) < (m : Int) := by omega
      obtain ⟨b1, o1, rfl, hb1, hc1'⟩ := HL.out k (by have := Hm.out; omega)
      have f0 : ∀ q : Since W, q.w.cell? ⟨b1, o1 + k, none⟩ = some (.int .i64 (at0 l k)) := fun q => Since.cell hc1' hb1 q
      obtain ⟨b2, o2, rfl, hb2, hc2'⟩ := HH.out k (by have := Hm.out; have := Hh.out; omega)
      have f1 : ∀ q : Since W, q.w.cell? ⟨b2, o2 + k, none⟩ = some (.bool (bo h k)) := fun q => Since.cell hc2' hb2 q
      have hb1n : b1 ≠ bx + 2 := by omega
      clear hc1' hb2 hc2'
      obtain ⟨z0, z1, z2, z3⟩ := HG.out.cell (i := k) (by have := Hm.out; omega)
      have hCp : (0 : Int) < (C : Int) := by omega
      obtain ⟨q, hq⟩ : ∃ q, q = k / C := ⟨_, rfl⟩
      obtain ⟨p, hp⟩ : ∃ p, p = k % C := ⟨_, rfl⟩
      obtain ⟨p8, hp8⟩ : ∃ p8, p8 = 8 + p := ⟨_, rfl⟩
      have hqp : q * C + p = k := by rw [hq, hp, Nat.mul_comm]; exact Nat.div_add_mod k C
      have wq := Lib.hid (show wrap64 ((k : Int) / (C : Int)) = (q : Int) from by rw [hq, Int.natCast_ediv]; exact wrap_quo z0 hr1)
      have wr := Lib.hid (show wrap64 (8 + (k : Int) % (C : Int)) = (p8 : Int) from by rw [hp8, hp, Int.natCast_add, Int.natCast_emod]; exact IntWalk.wrap64_in _ (by have := rem_in z1; exact ⟨by omega, by omega⟩))
      rw [← hq] at z0
      rw [← hp] at z1
      clear hq hp
      go_upto_region 5 with fail
      change Code.wp _ _ _ _ (Since.self y.w).w
      have k0 := Since.cellTo ⟨y, rfl⟩ hb0_1
      have HN1 := Lib.hid HN.out
      refine wp_region_since (by kernel_rfl) (by kernel_rfl) ?_
      repeat (go_big_quiet_step (fail))
      refine wpQuiet_nil ?_
      rintro _ ⟨z, rfl⟩
      obtain ⟨y2, h2⟩ := y.trans z
      have hN3 := HN.out.since z
      rw [h2] at hN3 ⊢
      have HN3 := Lib.hid hN3
      (try simp only [wq.out, wr.out])
      clear hN3 h2 k0 wq wr HN1 HN z
      cases hbk : actC h but k
      · have HE := Lib.hid (matP_no (R := R) (C := C) (l := l) hbk)
        have hdec : (bo h k = false) ∨ (bo h k = true ∧ ((k : Int) != (but : Int)) = false) := by
          unfold actC at hbk
          cases hb0 : bo h k
          · exact Or.inl rfl
          · rw [hb0] at hbk
            refine Or.inr ⟨rfl, ?_⟩
            simp at hbk; simp; omega
        clear hbk
        rcases hdec with hb0 | ⟨hb0, hb1⟩
        all_goals
          rw [hb0] at f1
          go_wp2_with fail
          go_roundw
          case rel => exact ⟨k + 1, y2, by omega, by go_num, rfl, by rw [HE.out]; exact HN3.out⟩
          case measure => simp [intOf] <;> omega
      · have hb0 : bo h k = true := (actC_iff.1 hbk).1
        have hne : ((k : Int) != (but : Int)) = true := by have := (actC_iff.1 hbk).2; simp; omega
        rw [← hqp] at hbk
        have HE := Lib.hid (netL_congr fun u v _ _ => matP_yes (l := l) hr1 z0 z1 hbk u v)
        rw [hqp, ← hp8] at HE
        have hp16 : p8 < 16 := by omega
        have hpq : ¬ p8 = q := by omega
        rw [hb0] at f1
        clear hbk
        go_upto_region 7 with fail
        obtain ⟨z4, hz4⟩ : ∃ q : Since W, y2.w.drew = q.w := IsSince.drew y2
        have hN4 := HN3.out.drew
        rw [hz4] at hN4
        obtain ⟨y3, h3⟩ := z4.set ⟨bx + 2, q * 16 + p8, none⟩ hgn (.int .i64 131072)
        have hN5 := hN4.setj (j := q * 16 + p8) (by rw [netL_len]; omega) (.int .i64 131072)
        rw [h3] at hN5
        obtain ⟨y4, h4⟩ := y3.set ⟨bx + 2, p8 * 16 + q, none⟩ hgn (.int .i64 (at0 l k))
        have hN6 := hN5.setj (j := p8 * 16 + q) (by rw [List.length_set, netL_len]; omega) (.int .i64 (at0 l k))
        rw [h4, netL_set (by omega) hp16, netL_set hp16 (by omega), ← HE.out] at hN6
        have HN6 := Lib.hid hN6
        have s1 := hN4.c _ _ (netL_at (M := matP R C l h but k) (u := q) (v := p8) (by omega) hp16)
        have s2 := hN4.f
        have s3 := hN5.c (p8 * 16 + q) _ (by rw [netL_set (by omega) hp16]; exact netL_at hp16 (by omega))
        have s4 := hN5.f
        have H3 := Lib.hid h3; have H4 := Lib.hid h4
        clear hN4 hN5 hN6 h3 h4
        have d1 : (q : Int) < 16 := by omega
        have d2 : (p8 : Int) < 16 := by omega
        clear hp8
        refine wp_region_M (fun w' => w'.cell? ⟨bx, 2, none⟩ = some (.slice (some ⟨b1, o1, none⟩) m c) ∧ w'.cell? ⟨b1, o1 + k, none⟩ = some (.int .i64 (at0 l k))) 14 (by kernel_rfl) (hz4 ▸ ⟨hb0_2 z4, f0 z4⟩) (fun hS => ?_)
        rw [hz4] at hS ⊢
        clear hz4
        refine wpAnyM_take (i := 0) (v := ?_) rfl (by kernel_rfl) (by kernel_rfl) (by kernel_rfl) (by kernel_rfl) (fun _ _ _ h => h) hS (Or.inl ⟨by rfl, ?_⟩) ?_
        rotate_left
        · (intro w hSw; (try dsimp only at hSw); go_split_ands; go_simp; try (with_reducible rfl))
        (try simp only [Act.put, List.setIfInBounds_toArray, List.set_cons_zero, List.set_cons_succ])
        refine wpAnyM_take (i := 1) (v := ?_) rfl (by kernel_rfl) (by kernel_rfl) (by kernel_rfl) (by kernel_rfl) (fun _ _ _ h => h) hS (Or.inl ⟨by rfl, ?_⟩) ?_
        rotate_left
        · (intro w hSw; (try dsimp only at hSw); go_split_ands; go_simp; try (with_reducible rfl))
        (try simp only [Act.put, List.setIfInBounds_toArray, List.set_cons_zero, List.set_cons_succ])
        refine wpAnyM_take (i := 2) (v := ?_) rfl (by kernel_rfl) (by kernel_rfl) (by kernel_rfl) (by kernel_rfl) (fun _ _ _ h => h) hS (Or.inl ⟨by rfl, ?_⟩) ?_
        rotate_left
        · (intro w hSw; (try dsimp only at hSw); go_split_ands; go_simp; try (with_reducible rfl))
        (try simp only [Act.put, List.setIfInBounds_toArray, List.set_cons_zero, List.set_cons_succ])
        refine wpAnyM_take (i := 3) (v := ?_) rfl (by kernel_rfl) (by kernel_rfl) (by kernel_rfl) (by kernel_rfl) (fun _ _ _ h => h) hS (Or.inl ⟨by rfl, ?_⟩) ?_
        rotate_left
        · (intro w hSw; (try dsimp only at hSw); go_split_ands; go_simp; try (with_reducible rfl))
        (try simp only [Act.put, List.setIfInBounds_toArray, List.set_cons_zero, List.set_cons_succ])
        refine wpAnyM_take (i := 4) (v := ?_) rfl (by kernel_rfl) (by kernel_rfl) (by kernel_rfl) (by kernel_rfl) (fun _ _ _ h => h) hS (Or.inl ⟨by rfl, ?_⟩) ?_
        rotate_left
        · (intro w hSw; (try dsimp only at hSw); go_split_ands; go_simp; try (with_reducible rfl))
        (try simp only [Act.put, List.setIfInBounds_toArray, List.set_cons_zero, List.set_cons_succ])
        refine wpAnyM_take (i := 5) (v := ?_) rfl (by kernel_rfl) (by kernel_rfl) (by kernel_rfl) (by kernel_rfl) (fun _ _ _ h => h) hS (Or.inl ⟨by rfl, ?_⟩) ?_
        rotate_left
        · (intro w hSw; (try dsimp only at hSw); go_split_ands; go_simp; try (with_reducible rfl))
        (try simp only [Act.put, List.setIfInBounds_toArray, List.set_cons_zero, List.set_cons_succ])
        refine wpAnyM_take (i := 6) (v := ?_) rfl (by kernel_rfl) (by kernel_rfl) (by kernel_rfl) (by kernel_rfl) (fun _ _ _ h => h) hS (Or.inl ⟨by rfl, ?_⟩) ?_
        rotate_left
        · (intro w hSw; (try dsimp only at hSw); go_split_ands; go_simp; try (with_reducible rfl))
        (try simp only [Act.put, List.setIfInBounds_toArray, List.set_cons_zero, List.set_cons_succ])
        refine wpAnyM_take (i := 7) (v := ?_) rfl (by kernel_rfl) (by kernel_rfl) (by kernel_rfl) (by kernel_rfl) (fun _ _ _ h => h) hS (Or.inl ⟨by rfl, ?_⟩) ?_
        rotate_left
        · (intro w hSw; (try dsimp only at hSw); go_split_ands; go_simp; try (with_reducible rfl))
        (try simp only [Act.put, List.setIfInBounds_toArray, List.set_cons_zero, List.set_cons_succ])
        refine wpAnyM_take (i := 8) (v := ?_) rfl (by kernel_rfl) (by kernel_rfl) (by kernel_rfl) (by kernel_rfl) (fun _ _ _ h => h) hS (Or.inl ⟨by rfl, ?_⟩) ?_
        rotate_left
        · (intro w hSw; (try dsimp only at hSw); go_split_ands; go_simp; try (with_reducible rfl))
        (try simp only [Act.put, List.setIfInBounds_toArray, List.set_cons_zero, List.set_cons_succ])
        refine wpAnyM_take (i := 9) (v := ?_) rfl (by kernel_rfl) (by kernel_rfl) (by kernel_rfl) (by kernel_rfl) (fun _ _ _ h => h) hS (Or.inl ⟨by rfl, ?_⟩) ?_
        rotate_left
        · (intro w hSw; (try dsimp only at hSw); go_split_ands; go_simp; try (with_reducible rfl))
        (try simp only [Act.put, List.setIfInBounds_toArray, List.set_cons_zero, List.set_cons_succ])
        refine wpAnyM_take (i := 10) (v := ?_) rfl (by kernel_rfl) (by kernel_rfl) (by kernel_rfl) (by kernel_rfl) (fun _ _ _ h => h) hS (Or.inl ⟨by rfl, ?_⟩) ?_
        rotate_left
        · (intro w hSw; (try dsimp only at hSw); go_split_ands; go_simp; try (with_reducible rfl))
        (try simp only [Act.put, List.setIfInBounds_toArray, List.set_cons_zero, List.set_cons_succ])
        refine wpAnyM_takeU (i := 12) (v := ?_) rfl (by kernel_rfl) (by kernel_rfl) (by kernel_rfl) (by kernel_rfl) (fun _ _ _ h => h) hS (Or.inl ⟨by rfl, ?_⟩) ?_
        rotate_left
        · (intro w hSw; (try dsimp only at hSw); go_split_ands; go_simp; try (with_reducible rfl))
        (try simp only [Act.put, List.setIfInBounds_toArray, List.set_cons_zero, List.set_cons_succ])
        refine wpAnyM_one (i := 11) (by kernel_rfl) rfl (fun K hK => ?_)
        (go_simp; rw [H3.out])
        refine hK.out _ _ (Or.inr (⟨hb0_2 y3, f0 y3⟩)) (fun hS' => ?_)
        replace hS := hS'.resolve_left (by decide)
        clear hK K hS'
        (try simp only [Act.put, List.setIfInBounds_toArray, List.set_cons_zero, List.set_cons_succ])
        refine wpAnyM_take (i := 13) (v := ?_) rfl (by kernel_rfl) (by kernel_rfl) (by kernel_rfl) (by kernel_rfl) (fun _ _ _ h => h) hS (Or.inl ⟨by rfl, ?_⟩) ?_
        rotate_left
        · (intro w hSw; (try dsimp only at hSw); go_split_ands; go_simp; try (with_reducible rfl))
        (try simp only [Act.put, List.setIfInBounds_toArray, List.set_cons_zero, List.set_cons_succ])
        refine wpAnyM_one (i := 14) (by kernel_rfl) rfl (fun K hK => ?_)
        (go_simp; rw [H4.out])
        refine hK.out _ _ (Or.inl rfl) (fun _ => ?_)
        clear hK K hS
        (try simp only [Act.put, List.setIfInBounds_toArray, List.set_cons_zero, List.set_cons_succ])
        refine wpAnyM_done (by kernel_rfl) ?_
        clear s1 s2 s3 s4 H3 H4 HE
        go_wp2_with fail
        go_roundw
        case rel => exact ⟨k + 1, y4, by omega, by go_num, rfl, HN6.out⟩
        case measure => simp [intOf] <;> omega
    · obtain rfl : k = m := by omega
      rw [HP.out] at HN
      obtain ⟨M, hM⟩ : ∃ M, M = matX R C l h but (fun _ => 0) := ⟨_, rfl⟩
      rw [← hM] at HN
      have HM := Lib.hid hM
      clear hM
      have hsc := (HB1.out y).stores (us := netL M) (by rw [netL_len, netL_len]) (intsF_one _ _)
      have hBA := (HB1.out y).setAll (us := netL M) (by rw [netL_len, netL_len])
      go_wp2_with fail
      refine wp_load_mid 141 _ rfl (bx + 1 + 1) 0 rfl (netL M) _ (fun j v hv => by rw [Nat.zero_add]; exact HN.out.c j v hv) Tryd.underlying141 rfl (by rw [netL_len]; exact iNet) ?_
      (try simp only [Act.put, List.setIfInBounds_toArray, List.set_cons_zero, List.set_cons_succ])
      go_wp2_with fail
      obtain ⟨Z, hz, _⟩ := set_many y (g := bx + 1) (netL M) (fun j hj => by rw [(HB1.out y).c j _ (List.getElem?_eq_getElem (by rw [netL_len] at hj ⊢; exact hj))]; rfl) (Hup.out y) (by have := Hbx.out.1; omega)
      have hld := ldVarNet hBA
      refine bodyPost_ret (v := .agg (netL M).toArray) ?_ rfl ⟨by rw [HM.out], Z, hz⟩
      rw [results_cell1 rfl]
      simp [asAddr, Result.andThen, hld]
end Go.Proofs.YtdkcclngionihaaDoor
/- The reference's search for a way, walked. -/
namespace Go.Proofs.YtdkcclngionihaaDoor
open Go.RowKit

/-- the search: Q was found so far, k of them are done, the next is done up to node i -/
structure Bfs (M : Nat → Nat → Int) (s : Nat) (Q : List Nat) (bef : Nat → Int) (r : Nat → Nat) (k i : Nat) : Prop where
  nd : Q.Nodup
  lt : ∀ z, z ∈ Q → z < 16
  hd : s ∈ Q
  bs : bef s = (s : Int)
  on : ∀ z, z < 16 → (z ∈ Q ↔ 0 ≤ bef z)
  rg : ∀ z, z < 16 → -1 ≤ bef z ∧ bef z < 16
  rl : ∀ z, z ∈ Q → r z < Q.length
  up : ∀ z, z ∈ Q → z ≠ s → (bef z).toNat ∈ Q ∧ r (bef z).toNat < r z ∧ 0 < M (bef z).toNat z
  cl : ∀ p u, Q[p]? = some u → ∀ v, v < 16 → (p < k ∨ (p = k ∧ v < i)) → 0 < M u v → 0 ≤ bef v
theorem bfs_start (M : Nat → Nat → Int) {s : Nat} (hs : s < 16) : Bfs M s [s] (fun z => if z = s then (s : Int) else -1) (fun _ => 0) 0 0 := by
  refine ⟨by simp, by simpa using hs, by simp, by simp, fun z hz => ?_, fun z hz => ?_, by simp, fun z hz hn => absurd (by simpa using hz) hn, fun p u _ v _ h => by omega⟩
  · by_cases e : z = s
    · simp [e]
    · simp [e]
  · (try dsimp only); split <;> omega
section
variable {M : Nat → Nat → Int} {s : Nat} {Q : List Nat} {bef : Nat → Int} {r : Nat → Nat} {k i : Nat} (B : Bfs M s Q bef r k i)
include B
theorem Bfs.skip {u : Nat} (hu : Q[k]? = some u) (_hi : i < 16) (h : 0 ≤ bef i ∨ ¬ 0 < M u i) : Bfs M s Q bef r k (i + 1) := by
  refine ⟨B.nd, B.lt, B.hd, B.bs, B.on, B.rg, B.rl, B.up, fun p u' hp v hv hc hm => ?_⟩
  by_cases e : p = k ∧ v = i
  · obtain ⟨rfl, rfl⟩ := e
    rw [hu] at hp
    obtain rfl := Option.some.inj hp
    rcases h with h | h
    · exact h
    · exact absurd hm h
  · exact B.cl p u' hp v hv (by omega) hm
theorem Bfs.add {u : Nat} (hu : Q[k]? = some u) (hi : i < 16) (hb : bef i < 0) (hm : 0 < M u i) : Bfs M s (Q ++ [i]) (fun z => if z = i then (u : Int) else bef z) (fun z => if z = i then Q.length else r z) k (i + 1) := by
  have huQ : u ∈ Q := List.mem_of_getElem? hu
  have hni : i ∉ Q := fun h => by have := (B.on i hi).1 h; omega
  have hui : u ≠ i := fun e => hni (e ▸ huQ)
  have hsi : s ≠ i := fun e => hni (e ▸ B.hd)
  have hk : k < Q.length := (List.getElem?_eq_some_iff.1 hu).1
  refine ⟨?_, fun z hz => ?_, by simp [B.hd], ?_, fun z hz => ?_, fun z hz => ?_, fun z hz => ?_, fun z hz hn => ?_, fun p u' hp v hv hc hm' => ?_⟩
  · rw [List.nodup_append]
    refine ⟨B.nd, by simp, fun a ha b hb' e => ?_⟩
    rw [List.mem_singleton] at hb'
    subst hb'; subst e
    exact hni ha
  · rcases List.mem_append.1 hz with h | h
    · exact B.lt z h
    · rw [List.mem_singleton] at h; omega
  · (try dsimp only); rw [if_neg hsi]; exact B.bs
  · (try dsimp only)
    by_cases e : z = i
    · subst e; rw [if_pos rfl]; exact ⟨fun _ => Int.natCast_nonneg _, fun _ => by simp⟩
    · rw [if_neg e, ← B.on z hz]; simp [e]
  · (try dsimp only)
    by_cases e : z = i
    · rw [if_pos e]; have := B.lt u huQ; omega
    · rw [if_neg e]; exact B.rg z hz
  · (try dsimp only)
    rw [List.length_append, List.length_singleton]
    by_cases e : z = i
    · rw [if_pos e]; omega
    · rw [if_neg e]
      have := B.rl z (by rcases List.mem_append.1 hz with h | h; exact h; exact absurd (by simpa using h) e)
      omega
  · (try dsimp only)
    by_cases e : z = i
    · subst e
      rw [if_pos rfl, if_pos rfl, Int.toNat_natCast, if_neg hui]
      exact ⟨List.mem_append_left _ huQ, B.rl u huQ, hm⟩
    · rw [if_neg e, if_neg e]
      have hz' : z ∈ Q := by rcases List.mem_append.1 hz with h | h; exact h; exact absurd (by simpa using h) e
      obtain ⟨a, b, c⟩ := B.up z hz' hn
      rw [if_neg (fun e2 : (bef z).toNat = i => hni (e2 ▸ a))]
      exact ⟨List.mem_append_left _ a, b, c⟩
  · (try dsimp only)
    by_cases e : v = i
    · rw [if_pos e]; exact Int.natCast_nonneg _
    · rw [if_neg e]
      have hpQ : p < Q.length := by omega
      rw [List.getElem?_append_left hpQ] at hp
      exact B.cl p u' hp v hv (by omega) hm'
theorem Bfs.row (hi : i = 16) : Bfs M s Q bef r (k + 1) 0 := by
  refine ⟨B.nd, B.lt, B.hd, B.bs, B.on, B.rg, B.rl, B.up, fun p u hp v hv hc hm => B.cl p u hp v hv (by omega) hm⟩
theorem Bfs.len : Q.length ≤ 16 := nodup_lt_len 16 Q B.nd B.lt
theorem Bfs.way (hk : Q.length ≤ k) : Way M s bef r := by
  refine ⟨B.bs, B.rg, fun z hz hn h0 => ?_, fun u v hu hv h0 hm => ?_⟩
  · obtain ⟨a, b, c⟩ := B.up z ((B.on z hz).2 h0) hn
    exact ⟨b, (B.on _ (B.lt _ a)).1 a, c⟩
  · obtain ⟨p, hp⟩ := List.getElem?_of_mem ((B.on u hu).2 h0)
    exact B.cl p u hp v hv (Or.inl (by have := (List.getElem?_eq_some_iff.1 hp).1; omega)) hm
end
/-- the queue as numbers -/
def qL (Q : List Nat) : List Int := Q.map fun z : Nat => (z : Int)
theorem qL_app (Q : List Nat) (z : Nat) : qL (Q ++ [z]) = qL Q ++ [(z : Int)] := by simp [qL]
theorem own_one {w : World} {g base : Nat} {e : TypeId} {v : Value} (h : w.heap[g]? = some (.cells #[v] e)) (hb : base ≤ g) : w.ownsRow base e 1 (.slice (some ⟨g, 0, none⟩) 1 1) 1 [v] :=
  ⟨rfl, .inr ⟨g, 1, #[v], rfl, hb, h, Nat.le_refl _, by decide, rfl, rfl⟩⟩
theorem own_snoc {w : World} {B : Nat} {v : Value} {Q : List Nat} {i : Nat} (h : w.ownsRow B 3 1 v (Q.length + 1) ((qL Q).map (.int .i64) ++ [.int .i64 (i : Int)])) : w.ownsRow B 3 1 v (Q ++ [i]).length ((qL (Q ++ [i])).map (.int .i64)) := by
  rw [qL_app, List.map_append, List.length_append]
  exact h
/-- the queue read -/
theorem own_q {w : World} {B : Nat} {v : Value} {Q : List Nat} (h : w.ownsRow B 3 1 v Q.length ((qL Q).map (.int .i64))) (hQ : 0 < Q.length) : ∃ g c, v = .slice (some ⟨g, 0, none⟩) Q.length c ∧ B ≤ g ∧ g < w.heap.size ∧ ∀ (k u : Nat), Q[k]? = some u → w.cell? ⟨g, k, none⟩ = some (.int .i64 (u : Int)) := by
  have hlt := own_ltB h
  obtain ⟨hl, h2⟩ := h
  rcases h2 with ⟨_, h0⟩ | ⟨g, cap, cur, rfl, hb, hh, hn, hm, hs, ht⟩
  · omega
  · refine ⟨g, cap, rfl, hb, hlt g rfl, fun k u hu => ?_⟩
    have hk : k < Q.length := (List.getElem?_eq_some_iff.1 hu).1
    have h3 : cur.toList[k]? = some (.int .i64 (u : Int)) := by
      have h4 : (cur.toList.take (Q.length * 1))[k]? = ((qL Q).map (Value.int .i64))[k]? := by rw [ht]
      rw [List.getElem?_take, if_pos (by omega)] at h4
      rw [h4]
      simp [qL, List.getElem?_map, hu]
    simp only [World.cell?, hh]
    simpa using h3
set_option linter.unusedSimpArgs false in
set_option maxRecDepth 100000 in
set_option maxHeartbeats 8000000 in
theorem rway_calls (w : World) (x : Since w) (M : Nat → Nat → Int) (s : Nat) (hs : s < 16) :
    Calls Tryd.prog 114 #[.agg (netL M).toArray, .int .i64 (s : Int)] x.w fun o w' => ∃ (bef : Nat → Int) (r : Nat → Nat) (y : Since w), o = .returned (.agg (intsF 16 bef).toArray) ∧ w' = y.w ∧ Way M s bef r := by
  have zn := zRow
  have hs16 : (s : Int) < 16 := by omega
  go_enter Tryd.func114, Tryd.ntmps114
  go_upto_region 2 with fail
  have hB0 : ∀ y : Since ((x.w.alloc (.cells (netL M).toArray 141)).alloc (.cells (intsF 16 fun _ => 0).toArray 139)), BoxIs y.w (x.w.heap.size) (netL M) := fun y => by have h := ((BoxIs.new x.w (netL M) 141).up _).since y; rwa [show x.w.heap.size = x.w.heap.size from by simp] at h
  have hB1 : ∀ y : Since ((x.w.alloc (.cells (netL M).toArray 141)).alloc (.cells (intsF 16 fun _ => 0).toArray 139)), BoxIs y.w (x.w.heap.size + 1) (intsF 16 fun _ => 0) := fun y => by have h := ((BoxIs.new (x.w.alloc (.cells (netL M).toArray 141)) (intsF 16 fun _ => 0) 139)).since y; rwa [show (x.w.alloc (.cells (netL M).toArray 141)).heap.size = x.w.heap.size + 1 from by simp] at h
  have hWup : ∃ z : Since w, ((x.w.alloc (.cells (netL M).toArray 141)).alloc (.cells (intsF 16 fun _ => 0).toArray 139)) = z.w := Since.allocs x [.cells (netL M).toArray 141, .cells (intsF 16 fun _ => 0).toArray 139]
  obtain ⟨y0, hy0⟩ := Since.refl ((x.w.alloc (.cells (netL M).toArray 141)).alloc (.cells (intsF 16 fun _ => 0).toArray 139))
  have Hbx := Lib.hid (And.intro x.b.size (show x.w.heap.size + 2 = ((x.w.alloc (.cells (netL M).toArray 141)).alloc (.cells (intsF 16 fun _ => 0).toArray 139)).heap.size from by simp))
  generalize hW : ((x.w.alloc (.cells (netL M).toArray 141)).alloc (.cells (intsF 16 fun _ => 0).toArray 139)) = W at *
  clear hW
  generalize x.w.heap.size = bx at *
  have Hup := Lib.hid (Since.up hWup)
  rw [hy0]
  have Hy0 := Lib.hid hy0
  clear hy0
  clear zn hWup
  have HB0 := Lib.hid hB0
  have HB1 := Lib.hid hB1
  clear hB0 hB1
  have hgn : W.heap.size ≤ bx + 2 := by have := Hbx.out.2; omega
  obtain ⟨y1, e1⟩ : ∃ q : Since W, y0.w.alloc (.cells (intsF 16 fun _ => 0).toArray 139) = q.w := IsSince.alloc (IsSince.of y0) _
  have hN := BoxIs.new y0.w (intsF 16 fun _ => 0) 139
  rw [e1, show y0.w.heap.size = bx + 2 from by rw [← Hy0.out]; exact Hbx.out.2.symm] at hN
  rw [e1]
  clear e1 Hy0 y0
  have HN0 := Lib.hid (show BoxIs y1.w (bx + 2) (intsF 16 fun j => if j < 0 then -1 else 0) from hN)
  clear hN
  go_upto_region 3 with fail
  go_loopw [6] (fun si wr => ∃ (k : Nat) (y : Since W), k ≤ 16 ∧ si = .int .i64 (k : Int) ∧ wr = y.w ∧ BoxIs y.w (bx + 2) (intsF 16 fun j => if j < k then -1 else 0)) (fun si _ => 16 - (intOf si).toNat)
  case atStart => exact ⟨0, y1, by omega, rfl, rfl, HN0.out⟩
  case round =>
    obtain ⟨k, y, hk, rfl, rfl, hN⟩ := hrel
    have HN := Lib.hid hN
    clear hN HN0
    by_cases hlt : k < 16
    · have hkl : (k : Int) < 16 := by omega
      obtain ⟨y3, h3⟩ := y.set ⟨bx + 2, k, none⟩ hgn (.int .i64 (-1))
      have hN5 := HN.out.setj (j := k) (by rw [intsF_len]; omega) (.int .i64 (-1))
      rw [h3, intsF_set, intsF_congr (g := fun j => if j < k + 1 then -1 else 0) (fun j hj => by
        by_cases e : j = k
        · rw [if_pos e, if_pos (by omega)]
        · rw [if_neg e]
          by_cases e2 : j < k
          · rw [if_pos e2, if_pos (by omega)]
          · rw [if_neg e2, if_neg (by omega)])] at hN5
      have s1 := HN.out.c k _ (intsF_at hlt)
      have s2 := HN.out.f
      have H3 := Lib.hid h3; have HN5 := Lib.hid hN5
      clear h3 hN5 HN
      go_wp2_with fail
      go_roundw
      case rel => exact ⟨k + 1, y3, by omega, by go_num, H3.out, HN5.out⟩
      case measure => simp [intOf] <;> omega
    · obtain rfl : k = 16 := by omega
      obtain ⟨y3, h3⟩ := y.set ⟨bx + 2, s, none⟩ hgn (.int .i64 (s : Int))
      have hN5 := HN.out.setj (j := s) (by rw [intsF_len]; omega) (.int .i64 (s : Int))
      rw [h3, intsF_set, intsF_congr (g := fun z => if z = s then (s : Int) else -1) (fun j hj => by
        by_cases e : j = s
        · rw [if_pos e, if_pos e]
        · rw [if_neg e, if_neg e, if_pos hj])] at hN5
      have s1 := HN.out.c s _ (intsF_at hs)
      have s2 := HN.out.f
      have H3 := Lib.hid h3; have HN5 := Lib.hid hN5
      clear h3 hN5 HN
      rw [show ((16 : Nat) : Int) = 16 from rfl]
      go_upto_region 7 with fail
      rw [show bx + 1 + 1 = bx + 2 from rfl, H3.out]
      clear s1 s2 H3
      obtain ⟨B2, hB2⟩ : ∃ B2, B2 = y3.w.heap.size := ⟨_, rfl⟩
      have hbB : bx + 2 < B2 := by rw [hB2]; exact HN5.out.lt
      go_upto_region 8 with fail
      rw [← hB2]
      obtain ⟨y4, e4⟩ : ∃ q : Since W, y3.w.alloc (.cells #[.int .i64 (s : Int)] 3) = q.w := IsSince.alloc (IsSince.of y3) _
      have hO := own_one (w := y3.w.alloc (.cells #[.int .i64 (s : Int)] 3)) (base := B2) (v := .int .i64 (s : Int)) (e := 3) (Blk.new y3.w _) (by omega)
      have hN6 := HN5.out.up (.cells #[.int .i64 (s : Int)] 3)
      rw [← hB2] at hO
      rw [e4] at hO hN6 ⊢
      have HO := Lib.hid (show y4.w.ownsRow B2 3 1 (.slice (some ⟨B2, 0, none⟩) 1 1) [s].length ((qL [s]).map (.int .i64)) from hO)
      have HN6 := Lib.hid hN6
      clear hO hN6 HN5 e4 hB2
      go_upto_region 9 with fail
      go_loopw [7, 8] (fun sq si wr => ∃ (k : Nat) (Q : List Nat) (bef : Nat → Int) (r : Nat → Nat) (y : Since W), k ≤ Q.length ∧ si = .int .i64 (k : Int) ∧ wr = y.w ∧ BoxIs y.w (bx + 2) (intsF 16 bef) ∧ y.w.ownsRow B2 3 1 sq Q.length ((qL Q).map (.int .i64)) ∧ Bfs M s Q bef r k 0) (fun _ si _ => 16 - (intOf si).toNat)
      case atStart => exact ⟨0, [s], _, _, y4, by simp, rfl, rfl, HN6.out, HO.out, bfs_start M hs⟩
      case round =>
        obtain ⟨k, Q, bef, r, y', hk, rfl, rfl, hN, hO, hI⟩ := hrel
        have hQ16 := hI.len
        have hQ0 : 0 < Q.length := List.length_pos_of_mem hI.hd
        have HI := Lib.hid hI
        have HN := Lib.hid hN
        clear hN hI HN6 HO
        by_cases hlt : k < Q.length
        · have hkl : (k : Int) < (Q.length : Int) := by omega
          obtain ⟨u, hu⟩ : ∃ u, Q[k]? = some u := ⟨_, List.getElem?_eq_getElem hlt⟩
          have hu16 : u < 16 := HI.out.lt u (List.mem_of_getElem? hu)
          have hui : (u : Int) < 16 := by omega
          obtain ⟨gq, cq, rfl, hgB, hgl, hq⟩ := own_q hO hQ0
          have HO := Lib.hid hO
          clear hq hO
          go_upto_region 12 with fail
          go_loopw [7, 9] (fun sq si wr => ∃ (i : Nat) (Q : List Nat) (bef : Nat → Int) (r : Nat → Nat) (y : Since W), i ≤ 16 ∧ si = .int .i64 (i : Int) ∧ wr = y.w ∧ BoxIs y.w (bx + 2) (intsF 16 bef) ∧ y.w.ownsRow B2 3 1 sq Q.length ((qL Q).map (.int .i64)) ∧ Q[k]? = some u ∧ Bfs M s Q bef r k i) (fun _ si _ => 16 - (intOf si).toNat)
          case atStart => exact ⟨0, Q, bef, r, y', by omega, rfl, rfl, HN.out, HO.out, hu, HI.out⟩
          case round =>
            clear hu hQ16 hQ0 hgB hgl hlt hkl HO HN HI hk
            obtain ⟨i, Q, bef, r, y2, hi, rfl, rfl, hN, hO, hu, hI⟩ := hrel
            have hQ16 := hI.len
            have hkl : k < Q.length := (List.getElem?_eq_some_iff.1 hu).1
            have hkl' : (k : Int) < (Q.length : Int) := by omega
            obtain ⟨gq, cq, rfl, hgB, hgl, hq⟩ := own_q hO (by omega)
            have HI := Lib.hid hI; have HN := Lib.hid hN; have HO := Lib.hid hO; have HU := Lib.hid hu
            have f0 := hq k u hu
            clear hN hI hO hu hq
            by_cases hlt : i < 16
            · have hil : (i : Int) < 16 := by omega
              have f1 := HN.out.c i _ (intsF_at hlt)
              have f2 := (HB0.out y2).c _ _ (netL_at (M := M) hu16 hlt)
              have Hrg := Lib.hid (HI.out.rg i hlt)
              by_cases hb : bef i < 0
              · by_cases hm : 0 < M u i
                · have HI2 := Lib.hid (HI.out.add HU.out hlt hb hm)
                  obtain ⟨y3, h3⟩ := y2.set ⟨bx + 2, i, none⟩ hgn (.int .i64 (u : Int))
                  have hN3 := HN.out.setj (j := i) (by rw [intsF_len]; omega) (.int .i64 (u : Int))
                  have hO3 := own_setB HO.out ⟨bx + 2, i, none⟩ (.int .i64 (u : Int)) (fun b hb => by have := own_block HO.out b hb; show b ≠ bx + 2; omega)
                  rw [h3, intsF_set] at hN3
                  rw [h3] at hO3
                  have s2 := HN.out.f
                  have H3 := Lib.hid h3; have HN3 := Lib.hid hN3; have HO3 := Lib.hid hO3
                  clear h3 hN3 hO3 HN HO HI
                  go_upto_region 16 with fail
                  rw [H3.out]
                  clear f0 f1 f2 s2 H3
                  go_wp2_with (at_builtin; (refine wpList_appendK (k := 1) (w0 := W) ?hw rfl _ _ 22 rfl B2 ?hb1 ?hb2 3 (.int .i64 0) 8 sIntF (.slice (some ⟨gq, 0, none⟩) Q.length cq) Q.length ((qL Q).map (.int .i64)) rfl ?hown ⟨y3.w.heap.size, 0, none⟩ 1 1 [.int .i64 (i : Int)] rfl rfl ?hc ?h1 ?h63 ?hbytes ?_; rotate_right 1; intro v2 q2 hown2 _ hg2; have hN4 := (HN3.out.up (.cells #[.int .i64 (i : Int)] 3)).grown hg2 (fun hb => by have h1 := own_block HO3.out (bx + 2) hb.symm; omega); obtain ⟨a3, n3, c3, rfl⟩ := own_slice hown2))
                  case hw => exact IsSince.alloc (IsSince.of y3) _
                  case hb1 => have := HN3.out.lt; omega
                  case hb2 => have := own_ltB HO3.out gq rfl; simp; omega
                  case hown => exact own_up HO3.out
                  case hc => exact blk_cells _ _ rfl
                  case h1 => intro u hu; simp at hu; subst hu; rfl
                  case h63 => unfold maxLen; omega
                  case hbytes => omega
                  have HO4 := Lib.hid (own_snoc hown2); have HN4 := Lib.hid hN4
                  clear hown2 hN4 hg2
                  go_wp2_with fail
                  go_roundw
                  case rel => exact ⟨i + 1, Q ++ [i], _, _, q2, by omega, by go_num, rfl, HN4.out, HO4.out, by rw [List.getElem?_append_left hkl]; exact HU.out, HI2.out⟩
                  case measure => simp [intOf] <;> omega
                · have hm' : decide (0 < M u i) = false := decide_eq_false hm
                  go_wp2_with fail
                  go_roundw
                  case rel => exact ⟨i + 1, Q, bef, r, y2, by omega, by go_num, rfl, HN.out, HO.out, HU.out, HI.out.skip HU.out hlt (Or.inr hm)⟩
                  case measure => simp [intOf] <;> omega
              · have hb' : decide (bef i < 0) = false := decide_eq_false hb
                go_wp2_with fail
                go_roundw
                case rel => exact ⟨i + 1, Q, bef, r, y2, by omega, by go_num, rfl, HN.out, HO.out, HU.out, HI.out.skip HU.out hlt (Or.inl (by omega))⟩
                case measure => simp [intOf] <;> omega
            · obtain rfl : i = 16 := by omega
              clear f0
              go_wp2_with fail
              go_roundw
              case rel => exact ⟨k + 1, Q, bef, r, y2, by omega, by go_num, rfl, HN.out, HO.out, HI.out.row rfl⟩
              case measure => simp [intOf] <;> omega
        · obtain rfl : k = Q.length := by omega
          obtain ⟨gq, cq, rfl, hgB, hgl, hq⟩ := own_q hO hQ0
          have hW := HI.out.way (Nat.le_refl _)
          have HWy := Lib.hid hW
          have hsc := (HB1.out y').stores (us := intsF 16 bef) (by rw [intsF_len, intsF_len]) (intsF_one _ _)
          have hBA := (HB1.out y').setAll (us := intsF 16 bef) (by rw [intsF_len, intsF_len])
          clear hW hq hO HI
          go_wp2_with (refine wpList_load_mid rfl 139 _ rfl (bx + 2) 0 rfl (intsF 16 bef) _ (fun j v hv => by rw [Nat.zero_add]; exact HN.out.c j v hv) Tryd.underlying139 rfl (by rw [intsF_len]; exact iRow) ?_)
          obtain ⟨Z, hz, _⟩ := set_many y' (g := bx + 1) (intsF 16 bef) (fun j hj => by rw [(HB1.out y').c j _ (List.getElem?_eq_getElem (by rw [intsF_len] at hj ⊢; exact hj))]; rfl) (Hup.out y') (by have := Hbx.out.1; omega)
          have hld := ldVarRow hBA
          refine bodyPost_ret (v := .agg (intsF 16 bef).toArray) ?_ rfl ⟨bef, r, Z, rfl, hz, HWy.out⟩
          rw [results_cell1 rfl]
          simp [asAddr, Result.andThen, hld]
end Go.Proofs.YtdkcclngionihaaDoor
/- The reference's flow is the greatest amount, or as much as asked: plain mathematics, no program in sight. -/
namespace Go.Proofs.YtdkcclngionihaaDoor

theorem bfs_row {M : Nat → Nat → Int} {s k : Nat} : ∀ (f i : Nat) (Q : List Nat) (bef : Nat → Int) (r : Nat → Nat), f + i = 16 → k < Q.length → Bfs M s Q bef r k i → ∃ Q' bef' r', Bfs M s Q' bef' r' (k + 1) 0
  | 0, i, Q, bef, r, hi, _, B => ⟨Q, bef, r, B.row (by omega)⟩
  | f + 1, i, Q, bef, r, hi, hk, B => by
    obtain ⟨u, hu⟩ : ∃ u, Q[k]? = some u := ⟨_, List.getElem?_eq_getElem hk⟩
    by_cases h : bef i < 0 ∧ 0 < M u i
    · exact bfs_row f (i + 1) _ _ _ (by omega) (by simp; omega) (B.add hu (by omega) h.1 h.2)
    · exact bfs_row f (i + 1) Q bef r (by omega) hk (B.skip hu (by omega) (by omega))
theorem bfs_end {M : Nat → Nat → Int} {s : Nat} : ∀ (f k : Nat) (Q : List Nat) (bef : Nat → Int) (r : Nat → Nat), 17 ≤ f + k → Bfs M s Q bef r k 0 → ∃ bef' r', Way M s bef' r'
  | 0, k, Q, bef, r, hk, B => ⟨bef, r, B.way (by have := B.len; omega)⟩
  | f + 1, k, Q, bef, r, hk, B => by
    by_cases h : k < Q.length
    · obtain ⟨Q', bef', r', B'⟩ := bfs_row 16 0 Q bef r rfl h B
      exact bfs_end f (k + 1) Q' bef' r' (by omega) B'
    · exact ⟨bef, r, B.way (by omega)⟩
theorem way_ex (M : Nat → Nat → Int) {s : Nat} (hs : s < 16) : ∃ bef r, Way M s bef r := bfs_end 17 0 _ _ _ (by omega) (bfs_start M hs)
section
variable {R C : Nat} {l : List Int} {h : List Bool} {but s t : Nat}
theorem psh_all (hG : SG R C l) {bef : Nat → Int} {r : Nat → Nat} {X0 : Nat → Int} {d : Nat} {k : Int} (W : Way (matX R C l h but X0) s bef r) (ht : t < 16) (h0 : 0 ≤ bef t) (hd : ∀ j, j < d → wayP bef t j ≠ s) (hk : 0 ≤ k) (hkM : ∀ j, j < d → k ≤ matX R C l h but X0 (wayP bef t (j + 1)) (wayP bef t j)) (hp : ∀ a b, 0 ≤ matX R C l h but X0 a b) :
    ∀ m, m ≤ d → ∃ X, Psh R C l h but s t bef X0 d k m X
  | 0, _ => ⟨X0, psh_start hp hk⟩
  | m + 1, hm => by
    obtain ⟨X, hX⟩ := psh_all hG W ht h0 hd hk hkM hp m (by omega)
    exact ⟨_, (psh_step hG W ht h0 hd hk hkM (by omega) hX).2⟩
theorem okN_lt (hG : SG R C l) {u : Nat} (hu : okN R C u) : u < 16 := by
  have := hG.r; have := hG.c
  rcases hu with h | h <;> omega
/-- there is a greatest amount -/
theorem most_ex (hG : SG R C l) (hs : okN R C s) (ht : okN R C t) (hst : s ≠ t) (hcut : ∃ S : Int → Bool, S (nodP R s) = true ∧ S (nodP R t) = false ∧ cutC (netN R C l h but l.length) S ≤ 65536) : ∃ v, v ≤ 65536 ∧ IsMost (R + C) (netN R C l h but l.length) (nodP R s) (nodP R t) v := by
  obtain ⟨S, s1, s2, s3⟩ := hcut
  have key : ∀ (f : Nat) (total : Int) (X : Nat → Int), 65536 - total ≤ (f : Int) → 0 ≤ total → total ≤ 65536 → Sent R C l h but s t X total → ∃ v, v ≤ 65536 ∧ IsMost (R + C) (netN R C l h but l.length) (nodP R s) (nodP R t) v := by
    intro f
    induction f with
    | zero =>
      intro total X hf h0 h1 hS
      obtain ⟨f, hF, _⟩ := sent_flow hG hS hs ht hst h0 h1
      have := hF.le_cut (hG.netOk h but) (ref_nod hG hs).2 s1 s2
      exact ⟨total, h1, ⟨⟨f, hF⟩, S, s1, s2, by omega⟩⟩
    | succ f ih =>
      intro total X hf h0 h1 hS
      obtain ⟨bef, r, W⟩ := way_ex (matX R C l h but X) (okN_lt hG hs)
      by_cases hb : 0 ≤ bef t
      · by_cases hmx : total = 65536
        · exact ih total X (by omega) h0 h1 hS
        · obtain ⟨d, hd, hd2⟩ := W.ends (okN_lt hG ht) hb
          obtain ⟨X', hX'⟩ := psh_all hG W (okN_lt hG ht) hb hd2 (k := 1) (by decide) (fun j hj => by have := (W.edge (okN_lt hG ht) hb hd2 hj).2.2.2; omega) (fun a b => (mat_nonneg hG hS h0 h1 a b).1) d (Nat.le_refl _)
          exact ih (total + 1) X' (by omega) (by omega) (by omega) (psh_done hS hG hd hX')
      · refine ⟨total, h1, sent_most hG hS hs ht hst h0 h1 (K := fun z => decide (0 ≤ bef z)) (by simp [W.z0]) (by simpa using hb) fun u v hu hv k0 hm => ?_⟩
        simp only [decide_eq_true_eq] at k0 ⊢
        exact W.cl u v hu hv k0 hm
  exact key 65536 0 _ (by omega) (by omega) (by omega) (sent_zero hG)
/-- what the reference's flow gives -/
def FlowR (R C : Nat) (l : List Int) (h : List Bool) (but s t : Nat) (most total : Int) : Prop :=
  0 ≤ total ∧ total ≤ most ∧ ∃ X, Sent R C l h but s t X total ∧ (total = most ∨ IsMost (R + C) (netN R C l h but l.length) (nodP R s) (nodP R t) total)
theorem FlowR.eq (hG : SG R C l) (hs : okN R C s) (ht : okN R C t) (hst : s ≠ t) (hcut : ∃ S : Int → Bool, S (nodP R s) = true ∧ S (nodP R t) = false ∧ cutC (netN R C l h but l.length) S ≤ 65536) {most total : Int} (hm : most ≤ 65536) (hF : FlowR R C l h but s t most total) : total = min most (mostV (R + C) (netN R C l h but l.length) (nodP R s) (nodP R t)) := by
  obtain ⟨v, _, hv⟩ := most_ex hG hs ht hst hcut
  obtain ⟨h0, h1, X, hS, hE⟩ := hF
  rw [mostV_eq (hG.netOk h but) (ref_nod hG hs).2 hv]
  have hle := sent_le hG hS hs ht hst h0 (by omega) hv
  rcases hE with e | e
  · omega
  · have := IsMost.unique (hG.netOk h but) (ref_nod hG hs).2 e hv
    omega
end
theorem cutC_app (a b : List Arc) (S : Int → Bool) : cutC (a ++ b) S = cutC a S + cutC b S := by
  unfold cutC
  rw [List.length_append, sumF_app]
  refine congr (congrArg _ (sumF_congr _ fun i hi => ?_)) (sumF_congr _ fun i hi => ?_)
  · rw [arcAt_app, if_pos hi]
  · rw [arcAt_app, if_neg (by omega : ¬ a.length + i < a.length), Nat.add_sub_cancel_left]
/-- a cut that no arc from a row to a column crosses -/
theorem cut_small {R C : Nat} {l : List Int} (hG : SG R C l) {h : List Bool} {but : Nat} {S : Int → Bool} (hS : ∀ i, i < l.length → i ≠ but → S ((i / C : Nat) : Int) = true → S ((R + i % C : Nat) : Int) = true) : ∀ k, k ≤ l.length → cutC (netN R C l h but k) S ≤ sumF (at0 l) k
  | 0, _ => by simp [netN, cutC, sumF]
  | k + 1, hk => by
    have ih := cut_small hG (h := h) (but := but) hS k (by omega)
    have hz := hG.z k (by omega)
    rw [netN, cutC_app]
    simp only [sumF]
    unfold netC
    by_cases ha : bo h k = true ∧ k ≠ but
    · rw [if_pos ha]
      have h1 := hS k (by omega) ha.2
      have : cutC [⟨((R + k % C : Nat) : Int), ((k / C : Nat) : Int), at0 l k, 0⟩, ⟨((k / C : Nat) : Int), ((R + k % C : Nat) : Int), 65536, 0⟩] S ≤ at0 l k := by
        simp only [cutC, List.length_cons, List.length_nil, Nat.zero_add, sumF]
        show 0 + (if S ((R + k % C : Nat) : Int) = true ∧ S ((k / C : Nat) : Int) = false then at0 l k else 0) + (if S ((k / C : Nat) : Int) = true ∧ S ((R + k % C : Nat) : Int) = false then (65536 : Int) else 0) ≤ at0 l k
        rw [if_neg (c := S ((k / C : Nat) : Int) = true ∧ S ((R + k % C : Nat) : Int) = false) (fun hh => by rw [h1 hh.1] at hh; cases hh.2)]
        split <;> omega
      omega
    · rw [if_neg ha, show cutC [] S = 0 from rfl]
      omega
section
variable {R C : Nat} {l : List Int} (hG : SG R C l) {i : Nat} (hi : i < l.length) (h : List Bool)
include hG hi
theorem ok_row : okN R C (i / C) := Or.inl (hG.cell hi).1
theorem ok_col : okN R C (8 + i % C) := Or.inr (by have := (hG.cell hi).2.1; omega)
theorem nod_row : nodP R (i / C) = ((i / C : Nat) : Int) := by
  have := (hG.cell hi).1; have := hG.r
  unfold nodP; rw [if_pos (by omega)]
omit hG hi in
theorem nod_col (R C i : Nat) : nodP R (8 + i % C) = ((R + i % C : Nat) : Int) := by
  unfold nodP; rw [if_neg (by omega)]; congr 2; omega
theorem cut_gain : ∃ S : Int → Bool, S (nodP R (8 + i % C)) = true ∧ S (nodP R (i / C)) = false ∧ cutC (netN R C l h i l.length) S ≤ 65536 := by
  have hc := hG.cell hi
  refine ⟨fun z => decide (z = ((R + i % C : Nat) : Int)), by rw [nod_col R C i]; simp, ?_, ?_⟩
  · rw [nod_row hG hi, decide_eq_false_iff_not]
    generalize i / C = q at *; generalize i % C = p at *; omega
  · refine Int.le_trans (cut_small hG (fun j hj hn hs => ?_) l.length (Nat.le_refl _)) hG.s
    have := (hG.cell hj).1
    simp only [decide_eq_true_eq] at hs
    generalize j / C = q at *; generalize i % C = p at *; omega
theorem cut_loss : ∃ S : Int → Bool, S (nodP R (i / C)) = true ∧ S (nodP R (8 + i % C)) = false ∧ cutC (netN R C l h i l.length) S ≤ 65536 := by
  have hc := hG.cell hi
  refine ⟨fun z => decide (z = ((i / C : Nat) : Int) ∨ ((R : Int) ≤ z ∧ z ≠ ((R + i % C : Nat) : Int))), by rw [nod_row hG hi]; simp, ?_, ?_⟩
  · rw [nod_col R C i, decide_eq_false_iff_not]
    generalize i / C = q at *; generalize i % C = p at *; omega
  · refine Int.le_trans (cut_small hG (fun j hj hn hs => ?_) l.length (Nat.le_refl _)) hG.s
    have hcj := hG.cell hj
    simp only [decide_eq_true_eq] at hs ⊢
    have e1 : i / C * C + i % C = i := by rw [Nat.mul_comm]; exact Nat.div_add_mod i C
    have e2 : j / C * C + j % C = j := by rw [Nat.mul_comm]; exact Nat.div_add_mod j C
    have : ¬ (j / C = i / C ∧ j % C = i % C) := fun hh => hn (by rw [← e1, ← e2, hh.1, hh.2])
    generalize i / C = q at *; generalize i % C = p at *; generalize j / C = q' at *; generalize j % C = p' at *
    omega
/-- the reference's interval of a hidden cell -/
theorem flow_loss {total : Int} (hF : FlowR R C l h i (i / C) (8 + i % C) (at0 l i) total) : total = min (at0 l i) (lossV R C l h i) := by
  have hc := hG.cell hi
  have hr := hG.r
  have := FlowR.eq hG (ok_row hG hi) (ok_col hG hi) (by omega) (cut_loss hG hi h) hc.2.2.2 hF
  rw [nod_row hG hi, nod_col R C i] at this
  exact this
theorem flow_gain {total : Int} (hF : FlowR R C l h i (8 + i % C) (i / C) 65536 total) : total = gainV R C l h i := by
  have hc := hG.cell hi
  have hr := hG.r
  have h1 := FlowR.eq hG (ok_col hG hi) (ok_row hG hi) (by omega) (cut_gain hG hi h) (Int.le_refl _) hF
  obtain ⟨v, hv1, hv⟩ := most_ex hG (ok_col hG hi) (ok_row hG hi) (by omega) (cut_gain hG hi h)
  have h2 := mostV_eq (hG.netOk h i) (ref_nod hG (ok_col hG hi)).2 hv
  rw [h2] at h1
  rw [nod_row hG hi, nod_col R C i] at h2
  unfold gainV
  rw [h2]; omega
end
end Go.Proofs.YtdkcclngionihaaDoor
/- The reference's flow, walked. -/
namespace Go.Proofs.YtdkcclngionihaaDoor
open Go.RowKit

set_option linter.unusedSimpArgs false in
set_option maxRecDepth 100000 in
set_option maxHeartbeats 16000000 in
theorem rflow_calls (w : World) (x : Since w) (R C : Nat) (l : List Int) (h : List Bool) (but s t : Nat) (most : Int) (hG : SG R C l) (hs : okN R C s) (ht : okN R C t) (hst : s ≠ t) (hm0 : 0 ≤ most) (hm1 : most ≤ 65536) :
    Calls Tryd.prog 96 #[.agg (netL (matX R C l h but fun _ => 0)).toArray, .int .i64 (s : Int), .int .i64 (t : Int), .int .i64 most] x.w fun o w' => ∃ (total : Int) (y : Since w), o = .returned (.int .i64 total) ∧ w' = y.w ∧ FlowR R C l h but s t most total := by
  have HG := Lib.hid hG
  have hs16 := okN_lt hG hs
  have ht16 := okN_lt hG ht
  have Hs := Lib.hid hs; have Ht := Lib.hid ht; have Hst := Lib.hid hst
  have zn := zRow
  have hst2 := fun (v : World) (f k : Nat → Int) => run_storeCells_new (P := Tryd.prog) v 139 (intsF 16 f).toArray (intsF 16 k).toArray (by rw [iRow, List.size_toArray, intsF_len]) (by simp [intsF_len]) (all_oneCell_toArray (intsF_one _ _))
  have HM0 := Lib.hid (show netL (matX R C l h but fun _ => 0) = netL (matX R C l h but fun _ => 0) from rfl)
  clear hG hs ht hst
  go_enter Tryd.func96, Tryd.ntmps96
  go_upto_region 1 with fail
  obtain ⟨y1, e1⟩ : ∃ q : Since w, x.w.alloc (.cells (netL (matX R C l h but fun _ => 0)).toArray 141) = q.w := IsSince.alloc (IsSince.of x) _
  have hN := BoxIs.new x.w (netL (matX R C l h but fun _ => 0)) 141
  have hbw : w.heap.size ≤ x.w.heap.size := x.b.size
  rw [e1] at hN ⊢
  generalize x.w.heap.size = bx at *
  have HN0 := Lib.hid hN
  clear e1 hN HM0
  go_upto_region 2 with fail
  go_loopw [9] (fun st wr => ∃ (total : Int) (X : Nat → Int) (y : Since w), st = .int .i64 total ∧ wr = y.w ∧ BoxIs y.w bx (netL (matX R C l h but X)) ∧ Sent R C l h but s t X total ∧ 0 ≤ total ∧ total ≤ most) (fun st _ => (most - intOf st).toNat)
  case atStart => exact ⟨0, _, y1, rfl, rfl, HN0.out, sent_zero HG.out, by omega, by omega⟩
  case round =>
    obtain ⟨total, X, y, rfl, rfl, hN, hS, h0, h1⟩ := hrel
    have HN := Lib.hid hN; have HS := Lib.hid hS
    clear hN hS HN0
    by_cases hlt : total < most
    · have HW := Lib.hid (show Calls Tryd.prog 114 #[.agg (netL (matX R C l h but X)).toArray, .int .i64 (s : Int)] y.w (fun o w' => ∃ (bef : Nat → Int) (r : Nat → Nat) (z : Since y.w), o = .returned (.agg (intsF 16 bef).toArray) ∧ w' = z.w ∧ Way (matX R C l h but X) s bef r) from rway_calls y.w (Since.self y.w) (matX R C l h but X) s hs16)
      go_upto_region 4 with (first | (refine wpList_load_mid rfl 141 _ rfl bx 0 rfl (netL (matX R C l h but X)) _ (fun j v hv => by rw [Nat.zero_add]; exact HN.out.c j v hv) Tryd.underlying141 rfl (by rw [netL_len]; exact iNet) ?_) | (go_at_call 114; ((with_reducible refine HW.out.mono ?_); rintro _ _ ⟨bef, r, z, rfl, rfl, hWy⟩)))
      have HWy := Lib.hid hWy
      have hNz := HN.out.since z
      have hgb1 : bx < z.w.heap.size := hNz.lt
      have hB := BoxIs.new z.w (intsF 16 bef) 139
      have hN3 := hNz.up (.cells (intsF 16 bef).toArray 139)
      obtain ⟨yz, hyz⟩ := y.trans z
      obtain ⟨y3, h3⟩ : ∃ q : Since w, z.w.alloc (.cells (intsF 16 bef).toArray 139) = q.w := by rw [hyz]; exact IsSince.alloc (IsSince.of yz) _
      rw [h3] at hB hN3 ⊢
      have hgw : w.heap.size ≤ z.w.heap.size := by have := yz.b.size; rw [← hyz] at this; exact this
      generalize z.w.heap.size = gb at *
      have hne : bx ≠ gb := by omega
      have HB := Lib.hid hB; have HN3 := Lib.hid hN3
      clear hB hN3 hNz hyz h3 hWy yz z HN HW hgb1
      have c0 := HB.out.c t _ (intsF_at ht16)
      have d1 : (t : Int) < 16 := by omega
      by_cases hbt : bef t < 0
      · have HFl := Lib.hid (show FlowR R C l h but s t most total from ⟨h0, h1, X, HS.out, Or.inr (sent_most HG.out HS.out Hs.out Ht.out Hst.out h0 (by omega) (K := fun z => decide (0 ≤ bef z)) (by simp [HWy.out.z0]) (by simpa using hbt) fun u v hu hv k0 hm => by
          simp only [decide_eq_true_eq] at k0 ⊢
          exact HWy.out.cl u v hu hv k0 hm)⟩)
        go_wp2_with fail
        go_ret
        exact ⟨total, y3, rfl, rfl, HFl.out⟩
      · obtain ⟨d, hd, hd2⟩ := HWy.out.ends ht16 (by omega)
        have HD := Lib.hid (And.intro hd hd2)
        have HE := Lib.hid (fun m (hm : m < d) => HWy.out.edge ht16 (by omega) hd2 hm)
        have HR := Lib.hid (fun m (hm : m < d) => HWy.out.rank ht16 (by omega) hd2 (Nat.lt_succ_self m) hm)
        have HP := Lib.hid (fun a b => mat_nonneg HG.out HS.out h0 (by omega) a b)
        have hbt' : decide (bef t < 0) = false := decide_eq_false hbt
        clear hd hd2
        have wr1 : IntKind.i64.wrap (most - total) = most - total := IntWalk.i64_in _ (by omega)
        go_upto_region 8 with fail
        clear c0
        go_loopw [11, 12] (fun sk si wr => ∃ (m : Nat) (kk : Int), m ≤ d ∧ sk = .int .i64 kk ∧ si = .int .i64 (wayP bef t m : Int) ∧ wr = y3.w ∧ 1 ≤ kk ∧ kk ≤ most - total ∧ ∀ j, j < m → kk ≤ matX R C l h but X (wayP bef t (j + 1)) (wayP bef t j)) (fun _ si _ => r (intOf si).toNat)
        case atStart => exact ⟨0, most - total, by omega, rfl, rfl, rfl, by omega, by omega, fun j hj => by omega⟩
        case round =>
          obtain ⟨m, kk, hm, rfl, rfl, rfl, hk1, hk2, hkM⟩ := hrel
          have HK := Lib.hid hkM
          clear hkM
          by_cases hms : wayP bef t m = s
          · obtain rfl : m = d := by
              rcases Nat.lt_or_eq_of_le hm with h | h
              · exact absurd hms (HD.out.2 m h)
              · exact h
            have hms' : ((wayP bef t m : Int) != (s : Int)) = false := by rw [hms]; simp
            clear hms
            have HP0 := Lib.hid (psh_start (R := R) (C := C) (l := l) (h := h) (but := but) (s := s) (t := t) (bef := bef) (X0 := X) (d := m) (fun a b => (HP.out a b).1) (show 0 ≤ kk by omega))
            have HPS := Lib.hid (fun (i : Nat) (hi : i < m) (X' : Nat → Int) hX => psh_step HG.out HWy.out ht16 hbt HD.out.2 (show 0 ≤ kk by omega) HK.out hi (X := X') hX)
            have hgx : w.heap.size ≤ bx := hbw
            go_upto_region 12 with fail
            go_loopw [13] (fun si wr => ∃ (i : Nat) (X' : Nat → Int) (y : Since w), i ≤ m ∧ si = .int .i64 (wayP bef t i : Int) ∧ wr = y.w ∧ BoxIs y.w bx (netL (matX R C l h but X')) ∧ BoxIs y.w gb (intsF 16 bef) ∧ Psh R C l h but s t bef X m kk i X') (fun si _ => r (intOf si).toNat)
            case atStart => exact ⟨0, X, y3, by omega, rfl, rfl, HN3.out, HB.out, HP0.out⟩
            case round =>
              clear hm hms'
              obtain ⟨i, X', y, hi, rfl, rfl, hN, hB, hPi⟩ := hrel
              have HN := Lib.hid hN; have HB2 := Lib.hid hB; have HPi := Lib.hid hPi
              clear hN hB hPi HN3 HB HP0
              by_cases his : wayP bef t i = s
              · obtain rfl : i = m := by
                  rcases Nat.lt_or_eq_of_le hi with h | h
                  · exact absurd his (HD.out.2 i h)
                  · exact h
                have hn' : ((wayP bef t i : Int) != (s : Int)) = false := by rw [his]; simp
                have HS2 := Lib.hid (psh_done HS.out HG.out HD.out.1 HPi.out)
                have wr2 : IntKind.i64.wrap (total + kk) = total + kk := IntWalk.i64_in _ (by omega)
                clear his HPS HS
                go_wp2_with fail
                go_roundw
                case rel => exact ⟨total + kk, X', y, rfl, rfl, HN.out, HS2.out, by omega, by omega⟩
                case measure => simp [intOf] <;> omega
              · have him : i < m := by
                  rcases Nat.lt_or_eq_of_le hi with h | h
                  · exact h
                  · exact absurd (by rw [h]; exact HD.out.1) his
                have hn' : ((wayP bef t i : Int) != (s : Int)) = true := by simp; omega
                obtain ⟨e1, e2, e3, e4⟩ := HE.out i him
                obtain ⟨hac, hPn⟩ := HPS.out i him X' HPi.out
                have HR1 := Lib.hid (HR.out i him)
                have b1 := psh_bd HPi.out (by omega) (wayP bef t (i + 1)) (wayP bef t i)
                have b2 := psh_bd HPi.out (by omega) (wayP bef t i) (wayP bef t (i + 1))
                have b3 := (HP.out (wayP bef t (i + 1)) (wayP bef t i)).2
                have b4 := (HP.out (wayP bef t i) (wayP bef t (i + 1))).2
                have b5 := HPi.out.p (wayP bef t (i + 1)) (wayP bef t i)
                have b6 := HPi.out.p (wayP bef t i) (wayP bef t (i + 1))
                have hneg : gb ≠ bx := Ne.symm hne
                have hne : wayP bef t (i + 1) ≠ wayP bef t i := fun e => by have := HR1.out; rw [Nat.succ_eq_add_one, e] at this; omega
                have HMat := Lib.hid (fun a b => mat_bump (l := l) (X := X') hac kk a b)
                have HPn := Lib.hid hPn
                generalize bump X' (celOf C (wayP bef t (i + 1)) (wayP bef t i)) (if wayP bef t (i + 1) < 8 then kk else -kk) = X2 at *
                have c1 := HB2.out.c _ _ (intsF_at e1)
                rw [e3] at c1
                have HN2 := Lib.hid HN.out
                generalize hu : wayP bef t (i + 1) = u at *
                generalize hv : wayP bef t i = v at *
                obtain ⟨A1, hA1⟩ : ∃ A1, A1 = matX R C l h but X' u v := ⟨_, rfl⟩
                obtain ⟨A2, hA2⟩ : ∃ A2, A2 = matX R C l h but X' v u := ⟨_, rfl⟩
                rw [← hA1] at b1 b5 HMat
                rw [← hA2] at b2 b6 HMat
                -- the first store
                obtain ⟨z4, hz4⟩ : ∃ q : Since w, y.w.drew = q.w := IsSince.drew y
                have hN4 := HN2.out.drew
                have hB4 := HB2.out.drew
                rw [hz4] at hN4 hB4
                obtain ⟨y5, h5⟩ := z4.set ⟨bx, u * 16 + v, none⟩ hgx (.int .i64 (A1 - kk))
                have hN5 := hN4.setj (j := u * 16 + v) (by rw [netL_len]; omega) (.int .i64 (A1 - kk))
                have hB5 := hB4.far ⟨bx, u * 16 + v, none⟩ (.int .i64 (A1 - kk)) hneg
                rw [h5] at hN5 hB5
                obtain ⟨z6, hz6⟩ : ∃ q : Since w, y5.w.drew = q.w := IsSince.drew y5
                have hN6 := hN5.drew
                have hB6 := hB5.drew
                rw [hz6] at hN6 hB6
                obtain ⟨y7, h7⟩ := z6.set ⟨bx, v * 16 + u, none⟩ hgx (.int .i64 (A2 + kk))
                have hN7 := hN6.setj (j := v * 16 + u) (by rw [List.length_set, netL_len]; omega) (.int .i64 (A2 + kk))
                have hB7 := hB6.far ⟨bx, v * 16 + u, none⟩ (.int .i64 (A2 + kk)) hneg
                rw [h7] at hN7 hB7
                have s1 := hN4.c _ _ (netL_at (M := matX R C l h but X') e2 e1)
                rw [← hA1] at s1
                have s2 := hN4.f
                have s3 := hN6.c (v * 16 + u) _ (by rw [netL_set e2 e1]; exact netL_at e1 e2)
                rw [if_neg (fun hh => hne hh.2), ← hA2] at s3
                have s4 := hN6.f
                have s5 := hB4.c _ _ (intsF_at e1)
                rw [e3] at s5
                have s6 := hB6.c _ _ (intsF_at e1)
                rw [e3] at s6
                rw [netL_set e2 e1, netL_set e1 e2, netL_congr (N := matX R C l h but X2) (fun a b ha hb => by 
                  rw [HMat.out a b]
                  by_cases c1 : a = v ∧ b = u
                  · rw [if_pos c1, if_neg (fun hh => hne (by omega) : ¬ (a = u ∧ b = v)), if_pos c1]
                  · rw [if_neg c1, if_neg c1])] at hN7
                have HN7 := Lib.hid hN7; have HB7 := Lib.hid hB7; have H5 := Lib.hid h5; have H7 := Lib.hid h7
                have du : (u : Int) < 16 := by omega
                have dv : (v : Int) < 16 := by omega
                have w1 : IntKind.i64.wrap (A1 - kk) = A1 - kk := IntWalk.i64_in _ (by omega)
                have w2 : IntKind.i64.wrap (A2 + kk) = A2 + kk := IntWalk.i64_in _ (by omega)
                have Hz4 := Lib.hid hz4; have Hz6 := Lib.hid hz6
                have Hu2 := Lib.hid hu; have E3 := Lib.hid e3
                clear hN4 hN5 hN6 hN7 hB4 hB5 hB6 hB7 h5 h7 hz4 hz6 HPS HE HR HPi HN HN2 HB2 hPn hA1 hA2 hu hv his HMat HD hac e3
                go_upto_region 14 with fail
                refine wp_region_M (fun w' => w'.cell? ⟨gb, v, none⟩ = some (.int .i64 (u : Int)) ∧ w'.cell? ⟨bx, u * 16 + v, none⟩ = some (.int .i64 A1)) 15 (by kernel_rfl) (Hz4.out ▸ ⟨s5, s1⟩) (fun hS => ?_)
                rw [Hz4.out] at hS ⊢
                refine wpAnyM_takeU (i := 0) (v := ?_) rfl (by kernel_rfl) (by kernel_rfl) (by kernel_rfl) (by kernel_rfl) (fun _ _ _ h => h) hS (Or.inl ⟨by rfl, ?_⟩) ?_
                rotate_left
                · (intro w hSw; (try dsimp only at hSw); go_split_ands; go_simp; try (with_reducible rfl))
                (try simp only [Act.put, List.setIfInBounds_toArray, List.set_cons_zero, List.set_cons_succ])
                refine wpAnyM_takeU (i := 1) (v := ?_) rfl (by kernel_rfl) (by kernel_rfl) (by kernel_rfl) (by kernel_rfl) (fun _ _ _ h => h) hS (Or.inl ⟨by rfl, ?_⟩) ?_
                rotate_left
                · (intro w hSw; (try dsimp only at hSw); go_split_ands; go_simp; try (with_reducible rfl))
                (try simp only [Act.put, List.setIfInBounds_toArray, List.set_cons_zero, List.set_cons_succ])
                refine wpAnyM_takeU (i := 2) (v := ?_) rfl (by kernel_rfl) (by kernel_rfl) (by kernel_rfl) (by kernel_rfl) (fun _ _ _ h => h) hS (Or.inl ⟨by rfl, ?_⟩) ?_
                rotate_left
                · (intro w hSw; (try dsimp only at hSw); go_split_ands; go_simp; try (with_reducible rfl))
                (try simp only [Act.put, List.setIfInBounds_toArray, List.set_cons_zero, List.set_cons_succ])
                refine wpAnyM_takeU (i := 3) (v := ?_) rfl (by kernel_rfl) (by kernel_rfl) (by kernel_rfl) (by kernel_rfl) (fun _ _ _ h => h) hS (Or.inl ⟨by rfl, ?_⟩) ?_
                rotate_left
                · (intro w hSw; (try dsimp only at hSw); go_split_ands; go_simp; try (with_reducible rfl))
                (try simp only [Act.put, List.setIfInBounds_toArray, List.set_cons_zero, List.set_cons_succ])
                refine wpAnyM_takeU (i := 4) (v := ?_) rfl (by kernel_rfl) (by kernel_rfl) (by kernel_rfl) (by kernel_rfl) (fun _ _ _ h => h) hS (Or.inl ⟨by rfl, ?_⟩) ?_
                rotate_left
                · (intro w hSw; (try dsimp only at hSw); go_split_ands; go_simp; try (with_reducible rfl))
                (try simp only [Act.put, List.setIfInBounds_toArray, List.set_cons_zero, List.set_cons_succ])
                refine wpAnyM_takeU (i := 5) (v := ?_) rfl (by kernel_rfl) (by kernel_rfl) (by kernel_rfl) (by kernel_rfl) (fun _ _ _ h => h) hS (Or.inl ⟨by rfl, ?_⟩) ?_
                rotate_left
                · (intro w hSw; (try dsimp only at hSw); go_split_ands; go_simp; try (with_reducible rfl))
                (try simp only [Act.put, List.setIfInBounds_toArray, List.set_cons_zero, List.set_cons_succ])
                refine wpAnyM_takeU (i := 6) (v := ?_) rfl (by kernel_rfl) (by kernel_rfl) (by kernel_rfl) (by kernel_rfl) (fun _ _ _ h => h) hS (Or.inl ⟨by rfl, ?_⟩) ?_
                rotate_left
                · (intro w hSw; (try dsimp only at hSw); go_split_ands; go_simp; try (with_reducible rfl))
                (try simp only [Act.put, List.setIfInBounds_toArray, List.set_cons_zero, List.set_cons_succ])
                refine wpAnyM_takeU (i := 7) (v := ?_) rfl (by kernel_rfl) (by kernel_rfl) (by kernel_rfl) (by kernel_rfl) (fun _ _ _ h => h) hS (Or.inl ⟨by rfl, ?_⟩) ?_
                rotate_left
                · (intro w hSw; (try dsimp only at hSw); go_split_ands; go_simp; try (with_reducible rfl))
                (try simp only [Act.put, List.setIfInBounds_toArray, List.set_cons_zero, List.set_cons_succ])
                refine wpAnyM_takeU (i := 8) (v := ?_) rfl (by kernel_rfl) (by kernel_rfl) (by kernel_rfl) (by kernel_rfl) (fun _ _ _ h => h) hS (Or.inl ⟨by rfl, ?_⟩) ?_
                rotate_left
                · (intro w hSw; (try dsimp only at hSw); go_split_ands; go_simp; try (with_reducible rfl))
                (try simp only [Act.put, List.setIfInBounds_toArray, List.set_cons_zero, List.set_cons_succ])
                refine wpAnyM_takeU (i := 9) (v := ?_) rfl (by kernel_rfl) (by kernel_rfl) (by kernel_rfl) (by kernel_rfl) (fun _ _ _ h => h) hS (Or.inl ⟨by rfl, ?_⟩) ?_
                rotate_left
                · (intro w hSw; (try dsimp only at hSw); go_split_ands; go_simp; try (with_reducible rfl))
                (try simp only [Act.put, List.setIfInBounds_toArray, List.set_cons_zero, List.set_cons_succ])
                refine wpAnyM_takeU (i := 10) (v := ?_) rfl (by kernel_rfl) (by kernel_rfl) (by kernel_rfl) (by kernel_rfl) (fun _ _ _ h => h) hS (Or.inl ⟨by rfl, ?_⟩) ?_
                rotate_left
                · (intro w hSw; (try dsimp only at hSw); go_split_ands; go_simp; try (with_reducible rfl))
                (try simp only [Act.put, List.setIfInBounds_toArray, List.set_cons_zero, List.set_cons_succ])
                refine wpAnyM_takeU (i := 11) (v := ?_) rfl (by kernel_rfl) (by kernel_rfl) (by kernel_rfl) (by kernel_rfl) (fun _ _ _ h => h) hS (Or.inl ⟨by rfl, ?_⟩) ?_
                rotate_left
                · (intro w hSw; (try dsimp only at hSw); go_split_ands; go_simp; try (with_reducible rfl))
                (try simp only [Act.put, List.setIfInBounds_toArray, List.set_cons_zero, List.set_cons_succ])
                refine wpAnyM_takeU (i := 12) (v := ?_) rfl (by kernel_rfl) (by kernel_rfl) (by kernel_rfl) (by kernel_rfl) (fun _ _ _ h => h) hS (Or.inl ⟨by rfl, ?_⟩) ?_
                rotate_left
                · (intro w hSw; (try dsimp only at hSw); go_split_ands; go_simp; try (with_reducible rfl))
                (try simp only [Act.put, List.setIfInBounds_toArray, List.set_cons_zero, List.set_cons_succ])
                refine wpAnyM_takeU (i := 13) (v := ?_) rfl (by kernel_rfl) (by kernel_rfl) (by kernel_rfl) (by kernel_rfl) (fun _ _ _ h => h) hS (Or.inl ⟨by rfl, ?_⟩) ?_
                rotate_left
                · (intro w hSw; (try dsimp only at hSw); go_split_ands; go_simp; try (with_reducible rfl))
                (try simp only [Act.put, List.setIfInBounds_toArray, List.set_cons_zero, List.set_cons_succ])
                refine wpAnyM_takeU (i := 14) (v := ?_) rfl (by kernel_rfl) (by kernel_rfl) (by kernel_rfl) (by kernel_rfl) (fun _ _ _ h => h) hS (Or.inl ⟨by rfl, ?_⟩) ?_
                rotate_left
                · (intro w hSw; (try dsimp only at hSw); go_split_ands; go_simp; try (with_reducible rfl))
                (try simp only [Act.put, List.setIfInBounds_toArray, List.set_cons_zero, List.set_cons_succ])
                refine wpAnyM_one (i := 15) (by kernel_rfl) rfl (fun K hK => ?_)
                (go_simp; rw [H5.out])
                refine hK.out _ _ (Or.inl rfl) (fun _ => ?_)
                clear hK K hS
                (try simp only [Act.put, List.setIfInBounds_toArray, List.set_cons_zero, List.set_cons_succ])
                refine wpAnyM_done (by kernel_rfl) ?_
                clear s1 s2 s5 H5 Hz4
                go_upto_region 15 with fail
                refine wp_region_M (fun w' => w'.cell? ⟨gb, v, none⟩ = some (.int .i64 (u : Int)) ∧ w'.cell? ⟨bx, v * 16 + u, none⟩ = some (.int .i64 A2)) 15 (by kernel_rfl) (Hz6.out ▸ ⟨s6, s3⟩) (fun hS => ?_)
                rw [Hz6.out] at hS ⊢
                refine wpAnyM_takeU (i := 0) (v := ?_) rfl (by kernel_rfl) (by kernel_rfl) (by kernel_rfl) (by kernel_rfl) (fun _ _ _ h => h) hS (Or.inl ⟨by rfl, ?_⟩) ?_
                rotate_left
                · (intro w hSw; (try dsimp only at hSw); go_split_ands; go_simp; try (with_reducible rfl))
                (try simp only [Act.put, List.setIfInBounds_toArray, List.set_cons_zero, List.set_cons_succ])
                refine wpAnyM_takeU (i := 1) (v := ?_) rfl (by kernel_rfl) (by kernel_rfl) (by kernel_rfl) (by kernel_rfl) (fun _ _ _ h => h) hS (Or.inl ⟨by rfl, ?_⟩) ?_
                rotate_left
                · (intro w hSw; (try dsimp only at hSw); go_split_ands; go_simp; try (with_reducible rfl))
                (try simp only [Act.put, List.setIfInBounds_toArray, List.set_cons_zero, List.set_cons_succ])
                refine wpAnyM_takeU (i := 2) (v := ?_) rfl (by kernel_rfl) (by kernel_rfl) (by kernel_rfl) (by kernel_rfl) (fun _ _ _ h => h) hS (Or.inl ⟨by rfl, ?_⟩) ?_
                rotate_left
                · (intro w hSw; (try dsimp only at hSw); go_split_ands; go_simp; try (with_reducible rfl))
                (try simp only [Act.put, List.setIfInBounds_toArray, List.set_cons_zero, List.set_cons_succ])
                refine wpAnyM_takeU (i := 3) (v := ?_) rfl (by kernel_rfl) (by kernel_rfl) (by kernel_rfl) (by kernel_rfl) (fun _ _ _ h => h) hS (Or.inl ⟨by rfl, ?_⟩) ?_
                rotate_left
                · (intro w hSw; (try dsimp only at hSw); go_split_ands; go_simp; try (with_reducible rfl))
                (try simp only [Act.put, List.setIfInBounds_toArray, List.set_cons_zero, List.set_cons_succ])
                refine wpAnyM_takeU (i := 4) (v := ?_) rfl (by kernel_rfl) (by kernel_rfl) (by kernel_rfl) (by kernel_rfl) (fun _ _ _ h => h) hS (Or.inl ⟨by rfl, ?_⟩) ?_
                rotate_left
                · (intro w hSw; (try dsimp only at hSw); go_split_ands; go_simp; try (with_reducible rfl))
                (try simp only [Act.put, List.setIfInBounds_toArray, List.set_cons_zero, List.set_cons_succ])
                refine wpAnyM_takeU (i := 5) (v := ?_) rfl (by kernel_rfl) (by kernel_rfl) (by kernel_rfl) (by kernel_rfl) (fun _ _ _ h => h) hS (Or.inl ⟨by rfl, ?_⟩) ?_
                rotate_left
                · (intro w hSw; (try dsimp only at hSw); go_split_ands; go_simp; try (with_reducible rfl))
                (try simp only [Act.put, List.setIfInBounds_toArray, List.set_cons_zero, List.set_cons_succ])
                refine wpAnyM_takeU (i := 6) (v := ?_) rfl (by kernel_rfl) (by kernel_rfl) (by kernel_rfl) (by kernel_rfl) (fun _ _ _ h => h) hS (Or.inl ⟨by rfl, ?_⟩) ?_
                rotate_left
                · (intro w hSw; (try dsimp only at hSw); go_split_ands; go_simp; try (with_reducible rfl))
                (try simp only [Act.put, List.setIfInBounds_toArray, List.set_cons_zero, List.set_cons_succ])
                refine wpAnyM_takeU (i := 7) (v := ?_) rfl (by kernel_rfl) (by kernel_rfl) (by kernel_rfl) (by kernel_rfl) (fun _ _ _ h => h) hS (Or.inl ⟨by rfl, ?_⟩) ?_
                rotate_left
                · (intro w hSw; (try dsimp only at hSw); go_split_ands; go_simp; try (with_reducible rfl))
                (try simp only [Act.put, List.setIfInBounds_toArray, List.set_cons_zero, List.set_cons_succ])
                refine wpAnyM_takeU (i := 8) (v := ?_) rfl (by kernel_rfl) (by kernel_rfl) (by kernel_rfl) (by kernel_rfl) (fun _ _ _ h => h) hS (Or.inl ⟨by rfl, ?_⟩) ?_
                rotate_left
                · (intro w hSw; (try dsimp only at hSw); go_split_ands; go_simp; try (with_reducible rfl))
                (try simp only [Act.put, List.setIfInBounds_toArray, List.set_cons_zero, List.set_cons_succ])
                refine wpAnyM_takeU (i := 9) (v := ?_) rfl (by kernel_rfl) (by kernel_rfl) (by kernel_rfl) (by kernel_rfl) (fun _ _ _ h => h) hS (Or.inl ⟨by rfl, ?_⟩) ?_
                rotate_left
                · (intro w hSw; (try dsimp only at hSw); go_split_ands; go_simp; try (with_reducible rfl))
                (try simp only [Act.put, List.setIfInBounds_toArray, List.set_cons_zero, List.set_cons_succ])
                refine wpAnyM_takeU (i := 10) (v := ?_) rfl (by kernel_rfl) (by kernel_rfl) (by kernel_rfl) (by kernel_rfl) (fun _ _ _ h => h) hS (Or.inl ⟨by rfl, ?_⟩) ?_
                rotate_left
                · (intro w hSw; (try dsimp only at hSw); go_split_ands; go_simp; try (with_reducible rfl))
                (try simp only [Act.put, List.setIfInBounds_toArray, List.set_cons_zero, List.set_cons_succ])
                refine wpAnyM_takeU (i := 11) (v := ?_) rfl (by kernel_rfl) (by kernel_rfl) (by kernel_rfl) (by kernel_rfl) (fun _ _ _ h => h) hS (Or.inl ⟨by rfl, ?_⟩) ?_
                rotate_left
                · (intro w hSw; (try dsimp only at hSw); go_split_ands; go_simp; try (with_reducible rfl))
                (try simp only [Act.put, List.setIfInBounds_toArray, List.set_cons_zero, List.set_cons_succ])
                refine wpAnyM_takeU (i := 12) (v := ?_) rfl (by kernel_rfl) (by kernel_rfl) (by kernel_rfl) (by kernel_rfl) (fun _ _ _ h => h) hS (Or.inl ⟨by rfl, ?_⟩) ?_
                rotate_left
                · (intro w hSw; (try dsimp only at hSw); go_split_ands; go_simp; try (with_reducible rfl))
                (try simp only [Act.put, List.setIfInBounds_toArray, List.set_cons_zero, List.set_cons_succ])
                refine wpAnyM_takeU (i := 13) (v := ?_) rfl (by kernel_rfl) (by kernel_rfl) (by kernel_rfl) (by kernel_rfl) (fun _ _ _ h => h) hS (Or.inl ⟨by rfl, ?_⟩) ?_
                rotate_left
                · (intro w hSw; (try dsimp only at hSw); go_split_ands; go_simp; try (with_reducible rfl))
                (try simp only [Act.put, List.setIfInBounds_toArray, List.set_cons_zero, List.set_cons_succ])
                refine wpAnyM_takeU (i := 14) (v := ?_) rfl (by kernel_rfl) (by kernel_rfl) (by kernel_rfl) (by kernel_rfl) (fun _ _ _ h => h) hS (Or.inl ⟨by rfl, ?_⟩) ?_
                rotate_left
                · (intro w hSw; (try dsimp only at hSw); go_split_ands; go_simp; try (with_reducible rfl))
                (try simp only [Act.put, List.setIfInBounds_toArray, List.set_cons_zero, List.set_cons_succ])
                refine wpAnyM_one (i := 15) (by kernel_rfl) rfl (fun K hK => ?_)
                (go_simp; rw [H7.out])
                refine hK.out _ _ (Or.inl rfl) (fun _ => ?_)
                clear hK K hS
                (try simp only [Act.put, List.setIfInBounds_toArray, List.set_cons_zero, List.set_cons_succ])
                refine wpAnyM_done (by kernel_rfl) ?_
                clear s3 s4 s6 H7 Hz6
                have c1 := HB7.out.c _ _ (intsF_at e1)
                rw [E3.out] at c1
                go_wp2_with fail
                go_roundw
                case rel => exact ⟨i + 1, X2, y7, by omega, by rw [Hu2.out], rfl, HN7.out, HB7.out, HPn.out⟩
                case measure => exact HR1.out
          · have hmd : m < d := by
              rcases Nat.lt_or_eq_of_le hm with h | h
              · exact h
              · exact absurd (by rw [h]; exact HD.out.1) hms
            have hms' : ((wayP bef t m : Int) != (s : Int)) = true := by simp; omega
            obtain ⟨e1, e2, e3, e4⟩ := HE.out m hmd
            have HR1 := Lib.hid (HR.out m hmd)
            have c1 := HB.out.c _ _ (intsF_at e1)
            rw [e3] at c1
            have c2 := HN3.out.c _ _ (netL_at (M := matX R C l h but X) e2 e1)
            have e5 := (HP.out (wayP bef t (m + 1)) (wayP bef t m)).2
            have HK2 := Lib.hid (show ∀ j, j < m + 1 → min kk (matX R C l h but X (wayP bef t (m + 1)) (wayP bef t m)) ≤ matX R C l h but X (wayP bef t (j + 1)) (wayP bef t j) from fun j hj => by
              by_cases e : j = m
              · subst e; omega
              · have := HK.out j (by omega); omega)
            generalize matX R C l h but X (wayP bef t (m + 1)) (wayP bef t m) = Mv at *
            have Hu := Lib.hid (show wayP bef t (m + 1) = wayP bef t (m + 1) from rfl)
            clear hms e3 HK
            have d2 : (wayP bef t m : Int) < 16 := by omega
            have d3 : (wayP bef t (m + 1) : Int) < 16 := by omega
            go_wp2_with fail
            go_roundw
            case rel => exact ⟨m + 1, min kk Mv, by omega, rfl, rfl, trivial, by omega, by omega, HK2.out⟩
            case measure => exact HR1.out
    · have HFl := Lib.hid (show FlowR R C l h but s t most total from ⟨h0, h1, X, HS.out, Or.inl (by omega)⟩)
      go_wp2_with fail
      go_ret
      first | exact ⟨total, y, rfl, rfl, HFl.out⟩ | exact ⟨total, rfl, ⟨y, rfl⟩, HFl.out⟩
end Go.Proofs.YtdkcclngionihaaDoor
/- The reference's checks of a table that is right, walked. -/
namespace Go.Proofs.YtdkcclngionihaaDoor
open Go.RowKit

set_option linter.unusedSimpArgs false in
set_option maxRecDepth 100000 in
set_option maxHeartbeats 4000000 in
theorem rneg_calls (w : World) (x : Since w) (R C : Nat) (l : List Int) (a : Option Addr) (c : Nat) (hL : IntRow w a l) (hG : SG R C l) :
    Calls Tryd.prog 56 #[.agg #[.int .i64 (R : Int), .int .i64 (C : Int), .slice a l.length c]] x.w fun o w' => o = .returned (.bool false) ∧ ∃ y : Since w, w' = y.w := by
  have HL := Lib.hid hL
  have HG := Lib.hid hG
  have hm1 := hG.len
  obtain ⟨m, hm⟩ : ∃ m, m = l.length := ⟨_, rfl⟩
  rw [← hm]
  rw [← hm] at hm1
  have Hm := Lib.hid hm
  clear hL hG hm
  go_enter Tryd.func56, Tryd.ntmps56
  go_upto_region 1 with fail
  have hb0_0 : ∀ y : Since (x.w.alloc (.cells #[.int .i64 (R : Int), .int .i64 (C : Int), .slice a m c] 31)), y.w.cell? ⟨x.w.heap.size, 0, none⟩ = some (.int .i64 (R : Int)) := fun y => Since.cell (by simp [go_sem]) (by first | (simp; done) | (simp; omega)) y
  have hb0_1 : ∀ y : Since (x.w.alloc (.cells #[.int .i64 (R : Int), .int .i64 (C : Int), .slice a m c] 31)), y.w.cell? ⟨x.w.heap.size, 1, none⟩ = some (.int .i64 (C : Int)) := fun y => Since.cell (by simp [go_sem]) (by first | (simp; done) | (simp; omega)) y
  have hb0_2 : ∀ y : Since (x.w.alloc (.cells #[.int .i64 (R : Int), .int .i64 (C : Int), .slice a m c] 31)), y.w.cell? ⟨x.w.heap.size, 2, none⟩ = some (.slice a m c) := fun y => Since.cell (by simp [go_sem]) (by first | (simp; done) | (simp; omega)) y
  have hf0 : ∀ (y : Since (x.w.alloc (.cells #[.int .i64 (R : Int), .int .i64 (C : Int), .slice a m c] 31))) (o : Nat), y.w.frozen? ⟨x.w.heap.size, o, none⟩ = false := fun y o => Since.free (by simp [go_sem]) (by first | (simp; done) | (simp; omega)) y
  have hWup : ∃ z : Since w, (x.w.alloc (.cells #[.int .i64 (R : Int), .int .i64 (C : Int), .slice a m c] 31)) = z.w := x.alloc _
  obtain ⟨y0, hy0⟩ := Since.refl (x.w.alloc (.cells #[.int .i64 (R : Int), .int .i64 (C : Int), .slice a m c] 31))
  have Hbx := Lib.hid (And.intro x.b.size (show x.w.heap.size + 1 = (x.w.alloc (.cells #[.int .i64 (R : Int), .int .i64 (C : Int), .slice a m c] 31)).heap.size from by simp))
  generalize hW : (x.w.alloc (.cells #[.int .i64 (R : Int), .int .i64 (C : Int), .slice a m c] 31)) = W at *
  clear hW
  generalize x.w.heap.size = bx at *
  have Hup := Lib.hid (Since.up hWup)
  rw [hy0]
  clear hy0
  replace HL := Lib.hid (HL.out.to hWup)
  clear hWup hf0
  go_upto_region 2 with fail
  go_loopw [3] (fun si wr => ∃ (k : Nat) (y : Since W), k ≤ m ∧ si = .int .i64 (k : Int) ∧ wr = y.w) (fun si _ => m - (intOf si).toNat)
  case atStart => exact ⟨0, y0, by omega, rfl, rfl⟩
  case round =>
    obtain ⟨k, y, hk, rfl, rfl⟩ := hrel
    by_cases hlt : k < m
    · have hk0 : (0 : Int) ≤ (k : Int) := by omega
      have hkl : (k : Int) < (m : Int) := by omega
      obtain ⟨b1, o1, rfl, hb1, hc1'⟩ := HL.out k (by have := Hm.out; omega)
      have f0 : y.w.cell? ⟨b1, o1 + k, none⟩ = some (.int .i64 (at0 l k)) := Since.cell hc1' hb1 y
      clear hb1 hc1'
      obtain ⟨_, _, z2, z3⟩ := HG.out.cell (i := k) (by have := Hm.out; omega)
      have z4 : ¬ at0 l k < 0 := by omega
      go_wp2_with fail
      go_roundw
      case rel => exact ⟨k + 1, y, by omega, by go_num, rfl⟩
      case measure => simp [intOf] <;> omega
    · obtain rfl : k = m := by omega
      go_wp2_with fail
      go_ret
      exact ⟨rfl, Hup.out _⟩
set_option linter.unusedSimpArgs false in
set_option maxRecDepth 100000 in
set_option maxHeartbeats 4000000 in
theorem rsum_calls (w : World) (x : Since w) (R C : Nat) (l : List Int) (a : Option Addr) (c : Nat) (hL : IntRow w a l) (hG : SG R C l) :
    Calls Tryd.prog 57 #[.agg #[.int .i64 (R : Int), .int .i64 (C : Int), .slice a l.length c]] x.w fun o w' => (∃ S : Int, S ≤ 65536 ∧ o = .returned (.int .i64 S)) ∧ ∃ y : Since w, w' = y.w := by
  have HL := Lib.hid hL
  have HG := Lib.hid hG
  have hm1 := hG.len
  have HS := Lib.hid (sumF_mono l.length hG.z)
  have HS2 := Lib.hid hG.s
  obtain ⟨m, hm⟩ : ∃ m, m = l.length := ⟨_, rfl⟩
  rw [← hm]
  rw [← hm] at hm1
  have Hm := Lib.hid hm
  clear hL hG hm
  go_enter Tryd.func57, Tryd.ntmps57
  go_upto_region 1 with fail
  have hb0_0 : ∀ y : Since (x.w.alloc (.cells #[.int .i64 (R : Int), .int .i64 (C : Int), .slice a m c] 31)), y.w.cell? ⟨x.w.heap.size, 0, none⟩ = some (.int .i64 (R : Int)) := fun y => Since.cell (by simp [go_sem]) (by first | (simp; done) | (simp; omega)) y
  have hb0_1 : ∀ y : Since (x.w.alloc (.cells #[.int .i64 (R : Int), .int .i64 (C : Int), .slice a m c] 31)), y.w.cell? ⟨x.w.heap.size, 1, none⟩ = some (.int .i64 (C : Int)) := fun y => Since.cell (by simp [go_sem]) (by first | (simp; done) | (simp; omega)) y
  have hb0_2 : ∀ y : Since (x.w.alloc (.cells #[.int .i64 (R : Int), .int .i64 (C : Int), .slice a m c] 31)), y.w.cell? ⟨x.w.heap.size, 2, none⟩ = some (.slice a m c) := fun y => Since.cell (by simp [go_sem]) (by first | (simp; done) | (simp; omega)) y
  have hf0 : ∀ (y : Since (x.w.alloc (.cells #[.int .i64 (R : Int), .int .i64 (C : Int), .slice a m c] 31))) (o : Nat), y.w.frozen? ⟨x.w.heap.size, o, none⟩ = false := fun y o => Since.free (by simp [go_sem]) (by first | (simp; done) | (simp; omega)) y
  have hWup : ∃ z : Since w, (x.w.alloc (.cells #[.int .i64 (R : Int), .int .i64 (C : Int), .slice a m c] 31)) = z.w := x.alloc _
  obtain ⟨y0, hy0⟩ := Since.refl (x.w.alloc (.cells #[.int .i64 (R : Int), .int .i64 (C : Int), .slice a m c] 31))
  have Hbx := Lib.hid (And.intro x.b.size (show x.w.heap.size + 1 = (x.w.alloc (.cells #[.int .i64 (R : Int), .int .i64 (C : Int), .slice a m c] 31)).heap.size from by simp))
  generalize hW : (x.w.alloc (.cells #[.int .i64 (R : Int), .int .i64 (C : Int), .slice a m c] 31)) = W at *
  clear hW
  generalize x.w.heap.size = bx at *
  have Hup := Lib.hid (Since.up hWup)
  rw [hy0]
  clear hy0
  replace HL := Lib.hid (HL.out.to hWup)
  clear hWup hf0
  go_upto_region 3 with fail
  go_loopw [3, 4] (fun v3 si wr => ∃ (k : Nat) (y : Since W), k ≤ m ∧ si = .int .i64 (k : Int) ∧ v3 = .int .i64 (sumF (at0 l) k) ∧ wr = y.w) (fun _ si _ => m - (intOf si).toNat)
  case atStart => exact ⟨0, y0, by omega, rfl, rfl, rfl⟩
  case round =>
    obtain ⟨k, y, hk, rfl, rfl, rfl⟩ := hrel
    obtain ⟨s0, s1⟩ := HS.out k (by rw [← Hm.out]; exact hk)
    have s2 := HS2.out
    by_cases hlt : k < m
    · have hk0 : (0 : Int) ≤ (k : Int) := by omega
      have hkl : (k : Int) < (m : Int) := by omega
      obtain ⟨b1, o1, rfl, hb1, hc1'⟩ := HL.out k (by have := Hm.out; omega)
      have f0 : y.w.cell? ⟨b1, o1 + k, none⟩ = some (.int .i64 (at0 l k)) := Since.cell hc1' hb1 y
      clear hb1 hc1'
      obtain ⟨_, _, z2, z3⟩ := HG.out.cell (i := k) (by have := Hm.out; omega)
      have Hn := Lib.hid (show sumF (at0 l) (k + 1) = sumF (at0 l) k + at0 l k from rfl)
      generalize sumF (at0 l) k = S at *
      generalize sumF (at0 l) l.length = S2 at *
      generalize at0 l k = e at *
      have ws : IntKind.i64.wrap (S + e) = S + e := IntWalk.i64_in _ (by omega)
      go_wp2_with fail
      go_roundw
      case rel => exact ⟨k + 1, y, by omega, by go_num, by rw [Hn.out], rfl⟩
      case measure => simp [intOf] <;> omega
    · obtain rfl : k = m := by omega
      generalize sumF (at0 l) k = S at *
      generalize sumF (at0 l) l.length = S2 at *
      have hs : S ≤ 65536 := by omega
      go_wp2_with fail
      go_ret
      exact ⟨⟨S, hs, rfl⟩, Hup.out _⟩
set_option linter.unusedSimpArgs false in
set_option maxRecDepth 100000 in
set_option maxHeartbeats 4000000 in
theorem rcheck52_calls (w : World) (x : Since w) (R C : Nat) (l : List Int) (m' : Nat) (a ah : Option Addr) (c ch : Nat) (hL : IntRow w a l) (hG : SG R C l) (hm' : m' = l.length) :
    Calls Tryd.prog 94 #[.agg #[.int .i64 (R : Int), .int .i64 (C : Int), .slice a l.length c], .slice ah m' ch] x.w fun o w' => o = .returned (.int .i64 0) ∧ ∃ y : Since w, w' = y.w := by
  subst hm'
  have HL := Lib.hid hL
  have HC := Lib.hid hG.chk
  have HN := Lib.hid (fun (W : World) (y : Since W) h => rneg_calls W y R C l a c h hG)
  have HS := Lib.hid (fun (W : World) (y : Since W) h => rsum_calls W y R C l a c h hG)
  have hm1 := hG.len
  obtain ⟨m, hm⟩ : ∃ m, m = l.length := ⟨_, rfl⟩
  have HT := Lib.hid (fun (W : World) (y : Since W) h => show Calls Tryd.prog 39 #[.agg #[.int .i64 (R : Int), .int .i64 (C : Int), .slice a m c]] y.w (fun o w' => o = .returned (.int .i64 0) ∧ ∃ y : Since W, w' = y.w) from by
    have := rtcheck_calls W y ⟨R, C, l⟩ a c h (by show l.length ≤ _; omega)
    rw [HC.out] at this
    rw [hm]; exact this)
  rw [← hm] at HN HS
  rw [← hm]
  clear hL hG hm HC
  go_enter Tryd.func94, Tryd.ntmps94
  go_upto_region 1 with fail
  have hb0_0 : ∀ y : Since (x.w.alloc (.cells #[.int .i64 (R : Int), .int .i64 (C : Int), .slice a m c] 31)), y.w.cell? ⟨x.w.heap.size, 0, none⟩ = some (.int .i64 (R : Int)) := fun y => Since.cell (by simp [go_sem]) (by first | (simp; done) | (simp; omega)) y
  have hb0_1 : ∀ y : Since (x.w.alloc (.cells #[.int .i64 (R : Int), .int .i64 (C : Int), .slice a m c] 31)), y.w.cell? ⟨x.w.heap.size, 1, none⟩ = some (.int .i64 (C : Int)) := fun y => Since.cell (by simp [go_sem]) (by first | (simp; done) | (simp; omega)) y
  have hb0_2 : ∀ y : Since (x.w.alloc (.cells #[.int .i64 (R : Int), .int .i64 (C : Int), .slice a m c] 31)), y.w.cell? ⟨x.w.heap.size, 2, none⟩ = some (.slice a m c) := fun y => Since.cell (by simp [go_sem]) (by first | (simp; done) | (simp; omega)) y
  have hf0 : ∀ (y : Since (x.w.alloc (.cells #[.int .i64 (R : Int), .int .i64 (C : Int), .slice a m c] 31))) (o : Nat), y.w.frozen? ⟨x.w.heap.size, o, none⟩ = false := fun y o => Since.free (by simp [go_sem]) (by first | (simp; done) | (simp; omega)) y
  have hWup : ∃ z : Since w, (x.w.alloc (.cells #[.int .i64 (R : Int), .int .i64 (C : Int), .slice a m c] 31)) = z.w := x.alloc _
  obtain ⟨y0, hy0⟩ := Since.refl (x.w.alloc (.cells #[.int .i64 (R : Int), .int .i64 (C : Int), .slice a m c] 31))
  have Hbx := Lib.hid (And.intro x.b.size (show x.w.heap.size + 1 = (x.w.alloc (.cells #[.int .i64 (R : Int), .int .i64 (C : Int), .slice a m c] 31)).heap.size from by simp))
  generalize hW : (x.w.alloc (.cells #[.int .i64 (R : Int), .int .i64 (C : Int), .slice a m c] 31)) = W at *
  clear hW
  generalize x.w.heap.size = bx at *
  have Hup := Lib.hid (Since.up hWup)
  rw [hy0]
  clear hy0
  replace HL := Lib.hid (HL.out.to hWup)
  clear hWup hf0
  have HT1 := Lib.hid (fun z : Since W => HT.out W z HL.out)
  have HN1 := Lib.hid (fun z : Since W => HN.out W z HL.out)
  have HS1 := Lib.hid (fun z : Since W => HS.out W z HL.out)
  clear HT HN HS HL
  go_wp2_with (first | (go_at_call 39; ((with_reducible refine (HT1.out _).mono ?_); rintro _ _ ⟨rfl, z, rfl⟩)) | (go_at_call 56; ((with_reducible refine (HN1.out _).mono ?_); rintro _ _ ⟨rfl, z, rfl⟩)) | (go_at_call 57; ((with_reducible refine (HS1.out _).mono ?_); rintro _ _ ⟨⟨S, hS, rfl⟩, z, rfl⟩; have hS2 : ¬ (65536 : Int) < S := by omega)))
  go_ret
  exact ⟨rfl, Hup.out _⟩
end Go.Proofs.YtdkcclngionihaaDoor
/- The reference's interval of a cell, walked. -/
namespace Go.Proofs.YtdkcclngionihaaDoor
open Go.RowKit

set_option linter.unusedSimpArgs false in
set_option maxRecDepth 100000 in
set_option maxHeartbeats 16000000 in
theorem rrange_calls (w : World) (x : Since w) (R C : Nat) (l : List Int) (h : List Bool) (i : Nat) (a ah : Option Addr) (c ch : Nat) (hL : IntRow w a l) (hH : BlRow w ah h) (hG : SG R C l) (hh : h.length = l.length) (hi : i < l.length) :
    Calls Tryd.prog 79 #[.agg #[.int .i64 (R : Int), .int .i64 (C : Int), .slice a l.length c], .slice ah h.length ch, .int .i64 (i : Int)] x.w fun o w' => o = .returned (.tuple #[.agg #[.int .i64 (loV R C l h i), .int .i64 (hiV R C l h i)], .int .i64 0]) ∧ ∃ y : Since w, w' = y.w := by
  have HL := Lib.hid hL
  have HH := Lib.hid hH
  have HC := Lib.hid (fun (w : World) (x : Since w) hL => rcheck52_calls w x R C l h.length a ah c ch hL hG hh)
  have HN := Lib.hid (fun (w : World) (x : Since w) hL hH => rnet_calls w x R C l h i a ah c ch hL hH hG hh)
  have HF1 := Lib.hid (fun (w : World) (x : Since w) => rflow_calls w x R C l h i (i / C) (8 + i % C) (at0 l i) hG (ok_row hG hi) (ok_col hG hi) (by have := hG.r; have := (hG.cell hi).1; omega) (hG.cell hi).2.2.1 (hG.cell hi).2.2.2)
  have HF2 := Lib.hid (fun (w : World) (x : Since w) => rflow_calls w x R C l h i (8 + i % C) (i / C) 65536 hG (ok_col hG hi) (ok_row hG hi) (by have := hG.r; have := (hG.cell hi).1; omega) (by decide) (by decide))
  have HV1 := Lib.hid (fun t => flow_loss hG hi h (total := t))
  have HV2 := Lib.hid (fun t => flow_gain hG hi h (total := t))
  have Hlo := Lib.hid (show loV R C l h i = if bo h i = true then at0 l i - min (at0 l i) (lossV R C l h i) else at0 l i from rfl)
  have Hhi := Lib.hid (show hiV R C l h i = if bo h i = true then at0 l i + gainV R C l h i else at0 l i from rfl)
  have Hiv := Lib.hid (hG.iv h hi)
  obtain ⟨z0, z1, z2, z3⟩ := hG.cell hi
  obtain ⟨hr0, hr1⟩ := hG.r
  obtain ⟨hc0, hc1⟩ := hG.c
  have hm1 := hG.len
  generalize loV R C l h i = LO at *
  generalize hiV R C l h i = HI2 at *
  generalize hM : matX R C l h i (fun _ => 0) = M at *
  have zn := zNet
  have hst2 := fun (v : World) => run_storeCells_new (P := Tryd.prog) v 141 (netL fun _ _ => 0).toArray (netL M).toArray (by rw [iNet, List.size_toArray, netL_len]) (by simp [netL_len]) (all_oneCell_toArray (intsF_one _ _))
  obtain ⟨m, hm⟩ : ∃ m, m = l.length := ⟨_, rfl⟩
  have Hh := Lib.hid hh
  rw [hh, ← hm] at HC HN
  rw [hh, ← hm]
  have Hm := Lib.hid hm
  have him : i < m := by omega
  have hCp : (0 : Int) < (C : Int) := by omega
  obtain ⟨q, hq⟩ : ∃ q, q = i / C := ⟨_, rfl⟩
  obtain ⟨p, hp⟩ : ∃ p, p = i % C := ⟨_, rfl⟩
  obtain ⟨p8, hp8⟩ : ∃ p8, p8 = 8 + p := ⟨_, rfl⟩
  have wq := Lib.hid (show wrap64 ((i : Int) / (C : Int)) = (q : Int) from by rw [hq, Int.natCast_ediv]; exact wrap_quo z0 hr1)
  have wr := Lib.hid (show wrap64 (8 + (i : Int) % (C : Int)) = (p8 : Int) from by rw [hp8, hp, Int.natCast_add, Int.natCast_emod]; exact IntWalk.wrap64_in _ (by have := rem_in z1; exact ⟨by omega, by omega⟩))
  rw [← hq, ← hp, ← hp8] at HF1 HF2 HV1 HV2
  clear hL hH hG hh hi hm hm1 hq hp hp8 z0 z1 hM hr0 hr1 hc0 hc1
  go_enter Tryd.func79, Tryd.ntmps79
  go_upto_region 1 with fail
  have hb0_0 : ∀ y : Since ((x.w.alloc (.cells #[.int .i64 (R : Int), .int .i64 (C : Int), .slice a m c] 31)).alloc (.cells #[.int .i64 0, .int .i64 0] 56)), y.w.cell? ⟨x.w.heap.size, 0, none⟩ = some (.int .i64 (R : Int)) := fun y => Since.cell (by simp [go_sem]) (by first | (simp; done) | (simp; omega)) y
  have hb0_1 : ∀ y : Since ((x.w.alloc (.cells #[.int .i64 (R : Int), .int .i64 (C : Int), .slice a m c] 31)).alloc (.cells #[.int .i64 0, .int .i64 0] 56)), y.w.cell? ⟨x.w.heap.size, 1, none⟩ = some (.int .i64 (C : Int)) := fun y => Since.cell (by simp [go_sem]) (by first | (simp; done) | (simp; omega)) y
  have hb0_2 : ∀ y : Since ((x.w.alloc (.cells #[.int .i64 (R : Int), .int .i64 (C : Int), .slice a m c] 31)).alloc (.cells #[.int .i64 0, .int .i64 0] 56)), y.w.cell? ⟨x.w.heap.size, 2, none⟩ = some (.slice a m c) := fun y => Since.cell (by simp [go_sem]) (by first | (simp; done) | (simp; omega)) y
  have hf0 : ∀ (y : Since ((x.w.alloc (.cells #[.int .i64 (R : Int), .int .i64 (C : Int), .slice a m c] 31)).alloc (.cells #[.int .i64 0, .int .i64 0] 56))) (o : Nat), y.w.frozen? ⟨x.w.heap.size, o, none⟩ = false := fun y o => Since.free (by simp [go_sem]) (by first | (simp; done) | (simp; omega)) y
  have hb1_0 : ∀ y : Since ((x.w.alloc (.cells #[.int .i64 (R : Int), .int .i64 (C : Int), .slice a m c] 31)).alloc (.cells #[.int .i64 0, .int .i64 0] 56)), y.w.cell? ⟨x.w.heap.size + 1, 0, none⟩ = some (.int .i64 0) := fun y => Since.cell (by simp [go_sem]) (by first | (simp; done) | (simp; omega)) y
  have hb1_1 : ∀ y : Since ((x.w.alloc (.cells #[.int .i64 (R : Int), .int .i64 (C : Int), .slice a m c] 31)).alloc (.cells #[.int .i64 0, .int .i64 0] 56)), y.w.cell? ⟨x.w.heap.size + 1, 1, none⟩ = some (.int .i64 0) := fun y => Since.cell (by simp [go_sem]) (by first | (simp; done) | (simp; omega)) y
  have hf1 : ∀ (y : Since ((x.w.alloc (.cells #[.int .i64 (R : Int), .int .i64 (C : Int), .slice a m c] 31)).alloc (.cells #[.int .i64 0, .int .i64 0] 56))) (o : Nat), y.w.frozen? ⟨x.w.heap.size + 1, o, none⟩ = false := fun y o => Since.free (by simp [go_sem]) (by first | (simp; done) | (simp; omega)) y
  have hWup : ∃ z : Since w, ((x.w.alloc (.cells #[.int .i64 (R : Int), .int .i64 (C : Int), .slice a m c] 31)).alloc (.cells #[.int .i64 0, .int .i64 0] 56)) = z.w := Since.allocs x [.cells #[.int .i64 (R : Int), .int .i64 (C : Int), .slice a m c] 31, .cells #[.int .i64 0, .int .i64 0] 56]
  obtain ⟨y0, hy0⟩ := Since.refl ((x.w.alloc (.cells #[.int .i64 (R : Int), .int .i64 (C : Int), .slice a m c] 31)).alloc (.cells #[.int .i64 0, .int .i64 0] 56))
  have Hbx := Lib.hid (And.intro x.b.size (show x.w.heap.size + 2 = ((x.w.alloc (.cells #[.int .i64 (R : Int), .int .i64 (C : Int), .slice a m c] 31)).alloc (.cells #[.int .i64 0, .int .i64 0] 56)).heap.size from by simp))
  generalize hW : ((x.w.alloc (.cells #[.int .i64 (R : Int), .int .i64 (C : Int), .slice a m c] 31)).alloc (.cells #[.int .i64 0, .int .i64 0] 56)) = W at *
  clear hW
  generalize x.w.heap.size = bx at *
  have Hup := Lib.hid (Since.up hWup)
  rw [hy0]
  clear hy0
  replace HL := Lib.hid (HL.out.to hWup)
  replace HH := Lib.hid (HH.out.to hWup)
  clear hWup hf0
  have hi0 : (0 : Int) ≤ (i : Int) := by omega
  have hil : (i : Int) < (m : Int) := by omega
  obtain ⟨b1, o1, rfl, hb1, hc1'⟩ := HL.out i (by have := Hm.out; omega)
  have f0 : ∀ q : Since W, q.w.cell? ⟨b1, o1 + i, none⟩ = some (.int .i64 (at0 l i)) := fun q => Since.cell hc1' hb1 q
  obtain ⟨b2, o2, rfl, hb2, hc2'⟩ := HH.out i (by have := Hm.out; have := Hh.out; omega)
  have f1 : ∀ q : Since W, q.w.cell? ⟨b2, o2 + i, none⟩ = some (.bool (bo h i)) := fun q => Since.cell hc2' hb2 q
  clear hb1 hc1' hb2 hc2'
  have HC1 := Lib.hid (fun z : Since W => HC.out W z HL.out)
  have HN1 := Lib.hid (fun z : Since W => HN.out W z HL.out HH.out)
  clear HC HN HL HH
  generalize at0 l i = e at *
  cases hb : bo h i
  · rw [hb] at f1 Hlo Hhi
    have HE := Lib.hid (show LO = e ∧ HI2 = e from ⟨by rw [Hlo.out]; rfl, by rw [Hhi.out]; rfl⟩)
    clear Hlo Hhi HF1 HF2 HV1 HV2 HN1 zn hst2 wq wr
    go_wp2_with (go_at_call 94; ((with_reducible refine (HC1.out _).mono ?_); rintro _ _ ⟨rfl, y1, rfl⟩))
    have hsm : ∀ j, j < 2 → (y1.w.cell? ⟨bx + 1, j, none⟩).isSome = true := fun j hj => by
      match j, hj with
      | 0, _ => rw [hb1_0 y1]; rfl
      | 1, _ => rw [hb1_1 y1]; rfl
    obtain ⟨Z, hz, hc⟩ := set_many y1 (g := bx + 1) [.int .i64 e, .int .i64 e] hsm (Hup.out y1) (by have := Hbx.out; omega)
    simp only [World.setCells, Nat.reduceAdd] at hz
    rw [hz]
    have hc0 := hc 0 _ rfl
    have hc1 := hc 1 _ rfl
    exact bodyPost_ret (v := .tuple #[.agg #[.int .i64 e, .int .i64 e], .int .i64 0]) (by simp [results, Tryd.results79, go_sem, hc0, hc1]) rfl ⟨by rw [HE.out.1, HE.out.2], Z, rfl⟩
  · rw [hb] at f1 Hlo Hhi
    rw [if_pos rfl] at Hlo Hhi
    go_upto_region 9 with (go_at_call 94; ((with_reducible refine (HC1.out _).mono ?_); rintro _ _ ⟨rfl, y1, rfl⟩))
    refine wp_region_since (by kernel_rfl) (by kernel_rfl) ?_
    repeat (go_big_quiet_step (fail))
    refine wpQuiet_nil ?_
    rintro _ ⟨y2, rfl⟩
    (try simp only [wq.out, wr.out])
    clear wq wr HC1
    go_upto_region 11 with (go_at_call 95; ((with_reducible refine (HN1.out _).mono ?_); rintro _ _ ⟨rfl, y3, rfl⟩))
    have hgw : W.heap.size ≤ y3.w.heap.size := y3.b.size
    have hB := BoxIs.new y3.w (netL M) 141
    obtain ⟨y4, e4⟩ : ∃ q : Since W, y3.w.alloc (.cells (netL M).toArray 141) = q.w := IsSince.alloc (IsSince.of y3) _
    rw [e4] at hB ⊢
    generalize y3.w.heap.size = gn at *
    obtain ⟨z4, hz4⟩ : ∃ q : Since W, y4.w.drew = q.w := IsSince.drew y4
    replace hB := hB.drew
    rw [hz4] at hB
    have HB := Lib.hid hB
    clear e4 hB zn hst2 f0 f1 HN1 hb0_0 hb0_1 hb0_2
    have HFa := Lib.hid (show Calls Tryd.prog 96 #[.agg (netL M).toArray, .int .i64 (q : Int), .int .i64 (p8 : Int), .int .i64 e] z4.w (fun o w' => ∃ (y : Since z4.w), o = .returned (.int .i64 (e - LO)) ∧ w' = y.w) from by
      refine (HF1.out z4.w (Since.self z4.w)).mono ?_
      rintro _ _ ⟨t, y, rfl, rfl, ht⟩
      have := HV1.out t ht
      exact ⟨y, by rw [this, Hlo.out]; congr 2; omega, rfl⟩)
    have HFb := Lib.hid (fun u : Since z4.w => show Calls Tryd.prog 96 #[.agg (netL M).toArray, .int .i64 (p8 : Int), .int .i64 (q : Int), .int .i64 65536] u.w (fun o w' => ∃ (y : Since z4.w), o = .returned (.int .i64 (HI2 - e)) ∧ w' = y.w) from by
      refine (HF2.out u.w (Since.self u.w)).mono ?_
      rintro _ _ ⟨t, y, rfl, rfl, ht⟩
      have := HV2.out t ht
      obtain ⟨y', e'⟩ := u.trans y
      exact ⟨y', by rw [this, Hhi.out]; congr 2; omega, e'⟩)
    obtain ⟨i0, i1, i2, i3⟩ := Hiv.out
    have w1 : IntKind.i64.wrap (e - (e - LO)) = LO := by rw [show e - (e - LO) = LO by omega]; exact IntWalk.i64_in _ (by omega)
    have w2 : IntKind.i64.wrap (e + (HI2 - e)) = HI2 := by rw [show e + (HI2 - e) = HI2 by omega]; exact IntWalk.i64_in _ (by omega)
    have hgx : gn ≠ bx + 1 := by have := Hbx.out; omega
    have hg1 : w.heap.size ≤ bx + 1 := by have := Hbx.out; omega
    have m1 := Since.cellTo ⟨z4, rfl⟩ hb1_0
    have m2 := Since.cellTo ⟨z4, rfl⟩ hb1_1
    have mf : ∀ (q : Since z4.w) (o : Nat), q.w.frozen? ⟨bx + 1, o, none⟩ = false := fun q o => by obtain ⟨z, hz⟩ := z4.trans q; rw [hz]; exact hf1 z o
    have hUp4 := Lib.hid (fun q : Since z4.w => show IsSince w q.w from by obtain ⟨z, hz⟩ := z4.trans q; rw [hz]; exact Hup.out z)
    clear HF1 HF2 HV1 HV2 Hlo Hhi Hiv hb1_0 hb1_1 hf1
    refine wp_region_M (fun w' => IsSince w w' ∧ BoxIs w' gn (netL M)) 14 (by kernel_rfl) (hz4 ▸ ⟨hUp4.out (Since.self _), HB.out⟩) (fun hS => ?_)
    rw [hz4] at hS ⊢
    clear hz4
    refine wpAnyM_takeU (i := 1) (v := .agg (netL M).toArray) rfl (by kernel_rfl) (by kernel_rfl) (by kernel_rfl) (by kernel_rfl) (fun _ _ _ h => h) hS ?_ ?_
    · refine Or.inl ⟨by rfl, ?_⟩
      intro w' hw'
      exact ldNet_exec (x := .tmp 12) (g := gn) rfl (by simp only [Act.eval]; rfl) hw'.2
    (try simp only [Act.put, List.setIfInBounds_toArray, List.set_cons_zero, List.set_cons_succ])
    refine wpAnyM_takeU (i := 8) (v := .agg (netL M).toArray) rfl (by kernel_rfl) (by kernel_rfl) (by kernel_rfl) (by kernel_rfl) (fun _ _ _ h => h) hS ?_ ?_
    · refine Or.inl ⟨by rfl, ?_⟩
      intro w' hw'
      exact ldNet_exec (x := .tmp 12) (g := gn) rfl (by simp only [Act.eval]; rfl) hw'.2
    (try simp only [Act.put, List.setIfInBounds_toArray, List.set_cons_zero, List.set_cons_succ])
    refine wpAnyM_takeU (i := 0) (v := ?_) rfl (by kernel_rfl) (by kernel_rfl) (by kernel_rfl) (by kernel_rfl) (fun _ _ _ h => h) hS (Or.inl ⟨by rfl, ?_⟩) ?_
    rotate_left
    · (intro w hSw; (try dsimp only at hSw); go_split_ands; go_simp; try (with_reducible rfl))
    (try simp only [Act.put, List.setIfInBounds_toArray, List.set_cons_zero, List.set_cons_succ])
    refine wpAnyM_takeU (i := 2) (v := ?_) rfl (by kernel_rfl) (by kernel_rfl) (by kernel_rfl) (by kernel_rfl) (fun _ _ _ h => h) hS (Or.inl ⟨by rfl, ?_⟩) ?_
    rotate_left
    · (intro w hSw; (try dsimp only at hSw); go_split_ands; go_simp; try (with_reducible rfl))
    (try simp only [Act.put, List.setIfInBounds_toArray, List.set_cons_zero, List.set_cons_succ])
    refine wpAnyM_takeU (i := 3) (v := ?_) rfl (by kernel_rfl) (by kernel_rfl) (by kernel_rfl) (by kernel_rfl) (fun _ _ _ h => h) hS (Or.inl ⟨by rfl, ?_⟩) ?_
    rotate_left
    · (intro w hSw; (try dsimp only at hSw); go_split_ands; go_simp; try (with_reducible rfl))
    (try simp only [Act.put, List.setIfInBounds_toArray, List.set_cons_zero, List.set_cons_succ])
    refine wpAnyM_takeU (i := 4) (v := ?_) rfl (by kernel_rfl) (by kernel_rfl) (by kernel_rfl) (by kernel_rfl) (fun _ _ _ h => h) hS (Or.inl ⟨by rfl, ?_⟩) ?_
    rotate_left
    · (intro w hSw; (try dsimp only at hSw); go_split_ands; go_simp; try (with_reducible rfl))
    (try simp only [Act.put, List.setIfInBounds_toArray, List.set_cons_zero, List.set_cons_succ])
    refine wpAnyM_takeU (i := 7) (v := ?_) rfl (by kernel_rfl) (by kernel_rfl) (by kernel_rfl) (by kernel_rfl) (fun _ _ _ h => h) hS (Or.inl ⟨by rfl, ?_⟩) ?_
    rotate_left
    · (intro w hSw; (try dsimp only at hSw); go_split_ands; go_simp; try (with_reducible rfl))
    (try simp only [Act.put, List.setIfInBounds_toArray, List.set_cons_zero, List.set_cons_succ])
    refine wpAnyM_takeU (i := 9) (v := ?_) rfl (by kernel_rfl) (by kernel_rfl) (by kernel_rfl) (by kernel_rfl) (fun _ _ _ h => h) hS (Or.inl ⟨by rfl, ?_⟩) ?_
    rotate_left
    · (intro w hSw; (try dsimp only at hSw); go_split_ands; go_simp; try (with_reducible rfl))
    (try simp only [Act.put, List.setIfInBounds_toArray, List.set_cons_zero, List.set_cons_succ])
    refine wpAnyM_takeU (i := 10) (v := ?_) rfl (by kernel_rfl) (by kernel_rfl) (by kernel_rfl) (by kernel_rfl) (fun _ _ _ h => h) hS (Or.inl ⟨by rfl, ?_⟩) ?_
    rotate_left
    · (intro w hSw; (try dsimp only at hSw); go_split_ands; go_simp; try (with_reducible rfl))
    (try simp only [Act.put, List.setIfInBounds_toArray, List.set_cons_zero, List.set_cons_succ])
    refine wpAnyM_one (i := 5) (by kernel_rfl) rfl (fun K hK => ?_)
    (go_simp; (with_reducible refine HFa.out.mono ?_); rintro _ _ ⟨y5, rfl, rfl⟩)
    refine hK.out _ _ (Or.inr (⟨hUp4.out y5, HB.out.since y5⟩)) (fun hS' => ?_)
    replace hS := hS'.resolve_left (by decide)
    clear hK K hS'
    (try simp only [Act.put, List.setIfInBounds_toArray, List.set_cons_zero, List.set_cons_succ])
    refine wpAnyM_take (i := 6) (v := ?_) rfl (by kernel_rfl) (by kernel_rfl) (by kernel_rfl) (by kernel_rfl) (fun _ _ _ h => h) hS (Or.inl ⟨by rfl, ?_⟩) ?_
    rotate_left
    · (intro w hSw; (try dsimp only at hSw); go_split_ands; go_simp; try (with_reducible rfl))
    (try simp only [Act.put, List.setIfInBounds_toArray, List.set_cons_zero, List.set_cons_succ])
    refine wpAnyM_one (i := 11) (by kernel_rfl) rfl (fun K hK => ?_)
    (go_simp; (with_reducible refine (HFb.out y5).mono ?_); rintro _ _ ⟨y6, rfl, rfl⟩)
    refine hK.out _ _ (Or.inr (⟨hUp4.out y6, HB.out.since y6⟩)) (fun hS' => ?_)
    replace hS := hS'.resolve_left (by decide)
    clear hK K hS'
    (try simp only [Act.put, List.setIfInBounds_toArray, List.set_cons_zero, List.set_cons_succ])
    refine wpAnyM_take (i := 12) (v := ?_) rfl (by kernel_rfl) (by kernel_rfl) (by kernel_rfl) (by kernel_rfl) (fun _ _ _ h => h) hS (Or.inl ⟨by rfl, ?_⟩) ?_
    rotate_left
    · (intro w hSw; (try dsimp only at hSw); go_split_ands; go_simp; try (with_reducible rfl))
    (try simp only [Act.put, List.setIfInBounds_toArray, List.set_cons_zero, List.set_cons_succ])
    refine wpAnyM_take (i := 13) (v := ?_) rfl (by kernel_rfl) (by kernel_rfl) (by kernel_rfl) (by kernel_rfl) (fun _ _ _ h => h) hS (Or.inl ⟨by rfl, ?_⟩) ?_
    rotate_left
    · (intro w hSw; (try dsimp only at hSw); go_split_ands; go_simp; try (with_reducible rfl))
    (try simp only [Act.put, List.setIfInBounds_toArray, List.set_cons_zero, List.set_cons_succ])
    have g0 := m1 y6; have g1 := m2 y6; have gf := mf y6
    obtain ⟨Z, hz, hc⟩ := set_many y6 (g := bx + 1) [.int .i64 LO, .int .i64 HI2] (fun j hj => by
      match j, hj with
      | 0, _ => rw [g0]; rfl
      | 1, _ => rw [g1]; rfl) (hUp4.out y6) hg1
    simp only [World.setCells, Nat.reduceAdd] at hz
    have hBZ := ((HB.out.since y6).far ⟨bx + 1, 0, none⟩ (.int .i64 LO) hgx).far ⟨bx + 1, 1, none⟩ (.int .i64 HI2) hgx
    rw [hz] at hBZ
    have HBZ := Lib.hid hBZ; have Hz := Lib.hid hz
    have hc0 := hc 0 _ rfl; have hc1 := hc 1 _ rfl
    clear hBZ hz hc
    refine wpAnyM_one (i := 14) (by kernel_rfl) rfl (fun K hK => ?_)
    go_simp
    rw [Hz.out]
    refine hK.out _ _ (Or.inl rfl) (fun _ => ?_)
    clear hK K hS g0 g1 gf
    (try simp only [Act.put, List.setIfInBounds_toArray, List.set_cons_zero, List.set_cons_succ])
    refine wpAnyM_one (i := 15) (by kernel_rfl) rfl (fun K hK => ?_)
    go_simp
    refine hK.out _ _ (Or.inr ⟨⟨Z, rfl⟩, HBZ.out⟩) (fun _ => ?_)
    clear hK K
    (try simp only [Act.put, List.setIfInBounds_toArray, List.set_cons_zero, List.set_cons_succ])
    refine wpAnyM_done (by kernel_rfl) ?_
    go_wp2_with fail
    exact bodyPost_ret (v := .tuple #[.agg #[.int .i64 LO, .int .i64 HI2], .int .i64 0]) (by simp [results, Tryd.results79, go_sem, hc0, hc1]) rfl ⟨rfl, Z, rfl⟩
end Go.Proofs.YtdkcclngionihaaDoor
/- The reference's search for an unsf cell, and for the next one to hide, walked. -/
namespace Go.Proofs.YtdkcclngionihaaDoor
open Go.RowKit

set_option linter.unusedSimpArgs false in
set_option maxRecDepth 100000 in
set_option maxHeartbeats 8000000 in
theorem runsf_calls (w : World) (x : Since w) (R C : Nat) (l : List Int) (h : List Bool) (width : Int) (a ah : Option Addr) (c ch : Nat) (hL : IntRow w a l) (hH : BlRow w ah h) (hG : SG R C l) (hh : h.length = l.length) :
    Calls Tryd.prog 58 #[.agg #[.int .i64 (R : Int), .int .i64 (C : Int), .slice a l.length c], .slice ah h.length ch, .int .i64 width] x.w fun o w' => o = .returned (.int .i64 (orNeg (unsV R C l h width))) ∧ ∃ y : Since w, w' = y.w := by
  have HL := Lib.hid hL
  have HH := Lib.hid hH
  have hm1 := hG.len
  obtain ⟨m, hm⟩ : ∃ m, m = l.length := ⟨_, rfl⟩
  have HI := Lib.hid (fun (w : World) (x : Since w) hL hH (i : Nat) (hi : i < m) => rrange_calls w x R C l h i a ah c ch hL hH hG hh (by omega))
  have HV := Lib.hid (fun (i : Nat) (hi : i < m) => hG.iv h (i := i) (by omega))
  have Hno := Lib.hid (fun (hn : ∀ j, j < m → narrow R C l h width j = false) => show orNeg (unsV R C l h width) = -1 from by unfold unsV; rw [fstP_none (by rw [hh, ← hm]; exact hn)]; rfl)
  have Hyes := Lib.hid (fun (k : Nat) (hk : k < m) (hp : narrow R C l h width k = true) (hn : ∀ j, j < k → narrow R C l h width j = false) => show orNeg (unsV R C l h width) = (k : Int) from by unfold unsV; rw [fstP_some (by rw [hh, ← hm]; exact hk) hp hn]; rfl)
  rw [hh, ← hm] at HI
  rw [hh, ← hm]
  have Hm := Lib.hid hm
  have Hh := Lib.hid hh
  generalize orNeg (unsV R C l h width) = U at *
  have hm64 : m ≤ 64 := by omega
  clear hL hH hG hh hm hm1
  go_enter Tryd.func58, Tryd.ntmps58
  go_upto_region 1 with fail
  have hb0_0 : ∀ y : Since (x.w.alloc (.cells #[.int .i64 (R : Int), .int .i64 (C : Int), .slice a m c] 31)), y.w.cell? ⟨x.w.heap.size, 0, none⟩ = some (.int .i64 (R : Int)) := fun y => Since.cell (by simp [go_sem]) (by first | (simp; done) | (simp; omega)) y
  have hb0_1 : ∀ y : Since (x.w.alloc (.cells #[.int .i64 (R : Int), .int .i64 (C : Int), .slice a m c] 31)), y.w.cell? ⟨x.w.heap.size, 1, none⟩ = some (.int .i64 (C : Int)) := fun y => Since.cell (by simp [go_sem]) (by first | (simp; done) | (simp; omega)) y
  have hb0_2 : ∀ y : Since (x.w.alloc (.cells #[.int .i64 (R : Int), .int .i64 (C : Int), .slice a m c] 31)), y.w.cell? ⟨x.w.heap.size, 2, none⟩ = some (.slice a m c) := fun y => Since.cell (by simp [go_sem]) (by first | (simp; done) | (simp; omega)) y
  have hf0 : ∀ (y : Since (x.w.alloc (.cells #[.int .i64 (R : Int), .int .i64 (C : Int), .slice a m c] 31))) (o : Nat), y.w.frozen? ⟨x.w.heap.size, o, none⟩ = false := fun y o => Since.free (by simp [go_sem]) (by first | (simp; done) | (simp; omega)) y
  have hWup : ∃ z : Since w, (x.w.alloc (.cells #[.int .i64 (R : Int), .int .i64 (C : Int), .slice a m c] 31)) = z.w := x.alloc _
  obtain ⟨y0, hy0⟩ := Since.refl (x.w.alloc (.cells #[.int .i64 (R : Int), .int .i64 (C : Int), .slice a m c] 31))
  have Hbx := Lib.hid (And.intro x.b.size (show x.w.heap.size + 1 = (x.w.alloc (.cells #[.int .i64 (R : Int), .int .i64 (C : Int), .slice a m c] 31)).heap.size from by simp))
  generalize hW : (x.w.alloc (.cells #[.int .i64 (R : Int), .int .i64 (C : Int), .slice a m c] 31)) = W at *
  clear hW
  generalize x.w.heap.size = bx at *
  have Hup := Lib.hid (Since.up hWup)
  rw [hy0]
  clear hy0
  replace HL := Lib.hid (HL.out.to hWup)
  replace HH := Lib.hid (HH.out.to hWup)
  clear hWup hf0
  go_upto_region 2 with fail
  go_loopw [7] (fun si wr => ∃ (k : Nat) (y : Since W), k ≤ m ∧ si = .int .i64 (k : Int) ∧ wr = y.w ∧ ∀ j, j < k → narrow R C l h width j = false) (fun si _ => m - (intOf si).toNat)
  case atStart => exact ⟨0, y0, by omega, rfl, rfl, fun j hj => by omega⟩
  case round =>
    obtain ⟨k, y, hk, rfl, rfl, hn⟩ := hrel
    have Hn := Lib.hid hn
    clear hn
    by_cases hlt : k < m
    · have hk0 : (0 : Int) ≤ (k : Int) := by omega
      have hkl : (k : Int) < (m : Int) := by omega
      obtain ⟨b2, o2, rfl, hb2, hc2'⟩ := HH.out k (by have := Hm.out; have := Hh.out; omega)
      have f1 : ∀ q : Since W, q.w.cell? ⟨b2, o2 + k, none⟩ = some (.bool (bo h k)) := fun q => Since.cell hc2' hb2 q
      clear hb2 hc2'
      have H2 := Lib.hid (HI.out W y HL.out HH.out k hlt)
      obtain ⟨v0, v1, v2, v3⟩ := HV.out k hlt
      have HNar := Lib.hid (show narrow R C l h width k = (bo h k && decide (hiV R C l h k - loV R C l h k < width)) from rfl)
      generalize loV R C l h k = LO at *
      generalize hiV R C l h k = HI2 at *
      generalize at0 l k = e at *
      cases hb : bo h k
      · rw [hb] at f1 HNar
        have Hstep := Lib.hid (fun j (hj : j < k + 1) => show narrow R C l h width j = false from by
          by_cases e : j = k
          · subst e; exact HNar.out
          · exact Hn.out j (by omega))
        clear H2
        go_wp2_with fail
        go_roundw
        case rel => exact ⟨k + 1, y, by omega, by go_num, rfl, Hstep.out⟩
        case measure => simp [intOf] <;> omega
      · rw [hb, Bool.true_and] at HNar
        rw [hb] at f1
        go_upto_region 6 with (go_at_call 79; ((with_reducible refine H2.out.mono ?_); rintro _ _ ⟨rfl, y1, rfl⟩))
        clear H2 f1
        have hx0 : (y1.w.alloc (.cells #[.int .i64 LO, .int .i64 HI2] 56)).cell? ⟨y1.w.heap.size, 0, none⟩ = some (.int .i64 LO) := by simp [go_sem]
        have hx1 : (y1.w.alloc (.cells #[.int .i64 LO, .int .i64 HI2] 56)).cell? ⟨y1.w.heap.size, 1, none⟩ = some (.int .i64 HI2) := by simp [go_sem]
        have hxf : ∀ o, (y1.w.alloc (.cells #[.int .i64 LO, .int .i64 HI2] 56)).frozen? ⟨y1.w.heap.size, o, none⟩ = false := fun o => by simp [go_sem]
        have hlt0 : y1.w.heap.size < (y1.w.alloc (.cells #[.int .i64 LO, .int .i64 HI2] 56)).heap.size := by simp
        have hst0 : ∃ zz : Since y1.w, (y1.w.alloc (.cells #[.int .i64 LO, .int .i64 HI2] 56)) = zz.w := IsSince.alloc (IsSince.self _) _
        have hsz0 := y1.b.size
        obtain ⟨y2, e2⟩ := IsSince.alloc (IsSince.of y1) (.cells #[.int .i64 LO, .int .i64 HI2] 56)
        rw [e2] at hx0 hx1 hxf hlt0 hst0 ⊢
        skip
        clear e2 hst0
        generalize y1.w.heap.size = gz at *
        have Hhx0 : ∀ q : Since y2.w, q.w.cell? ⟨gz, 0, none⟩ = some (.int .i64 LO) := fun q => Since.cell hx0 (by omega) q
        have Hhx1 : ∀ q : Since y2.w, q.w.cell? ⟨gz, 1, none⟩ = some (.int .i64 HI2) := fun q => Since.cell hx1 (by omega) q
        have Hhxf : ∀ (q : Since y2.w) (o : Nat), q.w.frozen? ⟨gz, o, none⟩ = false := fun q o => Since.free (hxf o) (by omega) q
        have Hhxg := Lib.hid (And.intro hsz0 hlt0)
        clear hlt0 hsz0
        clear hx0 hx1 hxf Hhxf Hhxg
        obtain ⟨q0, hq0⟩ := Since.refl y2.w
        rw [hq0]
        clear hq0
        have ws : IntKind.i64.wrap (HI2 - LO) = HI2 - LO := IntWalk.i64_in _ (by omega)
        by_cases hw : HI2 - LO < width
        · have HU := Lib.hid (Hyes.out k hlt (HNar.out.trans (decide_eq_true hw)) Hn.out)
          have HQ := Lib.hid (show ∃ y3 : Since w, q0.w = y3.w from by obtain ⟨y3, h3⟩ := y2.trans q0; rw [h3]; exact Hup.out y3)
          clear Hyes Hno
          go_wp2_with fail
          go_ret
          exact ⟨ret_int HU.out.symm, HQ.out⟩
        · have Hstep := Lib.hid (fun j (hj : j < k + 1) => show narrow R C l h width j = false from by
            by_cases e : j = k
            · subst e; exact HNar.out.trans (decide_eq_false hw)
            · exact Hn.out j (by omega))
          have HQ := Lib.hid (show ∃ y3 : Since W, q0.w = y3.w from y2.trans q0)
          clear Hyes Hno
          go_wp2_with fail
          obtain ⟨y3, h3⟩ := HQ.out
          rw [h3]
          go_roundw
          case rel => exact ⟨k + 1, y3, by omega, by go_num, rfl, Hstep.out⟩
          case measure => simp [intOf] <;> omega
    · obtain rfl : k = m := by omega
      have HU := Lib.hid (Hno.out Hn.out)
      clear Hyes Hno HV HI
      go_wp2_with fail
      go_ret
      exact ⟨ret_int HU.out.symm, Hup.out _⟩
/-- the last look from the end: the first place of a kind from k on -/
def fstFrom (p : Nat → Bool) (k n : Nat) : Int := orNeg ((List.range n).find? fun j => decide (k ≤ j) && p j)
theorem fstFrom_end (p : Nat → Bool) (n : Nat) : fstFrom p n n = -1 := by
  unfold fstFrom
  have : (List.range n).find? (fun j => decide (n ≤ j) && p j) = none := by
    rw [List.find?_eq_none]
    intro x hx
    rw [List.mem_range] at hx
    simp; intro; omega
  rw [this]; rfl
theorem fstFrom_zero (p : Nat → Bool) (n : Nat) : fstFrom p 0 n = orNeg (fstP p n) := by
  unfold fstFrom fstP
  simp
theorem fstFrom_no {p : Nat → Bool} {k n : Nat} (hp : p k = false) : fstFrom p k n = fstFrom p (k + 1) n := by
  unfold fstFrom
  congr 2
  funext j
  by_cases e : j = k
  · subst e; rw [hp]; simp
  · have : decide (k ≤ j) = decide (k + 1 ≤ j) := by by_cases h : k ≤ j <;> simp [h] <;> omega
    rw [this]
theorem fstFrom_yes {p : Nat → Bool} {k n : Nat} (hk : k < n) (hp : p k = true) : fstFrom p k n = (k : Int) := by
  unfold fstFrom
  have : (List.range n).find? (fun j => decide (k ≤ j) && p j) = some k := by
    rw [List.find?_range_eq_some]
    exact ⟨by simp [hp], by simpa using hk, fun j hj => by simp; exact Or.inl hj⟩
  rw [this]; rfl
def nxP (C i : Nat) (h : List Bool) (j : Nat) (k : Nat) : Bool := !bo h k && fitV C i j k
theorem next_or {C i m : Nat} {h : List Bool} (hm : h.length = m) : orNeg (nextV C h i) = if 0 ≤ fstFrom (nxP C i h 0) 0 m then fstFrom (nxP C i h 0) 0 m else if 0 ≤ fstFrom (nxP C i h 1) 0 m then fstFrom (nxP C i h 1) 0 m else fstFrom (nxP C i h 2) 0 m := by
  rw [fstFrom_zero, fstFrom_zero, fstFrom_zero, nextV_eq hm]
  have e : ∀ j, (fun k => !bo h k && fitV C i j k) = nxP C i h j := fun j => rfl
  rw [e 0, e 1, e 2]
  cases h1 : fstP (nxP C i h 0) m with
  | some j => simp [orNeg]
  | none =>
    cases h2 : fstP (nxP C i h 1) m with
    | some j => simp [orNeg]
    | none => simp [orNeg]
set_option linter.unusedSimpArgs false in
set_option maxRecDepth 100000 in
set_option maxHeartbeats 8000000 in
theorem rnext_calls (w : World) (x : Since w) (R C i m : Nat) (h : List Bool) (a ah : Option Addr) (n c ch : Nat) (hH : BlRow w ah h) (hh : h.length = m) (hR : R ≤ 8) (hC : 0 < C ∧ C ≤ 8) (hm : ∀ k, k < m → k / C < R) (hm64 : m ≤ 64) (hi : i < m) :
    Calls Tryd.prog 59 #[.agg #[.int .i64 (R : Int), .int .i64 (C : Int), .slice a n c], .slice ah m ch, .int .i64 (i : Int)] x.w fun o w' => o = .returned (.int .i64 (orNeg (nextV C h i))) ∧ ∃ y : Since w, w' = y.w := by
  have HH := Lib.hid hH
  have Hh := Lib.hid hh
  have HO := Lib.hid (next_or (C := C) (i := i) hh)
  have Hm := Lib.hid hm
  have wi := Lib.hid (wrap_quo (hm i hi) hR)
  have hC0 : (0 : Int) < (C : Int) := by omega
  have hE0 := fun j => fstFrom_end (nxP C i h j) m
  have HF := Lib.hid (fun j k => fstFrom_no (p := nxP C i h j) (k := k) (n := m))
  have HY := Lib.hid (fun j k (hk : k < m) => fstFrom_yes (p := nxP C i h j) (k := k) (n := m) hk)
  have HE := Lib.hid hE0
  obtain ⟨F0, hF0⟩ : ∃ F0, F0 = fun k => fstFrom (nxP C i h 0) k m := ⟨_, rfl⟩
  obtain ⟨F1, hF1⟩ : ∃ F1, F1 = fun k => fstFrom (nxP C i h 1) k m := ⟨_, rfl⟩
  obtain ⟨F2, hF2⟩ : ∃ F2, F2 = fun k => fstFrom (nxP C i h 2) k m := ⟨_, rfl⟩
  have G0 := Lib.hid hF0; have G1 := Lib.hid hF1; have G2 := Lib.hid hF2
  have HO2 := Lib.hid (show orNeg (nextV C h i) = if 0 ≤ F0 0 then F0 0 else if 0 ≤ F1 0 then F1 0 else F2 0 from by rw [hF0, hF1, hF2]; exact HO.out)
  generalize orNeg (nextV C h i) = U at *
  clear hH hh hm hF0 hF1 hF2 hE0 HO
  go_enter Tryd.func59, Tryd.ntmps59
  go_upto_region 1 with fail
  have hb0_0 : ∀ y : Since (x.w.alloc (.cells #[.int .i64 (R : Int), .int .i64 (C : Int), .slice a n c] 31)), y.w.cell? ⟨x.w.heap.size, 0, none⟩ = some (.int .i64 (R : Int)) := fun y => Since.cell (by simp [go_sem]) (by first | (simp; done) | (simp; omega)) y
  have hb0_1 : ∀ y : Since (x.w.alloc (.cells #[.int .i64 (R : Int), .int .i64 (C : Int), .slice a n c] 31)), y.w.cell? ⟨x.w.heap.size, 1, none⟩ = some (.int .i64 (C : Int)) := fun y => Since.cell (by simp [go_sem]) (by first | (simp; done) | (simp; omega)) y
  have hb0_2 : ∀ y : Since (x.w.alloc (.cells #[.int .i64 (R : Int), .int .i64 (C : Int), .slice a n c] 31)), y.w.cell? ⟨x.w.heap.size, 2, none⟩ = some (.slice a n c) := fun y => Since.cell (by simp [go_sem]) (by first | (simp; done) | (simp; omega)) y
  have hf0 : ∀ (y : Since (x.w.alloc (.cells #[.int .i64 (R : Int), .int .i64 (C : Int), .slice a n c] 31))) (o : Nat), y.w.frozen? ⟨x.w.heap.size, o, none⟩ = false := fun y o => Since.free (by simp [go_sem]) (by first | (simp; done) | (simp; omega)) y
  have hWup : ∃ z : Since w, (x.w.alloc (.cells #[.int .i64 (R : Int), .int .i64 (C : Int), .slice a n c] 31)) = z.w := x.alloc _
  obtain ⟨y0, hy0⟩ := Since.refl (x.w.alloc (.cells #[.int .i64 (R : Int), .int .i64 (C : Int), .slice a n c] 31))
  have Hbx := Lib.hid (And.intro x.b.size (show x.w.heap.size + 1 = (x.w.alloc (.cells #[.int .i64 (R : Int), .int .i64 (C : Int), .slice a n c] 31)).heap.size from by simp))
  generalize hW : (x.w.alloc (.cells #[.int .i64 (R : Int), .int .i64 (C : Int), .slice a n c] 31)) = W at *
  clear hW
  generalize x.w.heap.size = bx at *
  have Hup := Lib.hid (Since.up hWup)
  rw [hy0]
  clear hy0
  replace HH := Lib.hid (HH.out.to hWup)
  clear hWup hf0
  have wm : IntKind.i64.wrap ((m : Int) - 1) = (m : Int) - 1 := IntWalk.i64_in _ (by omega)
  go_upto_region 3 with fail
  go_loopw [7, 8, 9, 10] (fun s7 s8 s9 si wr => ∃ (kk : Nat) (y : Since W), kk ≤ m ∧ si = .int .i64 ((kk : Int) - 1) ∧ wr = y.w ∧ s7 = .int .i64 (F0 kk) ∧ s8 = .int .i64 (F1 kk) ∧ s9 = .int .i64 (F2 kk)) (fun _ _ _ si _ => (intOf si + 1).toNat)
  case atStart => exact ⟨m, y0, by omega, rfl, rfl, by rw [G0.out]; simp only [HE.out 0], by rw [G1.out]; simp only [HE.out 1], by rw [G2.out]; simp only [HE.out 2]⟩
  case round =>
    obtain ⟨kk, y, hk, rfl, rfl, rfl, rfl, rfl⟩ := hrel
    by_cases h0 : kk = 0
    · subst h0
      have HU := Lib.hid HO2.out
      generalize F0 0 = A0 at *
      generalize F1 0 = A1 at *
      generalize F2 0 = A2 at *
      by_cases d0 : 0 ≤ A0
      · have HR0 := Lib.hid (show U = A0 from by rw [HU.out, if_pos d0])
        go_wp2_with fail
        go_ret
        exact ⟨ret_int HR0.out.symm, Hup.out _⟩
      · by_cases d1 : 0 ≤ A1
        · have HR0 := Lib.hid (show U = A1 from by rw [HU.out, if_neg d0, if_pos d1])
          go_wp2_with fail
          go_ret
          exact ⟨ret_int HR0.out.symm, Hup.out _⟩
        · have HR0 := Lib.hid (show U = A2 from by rw [HU.out, if_neg d0, if_neg d1])
          go_wp2_with fail
          go_ret
          exact ⟨ret_int HR0.out.symm, Hup.out _⟩
    · obtain ⟨k, rfl⟩ : ∃ k, kk = k + 1 := ⟨kk - 1, by omega⟩
      rw [show ((k + 1 : Nat) : Int) - 1 = (k : Int) by omega]
      clear h0
      have hkm : k < m := by omega
      have hk0 : (0 : Int) ≤ (k : Int) := by omega
      have hkl : (k : Int) < (m : Int) := by omega
      have wk : IntKind.i64.wrap ((k : Int) - 1) = (k : Int) - 1 := IntWalk.i64_in _ (by omega)
      obtain ⟨b2, o2, rfl, hb2, hc2'⟩ := HH.out k (by have := Hh.out; omega)
      have f1 : ∀ q : Since W, q.w.cell? ⟨b2, o2 + k, none⟩ = some (.bool (bo h k)) := fun q => Since.cell hc2' hb2 q
      clear hb2 hc2'
      have K0 := Lib.hid (show ∀ b, nxP C i h 0 k = b → F0 k = if b = true then (k : Int) else F0 (k + 1) from fun b hb => by
        rw [G0.out]; cases b
        · rw [if_neg (by decide)]; exact HF.out 0 k hb
        · rw [if_pos rfl]; exact HY.out 0 k hkm hb)
      have K1 := Lib.hid (show ∀ b, nxP C i h 1 k = b → F1 k = if b = true then (k : Int) else F1 (k + 1) from fun b hb => by
        rw [G1.out]; cases b
        · rw [if_neg (by decide)]; exact HF.out 1 k hb
        · rw [if_pos rfl]; exact HY.out 1 k hkm hb)
      have K2 := Lib.hid (show ∀ b, nxP C i h 2 k = b → F2 k = if b = true then (k : Int) else F2 (k + 1) from fun b hb => by
        rw [G2.out]; cases b
        · rw [if_neg (by decide)]; exact HF.out 2 k hb
        · rw [if_pos rfl]; exact HY.out 2 k hkm hb)
      have wq := Lib.hid (wrap_quo (Hm.out k hkm) hR)
      have V0 := Lib.hid (fitV0 C i k); have V1 := Lib.hid (fitV1 C i k)
      have P0 := Lib.hid (show nxP C i h 0 k = (!bo h k && fitV C i 0 k) from rfl)
      have P1 := Lib.hid (show nxP C i h 1 k = (!bo h k && fitV C i 1 k) from rfl)
      have P2 := Lib.hid (show nxP C i h 2 k = (!bo h k && true) from rfl)
      cases hb : bo h k
      · rw [hb] at f1
        generalize fitV C i 0 k = v0 at *
        generalize fitV C i 1 k = v1 at *
        have HK0 := Lib.hid (K0.out v0 (by rw [P0.out, hb]; rfl))
        have HK1 := Lib.hid (K1.out v1 (by rw [P1.out, hb]; rfl))
        have HK2 := Lib.hid (K2.out true (by rw [P2.out, hb]; rfl))
        clear K0 K1 K2 P0 P1 P2 HF HY HE G0 G1 G2 HO2
        go_upto_region 7 with fail
        clear f1
        change Code.wp _ _ _ _ (Since.self y.w).w
        have k0 := Since.cellTo ⟨y, rfl⟩ hb0_1
        refine wp_region_since (by kernel_rfl) (by kernel_rfl) ?_
        repeat (go_big_quiet_step (fail))
        refine wpQuiet_nil ?_
        rintro _ ⟨z, rfl⟩
        (try simp only [wq.out, wi.out, V0.out])
        obtain ⟨y2, h2⟩ := y.trans z
        rw [h2]
        clear h2 k0 wq
        cases v0
        all_goals
          go_upto_region 9 with fail
          change Code.wp _ _ _ _ (Since.self y2.w).w
          have k0 := Since.cellTo ⟨y2, rfl⟩ hb0_1
          refine wp_region_since (by kernel_rfl) (by kernel_rfl) ?_
          repeat (go_big_quiet_step (fail))
          refine wpQuiet_nil ?_
          rintro _ ⟨z2, rfl⟩
          (try simp only [V1.out])
          obtain ⟨y3, h3⟩ := y2.trans z2
          rw [h3]
          clear h3 k0
          cases v1
          all_goals
            go_wp2_with fail
            go_roundw
            case rel => exact ⟨k, y3, by omega, rfl, rfl, by rw [HK0.out]; rfl, by rw [HK1.out]; rfl, by rw [HK2.out]; rfl⟩
            case measure => simp [intOf] <;> omega
      · rw [hb] at f1
        have HK0 := Lib.hid (K0.out false (by rw [P0.out, hb]; rfl))
        have HK1 := Lib.hid (K1.out false (by rw [P1.out, hb]; rfl))
        have HK2 := Lib.hid (K2.out false (by rw [P2.out, hb]; rfl))
        clear K0 K1 K2 P0 P1 P2 HF HY HE G0 G1 G2 HO2
        go_wp2_with fail
        go_roundw
        case rel => exact ⟨k, y, by omega, rfl, rfl, by rw [HK0.out]; rfl, by rw [HK1.out]; rfl, by rw [HK2.out]; rfl⟩
        case measure => simp [intOf] <;> omega
end Go.Proofs.YtdkcclngionihaaDoor
/- The reference's Hide, walked. -/
namespace Go.Proofs.YtdkcclngionihaaDoor
open Go.RowKit

set_option linter.unusedSimpArgs false in
set_option maxRecDepth 100000 in
set_option maxHeartbeats 8000000 in
theorem rhide_calls (w : World) (x : Since w) (R C : Nat) (l : List Int) (least width : Int) (a : Option Addr) (c : Nat) (hL : IntRow w a l) (hG : SG R C l) :
    Calls Tryd.prog 34 #[.agg #[.int .i64 (R : Int), .int .i64 (C : Int), .slice a l.length c], .int .i64 least, .int .i64 width] x.w (HideRes w R C l least width) := by
  have HL := Lib.hid hL
  have HG := Lib.hid hG
  have HBad := Lib.hid (fun (h : badH least width) (y : Since w) => HideRes.bad (R := R) (C := C) (l := l) h y)
  have HNo := Lib.hid (fun (h : ¬ badH least width) (hn : hideV R C l least width = none) (y : Since w) => HideRes.no h hn y)
  have HYes := Lib.hid (fun (h : ¬ badH least width) (k : List Bool) (hn : hideV R C l least width = some k) (y : Since w) (g m : Nat) => HideRes.yes (w := w) h hn y (g := g) (m := m))
  have HD := Lib.hid (show hideV R C l least width = hideF R C l width (l.length + 1) (l.map (smallB least)) from rfl)
  generalize HideRes w R C l least width = PO at *
  generalize hideV R C l least width = HV at *
  have hm1 := hG.len
  obtain ⟨m, hm⟩ : ∃ m, m = l.length := ⟨_, rfl⟩
  have HK := Lib.hid hG.chk
  have HT := Lib.hid (fun (W : World) (y : Since W) h => show Calls Tryd.prog 39 #[.agg #[.int .i64 (R : Int), .int .i64 (C : Int), .slice a m c]] y.w (fun o w' => o = .returned (.int .i64 0) ∧ ∃ y : Since W, w' = y.w) from by
    have := rtcheck_calls W y ⟨R, C, l⟩ a c h (by show l.length ≤ _; omega)
    rw [HK.out] at this
    rw [hm]; exact this)
  have HN := Lib.hid (fun (W : World) (y : Since W) h => rneg_calls W y R C l a c h hG)
  have HS := Lib.hid (fun (W : World) (y : Since W) h => rsum_calls W y R C l a c h hG)
  clear HK
  have HU := Lib.hid (fun (w : World) (x : Since w) (h : List Bool) (ah : Option Addr) (ch : Nat) hL hH hh => runsf_calls w x R C l h width a ah c ch hL hH hG hh)
  have HX := Lib.hid (fun (w : World) (x : Since w) (h : List Bool) (ah : Option Addr) (ch i : Nat) hH hh hi => rnext_calls w x R C i m h a ah m c ch hH hh hG.r.2 ⟨hG.c.1, hG.c.2⟩ (fun k hk => (hG.cell (i := k) (by omega)).1) (by omega) hi)
  rw [← hm] at HN HS HU
  rw [← hm]
  have hm64 : m ≤ 64 := by omega
  have Hm := Lib.hid hm
  clear hL hG hm hm1
  go_enter Tryd.func34, Tryd.ntmps34
  go_upto_region 1 with fail
  have hb0_0 : ∀ y : Since (x.w.alloc (.cells #[.int .i64 (R : Int), .int .i64 (C : Int), .slice a m c] 31)), y.w.cell? ⟨x.w.heap.size, 0, none⟩ = some (.int .i64 (R : Int)) := fun y => Since.cell (by simp [go_sem]) (by first | (simp; done) | (simp; omega)) y
  have hb0_1 : ∀ y : Since (x.w.alloc (.cells #[.int .i64 (R : Int), .int .i64 (C : Int), .slice a m c] 31)), y.w.cell? ⟨x.w.heap.size, 1, none⟩ = some (.int .i64 (C : Int)) := fun y => Since.cell (by simp [go_sem]) (by first | (simp; done) | (simp; omega)) y
  have hb0_2 : ∀ y : Since (x.w.alloc (.cells #[.int .i64 (R : Int), .int .i64 (C : Int), .slice a m c] 31)), y.w.cell? ⟨x.w.heap.size, 2, none⟩ = some (.slice a m c) := fun y => Since.cell (by simp [go_sem]) (by first | (simp; done) | (simp; omega)) y
  have hf0 : ∀ (y : Since (x.w.alloc (.cells #[.int .i64 (R : Int), .int .i64 (C : Int), .slice a m c] 31))) (o : Nat), y.w.frozen? ⟨x.w.heap.size, o, none⟩ = false := fun y o => Since.free (by simp [go_sem]) (by first | (simp; done) | (simp; omega)) y
  have hWup : ∃ z : Since w, (x.w.alloc (.cells #[.int .i64 (R : Int), .int .i64 (C : Int), .slice a m c] 31)) = z.w := x.alloc _
  obtain ⟨y0, hy0⟩ := Since.refl (x.w.alloc (.cells #[.int .i64 (R : Int), .int .i64 (C : Int), .slice a m c] 31))
  have Hbx := Lib.hid (And.intro x.b.size (show x.w.heap.size + 1 = (x.w.alloc (.cells #[.int .i64 (R : Int), .int .i64 (C : Int), .slice a m c] 31)).heap.size from by simp))
  generalize hW : (x.w.alloc (.cells #[.int .i64 (R : Int), .int .i64 (C : Int), .slice a m c] 31)) = W at *
  clear hW
  generalize x.w.heap.size = bx at *
  have Hup := Lib.hid (Since.up hWup)
  rw [hy0]
  clear hy0
  replace HL := Lib.hid (HL.out.to hWup)
  clear hWup hf0
  have HT1 := Lib.hid (fun z : Since W => HT.out W z HL.out)
  have HN1 := Lib.hid (fun z : Since W => HN.out W z HL.out)
  have HS1 := Lib.hid (fun z : Since W => HS.out W z HL.out)
  clear HT HN HS
  go_upto_region 8 with (first | (go_at_call 39; ((with_reducible refine (HT1.out _).mono ?_); rintro _ _ ⟨rfl, z, rfl⟩)) | (go_at_call 56; ((with_reducible refine (HN1.out _).mono ?_); rintro _ _ ⟨rfl, z, rfl⟩)) | (go_at_call 57; ((with_reducible refine (HS1.out _).mono ?_); rintro _ _ ⟨⟨S, hS, rfl⟩, y1, rfl⟩; have hS2 : ¬ (65536 : Int) < S := by omega)))
  clear HT1 HN1 HS1
  by_cases hbad : badH least width
  · have HB := Lib.hid (fun y : Since W => show PO (.returned (.tuple #[.slice none 0 0, .int .i64 1])) y.w from by obtain ⟨z, hz⟩ := Hup.out y; rw [hz]; exact HBad.out hbad z)
    have hd : (decide (least < 1) || decide (1000000 < least) || decide (width < 0) || decide (65536 < width)) = true := by unfold badH at hbad; simp only [Bool.or_eq_true, decide_eq_true_eq]; omega
    clear hbad HBad HNo HYes
    go_wp2_with fail
    all_goals exact HB.out y1
  · have HNo2 := Lib.hid (HNo.out hbad)
    have HYes2 := Lib.hid (HYes.out hbad)
    clear HBad HNo HYes
    obtain ⟨h1, h2, h3, h4⟩ : 1 ≤ least ∧ least ≤ 1000000 ∧ 0 ≤ width ∧ width ≤ 65536 := by unfold badH at hbad; omega
    clear hbad
    go_upto_region 10 with fail
    have hmk := fun q : World => make1_run sBoolF rfl m (by omega) (by omega) q
    go_upto_region 11 with fail
    obtain ⟨y2, hy2⟩ := y1.alloc (.cells (List.replicate m (Value.bool false)).toArray 4)
    have hb := BoxIs.new y1.w (List.replicate m (Value.bool false)) 4
    have hgW : W.heap.size ≤ y1.w.heap.size := y1.b.size
    rw [List.toArray_replicate] at hy2 hb
    rw [hy2] at hb ⊢
    have hb2 : BoxIs y2.w y1.w.heap.size ((List.replicate m false).map Value.bool) := by rw [List.map_replicate]; exact hb
    have HB := Lib.hid hb2
    clear hb hb2 hy2
    generalize y1.w.heap.size = gs at *
    go_upto_region 12 with fail
    go_loopw [10] (fun si wr => ∃ (k : Nat) (h : List Bool) (y : Since W), k ≤ m ∧ si = .int .i64 (k : Int) ∧ wr = y.w ∧ h.length = m ∧ BoxIs y.w gs (h.map .bool) ∧ ∀ j, j < k → bo h j = smallB least (at0 l j)) (fun si _ => m - (intOf si).toNat)
    case atStart => exact ⟨0, _, y2, by omega, rfl, rfl, by simp, HB.out, fun j hj => by omega⟩
    case round =>
      clear HB
      obtain ⟨k, h, y, hk, rfl, rfl, hl, hB, hs⟩ := hrel
      have HB := Lib.hid hB; have Hs := Lib.hid hs; have Hl := Lib.hid hl
      clear hB hs hl
      by_cases hlt : k < m
      · have hk0 : (0 : Int) ≤ (k : Int) := by omega
        have hkl : (k : Int) < (m : Int) := by omega
        obtain ⟨b1, o1, rfl, hb1, hc1'⟩ := HL.out k (by have := Hm.out; omega)
        have f0 : y.w.cell? ⟨b1, o1 + k, none⟩ = some (.int .i64 (at0 l k)) := Since.cell hc1' hb1 y
        clear hb1 hc1'
        have f1 := HB.out.c k (.bool (bo h k)) (by rw [List.getElem?_map, List.getElem?_eq_getElem (by have := Hl.out; omega)]; simp [bo, List.getD_eq_getElem?_getD, List.getElem?_eq_getElem (show k < h.length by have := Hl.out; omega)])
        have f2 := HB.out.f
        have HS := Lib.hid (show ∀ b : Bool, smallB least (at0 l k) = b → ∃ z : Since W, y.w.setCell ⟨gs, k, none⟩ (.bool b) = z.w ∧ (h.set k b).length = m ∧ BoxIs z.w gs ((h.set k b).map .bool) ∧ ∀ j, j < k + 1 → bo (h.set k b) j = smallB least (at0 l j) from fun b hb => by
          obtain ⟨z, hz⟩ := y.set ⟨gs, k, none⟩ hgW (.bool b)
          have := HB.out.setj (j := k) (by rw [List.length_map, Hl.out]; exact hlt) (.bool b)
          rw [hz] at this
          refine ⟨z, hz, by rw [List.length_set]; exact Hl.out, by rw [List.map_set]; exact this, fun j hj => ?_⟩
          rw [bo_set _ _ _ _ (by rw [Hl.out]; exact hlt)]
          by_cases e : j = k
          · rw [if_pos e, e, hb]
          · rw [if_neg e]; exact Hs.out j (by omega))
        have Hd := Lib.hid (show smallB least (at0 l k) = (decide (1 ≤ at0 l k) && decide (at0 l k < least)) from rfl)
        generalize at0 l k = e at *
        by_cases d1 : 1 ≤ e
        · by_cases d2 : e < least
          · obtain ⟨z, hz, hz2, hz3, hz4⟩ := HS.out true (by rw [Hd.out, decide_eq_true d1, decide_eq_true d2]; rfl)
            have H2 := Lib.hid hz2; have H3 := Lib.hid hz3; have H4 := Lib.hid hz4
            clear hz2 hz3 hz4 HS Hd HB Hs
            go_wp2_with fail
            (try rw [hz])
            go_roundw
            case rel => exact ⟨k + 1, _, z, by omega, by go_num, rfl, H2.out, H3.out, H4.out⟩
            case measure => simp [intOf] <;> omega
          · obtain ⟨z, hz, hz2, hz3, hz4⟩ := HS.out false (by rw [Hd.out, decide_eq_false d2, Bool.and_false])
            have H2 := Lib.hid hz2; have H3 := Lib.hid hz3; have H4 := Lib.hid hz4
            clear hz2 hz3 hz4 HS Hd HB Hs
            go_wp2_with fail
            (try rw [hz])
            go_roundw
            case rel => exact ⟨k + 1, _, z, by omega, by go_num, rfl, H2.out, H3.out, H4.out⟩
            case measure => simp [intOf] <;> omega
        · obtain ⟨z, hz, hz2, hz3, hz4⟩ := HS.out false (by rw [Hd.out, decide_eq_false d1, Bool.false_and])
          have H2 := Lib.hid hz2; have H3 := Lib.hid hz3; have H4 := Lib.hid hz4
          clear hz2 hz3 hz4 HS Hd HB Hs
          go_wp2_with fail
          (try rw [hz])
          go_roundw
          case rel => exact ⟨k + 1, _, z, by omega, by go_num, rfl, H2.out, H3.out, H4.out⟩
          case measure => simp [intOf] <;> omega
      · obtain rfl : k = m := by omega
        have HE := Lib.hid (show h = l.map (smallB least) from bo_ext (by rw [Hl.out, Hm.out, List.length_map]) fun j hj => by
          rw [bo_map _ _ _ (by have := Hl.out; have := Hm.out; omega)]
          exact Hs.out j (by have := Hl.out; omega))
        clear Hs
        go_upto_region 15 with fail
        obtain ⟨gh, hgh0⟩ : ∃ gh, gh = gs := ⟨_, rfl⟩
        obtain ⟨y4, hy4⟩ : ∃ y4, y4 = y := ⟨_, rfl⟩
        have HB4 := Lib.hid (show BoxIs y4.w gh (h.map .bool) from by rw [hy4, hgh0]; exact HB.out)
        have hgh : W.heap.size ≤ gh := by rw [hgh0]; exact hgW
        subst hgh0
        rw [← hy4]
        clear HB hmk hy4
        have HH := Lib.hid (show HV = hideF R C l width (k + 1) h ∧ cntF h < k + 1 from ⟨by rw [HD.out, HE.out, Hm.out], by have := cntF_le h; have := Hl.out; omega⟩)
        have HEx := Lib.hid (show ∃ g : List Bool, HV = hideF R C l width (k + 1) g ∧ cntF g < k + 1 ∧ g.length = k ∧ BoxIs y4.w gh (g.map .bool) from ⟨h, HH.out.1, HH.out.2, Hl.out, HB4.out⟩)
        clear HH HB4 HE Hl HD h
        obtain ⟨g, e1, e2, e3, e4⟩ := HEx.out
        have HB4 := Lib.hid e4
        have hU4 := HU.out y4.w (Since.self y4.w) g (some ⟨gh, 0, none⟩) k (HL.out.to ⟨y4, rfl⟩) HB4.out.bools e3
        rw [e3] at hU4
        have H4 := Lib.hid (show Calls Tryd.prog 58 #[.agg #[.int .i64 (R : Int), .int .i64 (C : Int), .slice a k c], .slice (some ⟨gh, 0, none⟩) k k, .int .i64 width] y4.w (fun o w' => o = .returned (.int .i64 (orNeg (unsV R C l g width))) ∧ ∃ y : Since y4.w, w' = y.w) from hU4)
        have HG4 := Lib.hid (And.intro e1 (And.intro e2 e3))
        clear HEx e1 e2 e3 e4 hU4
        go_upto_region 16 with (go_at_call 58; ((with_reducible refine H4.out.mono ?_); rintro _ _ ⟨rfl, y5, rfl⟩))
        have HEx := Lib.hid (show ∃ (f : Nat) (h : List Bool) (y : Since W), Value.int .i64 (orNeg (unsV R C l g width)) = .int .i64 (orNeg (unsV R C l h width)) ∧ y5.w = y.w ∧ h.length = k ∧ BoxIs y.w gh (h.map .bool) ∧ HV = hideF R C l width f h ∧ cntF h < f from by
          obtain ⟨z, hz⟩ := y4.trans y5
          have hb := HB4.out.since y5
          rw [hz] at hb
          exact ⟨_, g, z, rfl, hz, HG4.out.2.2, hb, HG4.out.1, HG4.out.2.1⟩)
        clear HB4 H4 HG4
        generalize orNeg (unsV R C l g width) = U0 at *
        go_loopw [11] (fun s11 wr => ∃ (f : Nat) (h : List Bool) (y : Since W), s11 = .int .i64 (orNeg (unsV R C l h width)) ∧ wr = y.w ∧ h.length = k ∧ BoxIs y.w gh (h.map .bool) ∧ HV = hideF R C l width f h ∧ cntF h < f) (fun _ wr => openF wr gh k)
        case atStart => exact HEx.out
        case round =>
          clear HEx
          obtain ⟨f, h, y, rfl, rfl, hl, hB, hf, hcnt⟩ := hrel
          have HB := Lib.hid hB; have Hf := Lib.hid hf; have Hl := Lib.hid hl; have Hc := Lib.hid hcnt
          clear hB hf hl hcnt
          obtain ⟨f, rfl⟩ : ∃ f', f = f' + 1 := ⟨f - 1, by have := Hc.out; omega⟩
          cases hu : unsV R C l h width with
          | none =>
            have HF := Lib.hid (show HV = some h by rw [Hf.out, hideF, hu])
            have HEnd := Lib.hid (show PO (.returned (.tuple #[.slice (some ⟨gh, 0, none⟩) k k, .int .i64 0])) y.w from by
              obtain ⟨z2, hz2⟩ := Hup.out y
              have hb := HB.out
              rw [hz2] at hb ⊢
              exact HYes2.out h HF.out z2 gh k Hm.out hb (by have := Hbx.out; omega))
            clear HF HNo2 HYes2 HU HX Hf Hc
            rw [show orNeg none = -1 from rfl]
            go_wp2_with fail
            exact HEnd.out
          | some i =>
            have hi := (fstP_mem hu).1
            rw [Hl.out] at hi
            have hi0 : (0 : Int) ≤ (i : Int) := by omega
            rw [show orNeg (some i) = (i : Int) from rfl]
            have hX2 := HX.out y.w (Since.self y.w) h (some ⟨gh, 0, none⟩) k i HB.out.bools Hl.out hi
            have H2 := Lib.hid (show Calls Tryd.prog 59 #[.agg #[.int .i64 (R : Int), .int .i64 (C : Int), .slice a k c], .slice (some ⟨gh, 0, none⟩) k k, .int .i64 (i : Int)] y.w (fun o w' => o = .returned (.int .i64 (orNeg (nextV C h i))) ∧ ∃ z : Since y.w, w' = z.w) from hX2)
            clear hX2
            cases hn : nextV C h i with
            | none =>
              have HF := Lib.hid (show HV = none by rw [Hf.out, hideF_no hu hn])
              rw [hn] at H2
              have HEnd := Lib.hid (fun y2 : Since y.w => show PO (.returned (.tuple #[.slice none 0 0, .int .i64 10])) y2.w from by
                obtain ⟨z, hz⟩ := y.trans y2
                obtain ⟨z2, hz2⟩ := Hup.out z
                rw [hz, hz2]; exact HNo2.out HF.out z2)
              clear HF HNo2 HYes2 HU HX Hf Hc
              go_wp2_with (go_at_call 59; ((with_reducible refine H2.out.mono ?_); rintro _ _ ⟨rfl, y3, rfl⟩; rw [show orNeg none = -1 from rfl]))
              exact HEnd.out y3
            | some q =>
              obtain ⟨hq, hbq⟩ := nextV_some hn
              rw [hn] at H2
              have HF := Lib.hid (show HV = hideF R C l width f (h.set q true) by rw [Hf.out, hideF_step hu hn])
              have HC2 := Lib.hid (show cntF (h.set q true) < cntF h from cntF_set hq hbq)
              have HO0 := Lib.hid (show openF y.w gh k = cntF h from openF_box HB.out Hl.out)
              have hqk : q < k := by have := Hl.out; omega
              have hq0 : (0 : Int) ≤ (q : Int) := by omega
              have hqi : (q : Int) < (k : Int) := by omega
              go_upto_region 21 with (go_at_call 59; ((with_reducible refine H2.out.mono ?_); rintro _ _ ⟨rfl, y3, rfl⟩; rw [show orNeg (some q) = (q : Int) from rfl]))
              obtain ⟨z, hz⟩ := y.trans y3
              have hb3 := HB.out.since y3
              rw [hz] at hb3 ⊢
              have f0 := hb3.c q (.bool (bo h q)) (by rw [List.getElem?_map, List.getElem?_eq_getElem hq]; simp [bo, List.getD_eq_getElem?_getD, List.getElem?_eq_getElem hq])
              have f1 := hb3.f
              have hb4 := hb3.setj (j := q) (by rw [List.length_map]; exact hq) (.bool true)
              obtain ⟨z2, hz2⟩ := z.set ⟨gh, q, none⟩ hgh (.bool true)
              rw [hz2, ← List.map_set] at hb4
              have HB4 := Lib.hid hb4; have HZ2 := Lib.hid hz2
              clear hb3 hb4 hz hz2 H2
              go_upto_region 17 with fail
              rw [HZ2.out]
              clear f0 f1 HZ2
              have hU5 := HU.out z2.w (Since.self z2.w) (h.set q true) (some ⟨gh, 0, none⟩) k (HL.out.to ⟨z2, rfl⟩) HB4.out.bools (by rw [List.length_set]; exact Hl.out)
              rw [List.length_set, Hl.out] at hU5
              have H5 := Lib.hid (show Calls Tryd.prog 58 #[.agg #[.int .i64 (R : Int), .int .i64 (C : Int), .slice a k c], .slice (some ⟨gh, 0, none⟩) k k, .int .i64 width] z2.w (fun o w' => o = .returned (.int .i64 (orNeg (unsV R C l (h.set q true) width))) ∧ ∃ y : Since z2.w, w' = y.w) from hU5)
              have HEx := Lib.hid (fun y6 : Since z2.w => show ∃ y7 : Since W, y6.w = y7.w ∧ BoxIs y7.w gh ((h.set q true).map .bool) ∧ openF y6.w gh k < openF y.w gh k from by
                obtain ⟨z, hz⟩ := z2.trans y6
                have hb := HB4.out.since y6
                refine ⟨z, hz, hz ▸ hb, ?_⟩
                rw [openF_box hb (by rw [List.length_set]; exact Hl.out), HO0.out]; exact HC2.out)
              clear hU5 HNo2 HYes2 HU HX Hf HB HB4
              have hzb := Since.cellTo ⟨z2, rfl⟩ hb0_0
              go_wp2_with (go_at_call 58; ((with_reducible refine H5.out.mono ?_); rintro _ _ ⟨rfl, y6, rfl⟩))
              obtain ⟨y7, h7, hb7, hm7⟩ := HEx.out y6
              have HB7 := Lib.hid hb7; have HM7 := Lib.hid hm7; have H7 := Lib.hid h7
              clear hb7 hm7 h7
              go_roundw
              case rel => exact ⟨f, h.set q true, y7, rfl, H7.out, by rw [List.length_set]; exact Hl.out, HB7.out, HF.out, by have := HC2.out; have := Hc.out; omega⟩
              case measure => exact HM7.out
end Go.Proofs.YtdkcclngionihaaDoor
/- Copies of numbers, walked. -/
namespace Go.Proofs.YtdkcclngionihaaDoor
open Go.RowKit

/-- one number as an element -/
def intCs (z : Int) : List Value := [.int .i64 z]
theorem intCs_len (z : Int) : (intCs z).length = 1 := rfl
theorem intCs_one (z : Int) : ∀ u ∈ intCs z, u.oneCell' = true := by
  intro u hu
  simp [intCs] at hu
  subst hu; rfl
theorem flat_ints : ∀ l : List Int, flat intCs l = l.map (.int .i64)
  | [] => rfl
  | z :: l => by
    have := flat_ints l
    simp only [flat, List.flatMap_cons, List.map_cons] at this ⊢
    rw [this]; rfl
theorem els_ints {w : World} {a : Option Addr} {l : List Int} (h : IntRow w a l) : Els intCs 1 w a l := by
  intro i x hx
  have hi := (List.getElem?_eq_some_iff.1 hx).1
  obtain ⟨b, o, h1, h2, h3⟩ := h i hi
  refine ⟨b, o, h1, h2, fun j v hv => ?_⟩
  have hj : j = 0 := by have := (List.getElem?_eq_some_iff.1 hv).1; simpa [intCs] using this
  subst hj
  have hv' : v = .int .i64 x := by simpa [intCs] using hv.symm
  rw [hv', Nat.mul_one, Nat.add_zero, h3]
  simp [at0, List.getD_eq_getElem?_getD, hx]
end Go.Proofs.YtdkcclngionihaaDoor
/- Releases with noise, the program: Noisy, walked. -/
namespace Go.Proofs.YtdkcclngionihaaDoor
open Go.RowKit

end Go.Proofs.YtdkcclngionihaaDoor
/- Releases with noise, the reference: Noisy, walked. Typed after RlN2. -/
namespace Go.Proofs.YtdkcclngionihaaDoor
open Go.RowKit

theorem rl_tab {zs : List Int} {size : Int} {R : List Ride} {f t each : Int} (h : tabE zs size R f t each = 0) (hl : R.length ≤ 1024) :
    ∃ (n : Nat) (l : List Int), size = (n : Int) ∧ tabV zs size R f t each = ⟨n, n, l⟩ ∧ SG n n l := by
  obtain ⟨n, hn, hV, hG⟩ := tab_good h hl
  exact ⟨n, _, hn, hV, hG⟩
end Go.Proofs.YtdkcclngionihaaDoor
/- The reference's sums of rows and columns, walked. -/
namespace Go.Proofs.YtdkcclngionihaaDoor
open Go.RowKit

theorem idx_div {C q p : Nat} (hp : p < C) : (q * C + p) / C = q ∧ (q * C + p) % C = p := by
  refine ⟨by rw [Nat.mul_comm, Nat.mul_add_div (by omega), Nat.div_eq_of_lt hp]; rfl, ?_⟩
  rw [Nat.mul_comm, Nat.mul_add_mod, Nat.mod_eq_of_lt hp]
theorem idx_lt {R C q p : Nat} (hq : q < R) (hp : p < C) : q * C + p < R * C := by
  have := Nat.mul_le_mul_right C (show q + 1 ≤ R from hq)
  rw [Nat.add_mul] at this
  omega
theorem box_ints {w : World} {g : Nat} {F : List Int} (h : BoxIs w g (F.map (.int .i64))) : IntRow w (some ⟨g, 0, none⟩) F := fun i hi => ⟨g, 0, rfl, h.lt, by rw [Nat.zero_add]; exact h.atI hi⟩
theorem rowL_in {R C : Nat} {l : List Int} (hG : SG R C l) {k q : Nat} (hk : k ≤ l.length) (hq : q < R) : 0 ≤ at0 (rowL R C l k) q ∧ at0 (rowL R C l k) q ≤ 65536 := by
  unfold rowL; rw [at0_map _ _ _ hq]; exact part_in hG.z hG.s (fun i => i / C = q) hk
theorem colL_in {R C : Nat} {l : List Int} (hG : SG R C l) {k q : Nat} (hk : k ≤ l.length) (hq : q < C) : 0 ≤ at0 (colL C l k) q ∧ at0 (colL C l k) q ≤ 65536 := by
  unfold colL; rw [at0_map _ _ _ hq]; exact part_in hG.z hG.s (fun i => i % C = q) hk
set_option linter.unusedSimpArgs false in
set_option maxRecDepth 100000 in
set_option maxHeartbeats 16000000 in
theorem rsums_calls (w : World) (x : Since w) (R C : Nat) (l : List Int) (a : Option Addr) (c : Nat) (hL : IntRow w a l) (hG : SG R C l) :
    Calls Tryd.prog 35 #[.agg #[.int .i64 (R : Int), .int .i64 (C : Int), .slice a l.length c]] x.w fun o w' => ∃ (a1 a2 : Option Addr) (y : Since w), o = .returned (.tuple #[.slice a1 R R, .slice a2 C C]) ∧ w' = y.w ∧ IntRow y.w a1 (rowL R C l l.length) ∧ IntRow y.w a2 (colL C l l.length) ∧ ∀ b, a1 = some b ∨ a2 = some b → w.heap.size ≤ b.block := by
  have HL := Lib.hid hL
  have HG := Lib.hid hG
  have hm1 := hG.len
  obtain ⟨hr0, hr1⟩ := hG.r
  obtain ⟨hc0, hc1⟩ := hG.c
  have hRC := hG.n
  obtain ⟨m, hm⟩ : ∃ m, m = l.length := ⟨_, rfl⟩
  rw [← hm]
  rw [← hm] at hm1 hRC
  have Hm := Lib.hid hm
  have HRC := Lib.hid hRC
  clear hL hG hm hRC
  go_enter Tryd.func35, Tryd.ntmps35
  go_upto_region 1 with fail
  have hb0_0 : ∀ y : Since (x.w.alloc (.cells #[.int .i64 (R : Int), .int .i64 (C : Int), .slice a m c] 31)), y.w.cell? ⟨x.w.heap.size, 0, none⟩ = some (.int .i64 (R : Int)) := fun y => Since.cell (by simp [go_sem]) (by first | (simp; done) | (simp; omega)) y
  have hb0_1 : ∀ y : Since (x.w.alloc (.cells #[.int .i64 (R : Int), .int .i64 (C : Int), .slice a m c] 31)), y.w.cell? ⟨x.w.heap.size, 1, none⟩ = some (.int .i64 (C : Int)) := fun y => Since.cell (by simp [go_sem]) (by first | (simp; done) | (simp; omega)) y
  have hb0_2 : ∀ y : Since (x.w.alloc (.cells #[.int .i64 (R : Int), .int .i64 (C : Int), .slice a m c] 31)), y.w.cell? ⟨x.w.heap.size, 2, none⟩ = some (.slice a m c) := fun y => Since.cell (by simp [go_sem]) (by first | (simp; done) | (simp; omega)) y
  have hf0 : ∀ (y : Since (x.w.alloc (.cells #[.int .i64 (R : Int), .int .i64 (C : Int), .slice a m c] 31))) (o : Nat), y.w.frozen? ⟨x.w.heap.size, o, none⟩ = false := fun y o => Since.free (by simp [go_sem]) (by first | (simp; done) | (simp; omega)) y
  have hWup : ∃ z : Since w, (x.w.alloc (.cells #[.int .i64 (R : Int), .int .i64 (C : Int), .slice a m c] 31)) = z.w := x.alloc _
  obtain ⟨y0, hy0⟩ := Since.refl (x.w.alloc (.cells #[.int .i64 (R : Int), .int .i64 (C : Int), .slice a m c] 31))
  have Hbx := Lib.hid (And.intro x.b.size (show x.w.heap.size + 1 = (x.w.alloc (.cells #[.int .i64 (R : Int), .int .i64 (C : Int), .slice a m c] 31)).heap.size from by simp))
  generalize hW : (x.w.alloc (.cells #[.int .i64 (R : Int), .int .i64 (C : Int), .slice a m c] 31)) = W at *
  clear hW
  generalize x.w.heap.size = bx at *
  have Hup := Lib.hid (Since.up hWup)
  rw [hy0]
  clear hy0
  replace HL := Lib.hid (HL.out.to hWup)
  clear hWup hf0
  have hmk1 := fun q : World => make1_run sIntF rfl R (by omega) (by omega) q
  have hmk2 := fun q : World => make1_run sIntF rfl C (by omega) (by omega) q
  go_upto_region 2 with fail
  have hgr : W.heap.size ≤ y0.w.heap.size := y0.b.size
  have hB := BoxIs.new y0.w (List.replicate R (Value.int .i64 0)) 3
  obtain ⟨y1, e1⟩ := y0.alloc (.cells (List.replicate R (Value.int .i64 0)).toArray 3)
  rw [List.toArray_replicate] at hB e1
  rw [e1] at hB ⊢
  rw [show List.replicate R (Value.int .i64 0) = (rowL R C l 0).map (.int .i64) from by rw [← rowL_zero, List.map_replicate]] at hB
  generalize y0.w.heap.size = gr at *
  clear hmk1 e1
  go_upto_region 3 with fail
  have hgc : W.heap.size ≤ y1.w.heap.size := y1.b.size
  have hne : gr ≠ y1.w.heap.size := by have := hB.lt; omega
  have hB2 := BoxIs.new y1.w (List.replicate C (Value.int .i64 0)) 3
  have hB1 := hB.up (.cells (List.replicate C (Value.int .i64 0)).toArray 3)
  obtain ⟨y2, e2⟩ := y1.alloc (.cells (List.replicate C (Value.int .i64 0)).toArray 3)
  rw [List.toArray_replicate] at hB2 hB1 e2
  rw [e2] at hB2 hB1 ⊢
  rw [show List.replicate C (Value.int .i64 0) = (colL C l 0).map (.int .i64) from by rw [← colL_zero, List.map_replicate]] at hB2
  generalize y1.w.heap.size = gc at *
  have HR0 := Lib.hid hB1; have HC0 := Lib.hid hB2
  clear hmk2 e2 hB hB1 hB2
  go_upto_region 4 with fail
  go_loopw [6] (fun si wr => ∃ (q : Nat) (y : Since W), q ≤ R ∧ si = .int .i64 (q : Int) ∧ wr = y.w ∧ BoxIs y.w gr ((rowL R C l (q * C)).map (.int .i64)) ∧ BoxIs y.w gc ((colL C l (q * C)).map (.int .i64))) (fun si _ => R - (intOf si).toNat)
  case atStart => exact ⟨0, y2, by omega, rfl, rfl, by rw [Nat.zero_mul]; exact HR0.out, by rw [Nat.zero_mul]; exact HC0.out⟩
  case round =>
    clear HR0 HC0
    obtain ⟨q, y, hq, rfl, rfl, hBr, hBc⟩ := hrel
    have HBr := Lib.hid hBr; have HBc := Lib.hid hBc
    clear hBr hBc
    by_cases hlt : q < R
    · have hq0 : (0 : Int) ≤ (q : Int) := by omega
      have hql : (q : Int) < (R : Int) := by omega
      go_upto_region 7 with fail
      go_loopw [7] (fun si wr => ∃ (p : Nat) (y : Since W), p ≤ C ∧ si = .int .i64 (p : Int) ∧ wr = y.w ∧ BoxIs y.w gr ((rowL R C l (q * C + p)).map (.int .i64)) ∧ BoxIs y.w gc ((colL C l (q * C + p)).map (.int .i64))) (fun si _ => C - (intOf si).toNat)
      case atStart => exact ⟨0, y, by omega, rfl, rfl, HBr.out, HBc.out⟩
      case round =>
        clear HBr HBc
        obtain ⟨p, y, hp, rfl, rfl, hBr, hBc⟩ := hrel
        have HBr := Lib.hid hBr; have HBc := Lib.hid hBc
        clear hBr hBc
        by_cases hpl : p < C
        · have hp0 : (0 : Int) ≤ (p : Int) := by omega
          have hpi : (p : Int) < (C : Int) := by omega
          have hjm := idx_lt hlt hpl
          obtain ⟨hjd, hjr⟩ := idx_div (q := q) hpl
          obtain ⟨iC, hiC⟩ : ∃ iC, iC = q * C := ⟨_, rfl⟩
          obtain ⟨j, hj⟩ : ∃ j, j = iC + p := ⟨_, rfl⟩
          have hJ : q * C + p = j := by rw [hj, hiC]
          have HJ := Lib.hid (show q * C + (p + 1) = j + 1 by omega)
          rw [hJ] at hjm hjd hjr HBr HBc
          have hjl : j < m := by rw [HRC.out]; exact hjm
          have hi64 : iC ≤ 64 := by omega
          have hqC : (q : Int) * (C : Int) = (iC : Int) := by rw [hiC, Int.natCast_mul]
          have wq1 : IntKind.i64.wrap ((q : Int) * (C : Int)) = (iC : Int) := by rw [hqC]; exact IntWalk.i64_in _ (by omega)
          have wq2 : IntKind.i64.wrap ((iC : Int) + (p : Int)) = (j : Int) := by rw [hj, Int.natCast_add]; exact IntWalk.i64_in _ (by omega)
          have hj0 : (0 : Int) ≤ (j : Int) := by omega
          have hji : (j : Int) < (m : Int) := by omega
          obtain ⟨b1, o1, rfl, hb1, hc1'⟩ := HL.out j (by have := Hm.out; omega)
          have f0 : ∀ q : Since W, q.w.cell? ⟨b1, o1 + j, none⟩ = some (.int .i64 (at0 l j)) := fun q => Since.cell hc1' hb1 q
          clear hc1'
          obtain ⟨r0, r1⟩ := rowL_in HG.out (k := j) (by rw [← Hm.out]; omega) hlt
          obtain ⟨c0, c1⟩ := colL_in HG.out (k := j) (by rw [← Hm.out]; omega) hpl
          obtain ⟨_, _, e0, e1⟩ := HG.out.cell (i := j) (by rw [← Hm.out]; exact hjl)
          have HRs := Lib.hid (rowL_step (R := R) (C := C) (l := l) (k := j) (by rw [hjd]; exact hlt))
          have HCs := Lib.hid (colL_step (C := C) (l := l) (k := j) (by rw [hjr]; exact hpl))
          rw [hjd] at HRs
          rw [hjr] at HCs
          have s1' := HBr.out.atI (i := q) (by rw [rowL_len]; exact hlt)
          have s3' := HBc.out.atI (i := p) (by rw [colL_len]; exact hpl)
          obtain ⟨z4, hz4⟩ : ∃ q : Since W, y.w.drew = q.w := IsSince.drew y
          have hN4 := HBr.out.drew
          have hB4 := HBc.out.drew
          rw [hz4] at hN4 hB4
          obtain ⟨y5, h5⟩ := z4.set ⟨gr, q, none⟩ hgr (.int .i64 (at0 (rowL R C l j) q + at0 l j))
          have hN5 := hN4.setI (i := q) (by rw [rowL_len]; exact hlt) (at0 (rowL R C l j) q + at0 l j)
          have hB5 := hB4.far ⟨gr, q, none⟩ (.int .i64 (at0 (rowL R C l j) q + at0 l j)) (Ne.symm hne)
          rw [h5] at hN5 hB5
          rw [HRs.out] at hN5
          obtain ⟨z6, hz6⟩ : ∃ q : Since W, y5.w.drew = q.w := IsSince.drew y5
          have hN6 := hN5.drew
          have hB6 := hB5.drew
          rw [hz6] at hN6 hB6
          obtain ⟨y7, h7⟩ := z6.set ⟨gc, p, none⟩ hgc (.int .i64 (at0 (colL C l j) p + at0 l j))
          have hB7 := hB6.setI (i := p) (by rw [colL_len]; exact hpl) (at0 (colL C l j) p + at0 l j)
          have hN7 := hN6.far ⟨gc, p, none⟩ (.int .i64 (at0 (colL C l j) p + at0 l j)) hne
          rw [h7] at hB7 hN7
          rw [HCs.out] at hB7
          have s1 := hN4.atI (i := q) (by rw [rowL_len]; exact hlt)
          have s2 := hN4.f
          have s3 := hB6.atI (i := p) (by rw [colL_len]; exact hpl)
          have s4 := hB6.f
          have HN7 := Lib.hid hN7; have HB7 := Lib.hid hB7; have H5 := Lib.hid h5; have H7 := Lib.hid h7; have Hz4 := Lib.hid hz4; have Hz6 := Lib.hid hz6
          clear hN4 hN5 hN6 hN7 hB4 hB5 hB6 hB7 h5 h7 hz4 hz6 HRs HCs HBr HBc s1' s3' hjd hjr hJ hj hiC hqC
          have hqR : (q : Int) < (R : Int) := by omega
          generalize at0 (rowL R C l j) q = A1 at *
          generalize at0 (colL C l j) p = A2 at *
          generalize at0 l j = e at *
          have w1 : IntKind.i64.wrap (A1 + e) = A1 + e := IntWalk.i64_in _ (by omega)
          have w2 : IntKind.i64.wrap (A2 + e) = A2 + e := IntWalk.i64_in _ (by omega)
          go_upto_region 9 with fail
          refine wp_region_M (fun w' => w'.cell? ⟨bx, 1, none⟩ = some (.int .i64 (C : Int)) ∧ w'.cell? ⟨bx, 2, none⟩ = some (.slice (some ⟨b1, o1, none⟩) m c) ∧ w'.cell? ⟨b1, o1 + j, none⟩ = some (.int .i64 e) ∧ w'.cell? ⟨gr, q, none⟩ = some (.int .i64 A1)) 18 (by kernel_rfl) (Hz4.out ▸ ⟨hb0_1 z4, hb0_2 z4, f0 z4, s1⟩) (fun hS => ?_)
          rw [Hz4.out] at hS ⊢
          refine wpAnyM_takeU (i := 0) (v := ?_) rfl (by kernel_rfl) (by kernel_rfl) (by kernel_rfl) (by kernel_rfl) (fun _ _ _ h => h) hS (Or.inl ⟨by rfl, ?_⟩) ?_
          rotate_left
          · (intro w hSw; (try dsimp only at hSw); go_split_ands; go_simp; try (with_reducible rfl))
          (try simp only [Act.put, List.setIfInBounds_toArray, List.set_cons_zero, List.set_cons_succ])
          refine wpAnyM_takeU (i := 1) (v := ?_) rfl (by kernel_rfl) (by kernel_rfl) (by kernel_rfl) (by kernel_rfl) (fun _ _ _ h => h) hS (Or.inl ⟨by rfl, ?_⟩) ?_
          rotate_left
          · (intro w hSw; (try dsimp only at hSw); go_split_ands; go_simp; try (with_reducible rfl))
          (try simp only [Act.put, List.setIfInBounds_toArray, List.set_cons_zero, List.set_cons_succ])
          refine wpAnyM_takeU (i := 2) (v := ?_) rfl (by kernel_rfl) (by kernel_rfl) (by kernel_rfl) (by kernel_rfl) (fun _ _ _ h => h) hS (Or.inl ⟨by rfl, ?_⟩) ?_
          rotate_left
          · (intro w hSw; (try dsimp only at hSw); go_split_ands; go_simp; try (with_reducible rfl))
          (try simp only [Act.put, List.setIfInBounds_toArray, List.set_cons_zero, List.set_cons_succ])
          refine wpAnyM_takeU (i := 3) (v := ?_) rfl (by kernel_rfl) (by kernel_rfl) (by kernel_rfl) (by kernel_rfl) (fun _ _ _ h => h) hS (Or.inl ⟨by rfl, ?_⟩) ?_
          rotate_left
          · (intro w hSw; (try dsimp only at hSw); go_split_ands; go_simp; try (with_reducible rfl))
          (try simp only [Act.put, List.setIfInBounds_toArray, List.set_cons_zero, List.set_cons_succ])
          refine wpAnyM_takeU (i := 4) (v := ?_) rfl (by kernel_rfl) (by kernel_rfl) (by kernel_rfl) (by kernel_rfl) (fun _ _ _ h => h) hS (Or.inl ⟨by rfl, ?_⟩) ?_
          rotate_left
          · (intro w hSw; (try dsimp only at hSw); go_split_ands; go_simp; try (with_reducible rfl))
          (try simp only [Act.put, List.setIfInBounds_toArray, List.set_cons_zero, List.set_cons_succ])
          refine wpAnyM_takeU (i := 5) (v := ?_) rfl (by kernel_rfl) (by kernel_rfl) (by kernel_rfl) (by kernel_rfl) (fun _ _ _ h => h) hS (Or.inl ⟨by rfl, ?_⟩) ?_
          rotate_left
          · (intro w hSw; (try dsimp only at hSw); go_split_ands; go_simp; try (with_reducible rfl))
          (try simp only [Act.put, List.setIfInBounds_toArray, List.set_cons_zero, List.set_cons_succ])
          refine wpAnyM_takeU (i := 6) (v := ?_) rfl (by kernel_rfl) (by kernel_rfl) (by kernel_rfl) (by kernel_rfl) (fun _ _ _ h => h) hS (Or.inl ⟨by rfl, ?_⟩) ?_
          rotate_left
          · (intro w hSw; (try dsimp only at hSw); go_split_ands; go_simp; try (with_reducible rfl))
          (try simp only [Act.put, List.setIfInBounds_toArray, List.set_cons_zero, List.set_cons_succ])
          refine wpAnyM_takeU (i := 7) (v := ?_) rfl (by kernel_rfl) (by kernel_rfl) (by kernel_rfl) (by kernel_rfl) (fun _ _ _ h => h) hS (Or.inl ⟨by rfl, ?_⟩) ?_
          rotate_left
          · (intro w hSw; (try dsimp only at hSw); go_split_ands; go_simp; try (with_reducible rfl))
          (try simp only [Act.put, List.setIfInBounds_toArray, List.set_cons_zero, List.set_cons_succ])
          refine wpAnyM_takeU (i := 8) (v := ?_) rfl (by kernel_rfl) (by kernel_rfl) (by kernel_rfl) (by kernel_rfl) (fun _ _ _ h => h) hS (Or.inl ⟨by rfl, ?_⟩) ?_
          rotate_left
          · (intro w hSw; (try dsimp only at hSw); go_split_ands; go_simp; try (with_reducible rfl))
          (try simp only [Act.put, List.setIfInBounds_toArray, List.set_cons_zero, List.set_cons_succ])
          refine wpAnyM_takeU (i := 9) (v := ?_) rfl (by kernel_rfl) (by kernel_rfl) (by kernel_rfl) (by kernel_rfl) (fun _ _ _ h => h) hS (Or.inl ⟨by rfl, ?_⟩) ?_
          rotate_left
          · (intro w hSw; (try dsimp only at hSw); go_split_ands; go_simp; try (with_reducible rfl))
          (try simp only [Act.put, List.setIfInBounds_toArray, List.set_cons_zero, List.set_cons_succ])
          refine wpAnyM_takeU (i := 10) (v := ?_) rfl (by kernel_rfl) (by kernel_rfl) (by kernel_rfl) (by kernel_rfl) (fun _ _ _ h => h) hS (Or.inl ⟨by rfl, ?_⟩) ?_
          rotate_left
          · (intro w hSw; (try dsimp only at hSw); go_split_ands; go_simp; try (with_reducible rfl))
          (try simp only [Act.put, List.setIfInBounds_toArray, List.set_cons_zero, List.set_cons_succ])
          refine wpAnyM_takeU (i := 11) (v := ?_) rfl (by kernel_rfl) (by kernel_rfl) (by kernel_rfl) (by kernel_rfl) (fun _ _ _ h => h) hS (Or.inl ⟨by rfl, ?_⟩) ?_
          rotate_left
          · (intro w hSw; (try dsimp only at hSw); go_split_ands; go_simp; try (with_reducible rfl))
          (try simp only [Act.put, List.setIfInBounds_toArray, List.set_cons_zero, List.set_cons_succ])
          refine wpAnyM_takeU (i := 12) (v := ?_) rfl (by kernel_rfl) (by kernel_rfl) (by kernel_rfl) (by kernel_rfl) (fun _ _ _ h => h) hS (Or.inl ⟨by rfl, ?_⟩) ?_
          rotate_left
          · (intro w hSw; (try dsimp only at hSw); go_split_ands; go_simp; try (with_reducible rfl))
          (try simp only [Act.put, List.setIfInBounds_toArray, List.set_cons_zero, List.set_cons_succ])
          refine wpAnyM_takeU (i := 13) (v := ?_) rfl (by kernel_rfl) (by kernel_rfl) (by kernel_rfl) (by kernel_rfl) (fun _ _ _ h => h) hS (Or.inl ⟨by rfl, ?_⟩) ?_
          rotate_left
          · (intro w hSw; (try dsimp only at hSw); go_split_ands; go_simp; try (with_reducible rfl))
          (try simp only [Act.put, List.setIfInBounds_toArray, List.set_cons_zero, List.set_cons_succ])
          refine wpAnyM_takeU (i := 14) (v := ?_) rfl (by kernel_rfl) (by kernel_rfl) (by kernel_rfl) (by kernel_rfl) (fun _ _ _ h => h) hS (Or.inl ⟨by rfl, ?_⟩) ?_
          rotate_left
          · (intro w hSw; (try dsimp only at hSw); go_split_ands; go_simp; try (with_reducible rfl))
          (try simp only [Act.put, List.setIfInBounds_toArray, List.set_cons_zero, List.set_cons_succ])
          refine wpAnyM_takeU (i := 15) (v := ?_) rfl (by kernel_rfl) (by kernel_rfl) (by kernel_rfl) (by kernel_rfl) (fun _ _ _ h => h) hS (Or.inl ⟨by rfl, ?_⟩) ?_
          rotate_left
          · (intro w hSw; (try dsimp only at hSw); go_split_ands; go_simp; try (with_reducible rfl))
          (try simp only [Act.put, List.setIfInBounds_toArray, List.set_cons_zero, List.set_cons_succ])
          refine wpAnyM_takeU (i := 16) (v := ?_) rfl (by kernel_rfl) (by kernel_rfl) (by kernel_rfl) (by kernel_rfl) (fun _ _ _ h => h) hS (Or.inl ⟨by rfl, ?_⟩) ?_
          rotate_left
          · (intro w hSw; (try dsimp only at hSw); go_split_ands; go_simp; try (with_reducible rfl))
          (try simp only [Act.put, List.setIfInBounds_toArray, List.set_cons_zero, List.set_cons_succ])
          refine wpAnyM_takeU (i := 17) (v := ?_) rfl (by kernel_rfl) (by kernel_rfl) (by kernel_rfl) (by kernel_rfl) (fun _ _ _ h => h) hS (Or.inl ⟨by rfl, ?_⟩) ?_
          rotate_left
          · (intro w hSw; (try dsimp only at hSw); go_split_ands; go_simp; try (with_reducible rfl))
          (try simp only [Act.put, List.setIfInBounds_toArray, List.set_cons_zero, List.set_cons_succ])
          refine wpAnyM_one (i := 18) (by kernel_rfl) rfl (fun K hK => ?_)
          (go_simp; rw [H5.out])
          refine hK.out _ _ (Or.inl rfl) (fun _ => ?_)
          clear hK K hS
          (try simp only [Act.put, List.setIfInBounds_toArray, List.set_cons_zero, List.set_cons_succ])
          refine wpAnyM_done (by kernel_rfl) ?_
          clear s1 s2 H5 Hz4

          go_upto_region 10 with fail
          refine wp_region_M (fun w' => w'.cell? ⟨bx, 1, none⟩ = some (.int .i64 (C : Int)) ∧ w'.cell? ⟨bx, 2, none⟩ = some (.slice (some ⟨b1, o1, none⟩) m c) ∧ w'.cell? ⟨b1, o1 + j, none⟩ = some (.int .i64 e) ∧ w'.cell? ⟨gc, p, none⟩ = some (.int .i64 A2)) 18 (by kernel_rfl) (Hz6.out ▸ ⟨hb0_1 z6, hb0_2 z6, f0 z6, s3⟩) (fun hS => ?_)
          rw [Hz6.out] at hS ⊢
          refine wpAnyM_takeU (i := 0) (v := ?_) rfl (by kernel_rfl) (by kernel_rfl) (by kernel_rfl) (by kernel_rfl) (fun _ _ _ h => h) hS (Or.inl ⟨by rfl, ?_⟩) ?_
          rotate_left
          · (intro w hSw; (try dsimp only at hSw); go_split_ands; go_simp; try (with_reducible rfl))
          (try simp only [Act.put, List.setIfInBounds_toArray, List.set_cons_zero, List.set_cons_succ])
          refine wpAnyM_takeU (i := 1) (v := ?_) rfl (by kernel_rfl) (by kernel_rfl) (by kernel_rfl) (by kernel_rfl) (fun _ _ _ h => h) hS (Or.inl ⟨by rfl, ?_⟩) ?_
          rotate_left
          · (intro w hSw; (try dsimp only at hSw); go_split_ands; go_simp; try (with_reducible rfl))
          (try simp only [Act.put, List.setIfInBounds_toArray, List.set_cons_zero, List.set_cons_succ])
          refine wpAnyM_takeU (i := 2) (v := ?_) rfl (by kernel_rfl) (by kernel_rfl) (by kernel_rfl) (by kernel_rfl) (fun _ _ _ h => h) hS (Or.inl ⟨by rfl, ?_⟩) ?_
          rotate_left
          · (intro w hSw; (try dsimp only at hSw); go_split_ands; go_simp; try (with_reducible rfl))
          (try simp only [Act.put, List.setIfInBounds_toArray, List.set_cons_zero, List.set_cons_succ])
          refine wpAnyM_takeU (i := 3) (v := ?_) rfl (by kernel_rfl) (by kernel_rfl) (by kernel_rfl) (by kernel_rfl) (fun _ _ _ h => h) hS (Or.inl ⟨by rfl, ?_⟩) ?_
          rotate_left
          · (intro w hSw; (try dsimp only at hSw); go_split_ands; go_simp; try (with_reducible rfl))
          (try simp only [Act.put, List.setIfInBounds_toArray, List.set_cons_zero, List.set_cons_succ])
          refine wpAnyM_takeU (i := 4) (v := ?_) rfl (by kernel_rfl) (by kernel_rfl) (by kernel_rfl) (by kernel_rfl) (fun _ _ _ h => h) hS (Or.inl ⟨by rfl, ?_⟩) ?_
          rotate_left
          · (intro w hSw; (try dsimp only at hSw); go_split_ands; go_simp; try (with_reducible rfl))
          (try simp only [Act.put, List.setIfInBounds_toArray, List.set_cons_zero, List.set_cons_succ])
          refine wpAnyM_takeU (i := 5) (v := ?_) rfl (by kernel_rfl) (by kernel_rfl) (by kernel_rfl) (by kernel_rfl) (fun _ _ _ h => h) hS (Or.inl ⟨by rfl, ?_⟩) ?_
          rotate_left
          · (intro w hSw; (try dsimp only at hSw); go_split_ands; go_simp; try (with_reducible rfl))
          (try simp only [Act.put, List.setIfInBounds_toArray, List.set_cons_zero, List.set_cons_succ])
          refine wpAnyM_takeU (i := 6) (v := ?_) rfl (by kernel_rfl) (by kernel_rfl) (by kernel_rfl) (by kernel_rfl) (fun _ _ _ h => h) hS (Or.inl ⟨by rfl, ?_⟩) ?_
          rotate_left
          · (intro w hSw; (try dsimp only at hSw); go_split_ands; go_simp; try (with_reducible rfl))
          (try simp only [Act.put, List.setIfInBounds_toArray, List.set_cons_zero, List.set_cons_succ])
          refine wpAnyM_takeU (i := 7) (v := ?_) rfl (by kernel_rfl) (by kernel_rfl) (by kernel_rfl) (by kernel_rfl) (fun _ _ _ h => h) hS (Or.inl ⟨by rfl, ?_⟩) ?_
          rotate_left
          · (intro w hSw; (try dsimp only at hSw); go_split_ands; go_simp; try (with_reducible rfl))
          (try simp only [Act.put, List.setIfInBounds_toArray, List.set_cons_zero, List.set_cons_succ])
          refine wpAnyM_takeU (i := 8) (v := ?_) rfl (by kernel_rfl) (by kernel_rfl) (by kernel_rfl) (by kernel_rfl) (fun _ _ _ h => h) hS (Or.inl ⟨by rfl, ?_⟩) ?_
          rotate_left
          · (intro w hSw; (try dsimp only at hSw); go_split_ands; go_simp; try (with_reducible rfl))
          (try simp only [Act.put, List.setIfInBounds_toArray, List.set_cons_zero, List.set_cons_succ])
          refine wpAnyM_takeU (i := 9) (v := ?_) rfl (by kernel_rfl) (by kernel_rfl) (by kernel_rfl) (by kernel_rfl) (fun _ _ _ h => h) hS (Or.inl ⟨by rfl, ?_⟩) ?_
          rotate_left
          · (intro w hSw; (try dsimp only at hSw); go_split_ands; go_simp; try (with_reducible rfl))
          (try simp only [Act.put, List.setIfInBounds_toArray, List.set_cons_zero, List.set_cons_succ])
          refine wpAnyM_takeU (i := 10) (v := ?_) rfl (by kernel_rfl) (by kernel_rfl) (by kernel_rfl) (by kernel_rfl) (fun _ _ _ h => h) hS (Or.inl ⟨by rfl, ?_⟩) ?_
          rotate_left
          · (intro w hSw; (try dsimp only at hSw); go_split_ands; go_simp; try (with_reducible rfl))
          (try simp only [Act.put, List.setIfInBounds_toArray, List.set_cons_zero, List.set_cons_succ])
          refine wpAnyM_takeU (i := 11) (v := ?_) rfl (by kernel_rfl) (by kernel_rfl) (by kernel_rfl) (by kernel_rfl) (fun _ _ _ h => h) hS (Or.inl ⟨by rfl, ?_⟩) ?_
          rotate_left
          · (intro w hSw; (try dsimp only at hSw); go_split_ands; go_simp; try (with_reducible rfl))
          (try simp only [Act.put, List.setIfInBounds_toArray, List.set_cons_zero, List.set_cons_succ])
          refine wpAnyM_takeU (i := 12) (v := ?_) rfl (by kernel_rfl) (by kernel_rfl) (by kernel_rfl) (by kernel_rfl) (fun _ _ _ h => h) hS (Or.inl ⟨by rfl, ?_⟩) ?_
          rotate_left
          · (intro w hSw; (try dsimp only at hSw); go_split_ands; go_simp; try (with_reducible rfl))
          (try simp only [Act.put, List.setIfInBounds_toArray, List.set_cons_zero, List.set_cons_succ])
          refine wpAnyM_takeU (i := 13) (v := ?_) rfl (by kernel_rfl) (by kernel_rfl) (by kernel_rfl) (by kernel_rfl) (fun _ _ _ h => h) hS (Or.inl ⟨by rfl, ?_⟩) ?_
          rotate_left
          · (intro w hSw; (try dsimp only at hSw); go_split_ands; go_simp; try (with_reducible rfl))
          (try simp only [Act.put, List.setIfInBounds_toArray, List.set_cons_zero, List.set_cons_succ])
          refine wpAnyM_takeU (i := 14) (v := ?_) rfl (by kernel_rfl) (by kernel_rfl) (by kernel_rfl) (by kernel_rfl) (fun _ _ _ h => h) hS (Or.inl ⟨by rfl, ?_⟩) ?_
          rotate_left
          · (intro w hSw; (try dsimp only at hSw); go_split_ands; go_simp; try (with_reducible rfl))
          (try simp only [Act.put, List.setIfInBounds_toArray, List.set_cons_zero, List.set_cons_succ])
          refine wpAnyM_takeU (i := 15) (v := ?_) rfl (by kernel_rfl) (by kernel_rfl) (by kernel_rfl) (by kernel_rfl) (fun _ _ _ h => h) hS (Or.inl ⟨by rfl, ?_⟩) ?_
          rotate_left
          · (intro w hSw; (try dsimp only at hSw); go_split_ands; go_simp; try (with_reducible rfl))
          (try simp only [Act.put, List.setIfInBounds_toArray, List.set_cons_zero, List.set_cons_succ])
          refine wpAnyM_takeU (i := 16) (v := ?_) rfl (by kernel_rfl) (by kernel_rfl) (by kernel_rfl) (by kernel_rfl) (fun _ _ _ h => h) hS (Or.inl ⟨by rfl, ?_⟩) ?_
          rotate_left
          · (intro w hSw; (try dsimp only at hSw); go_split_ands; go_simp; try (with_reducible rfl))
          (try simp only [Act.put, List.setIfInBounds_toArray, List.set_cons_zero, List.set_cons_succ])
          refine wpAnyM_takeU (i := 17) (v := ?_) rfl (by kernel_rfl) (by kernel_rfl) (by kernel_rfl) (by kernel_rfl) (fun _ _ _ h => h) hS (Or.inl ⟨by rfl, ?_⟩) ?_
          rotate_left
          · (intro w hSw; (try dsimp only at hSw); go_split_ands; go_simp; try (with_reducible rfl))
          (try simp only [Act.put, List.setIfInBounds_toArray, List.set_cons_zero, List.set_cons_succ])
          refine wpAnyM_one (i := 18) (by kernel_rfl) rfl (fun K hK => ?_)
          (go_simp; rw [H7.out])
          refine hK.out _ _ (Or.inl rfl) (fun _ => ?_)
          clear hK K hS
          (try simp only [Act.put, List.setIfInBounds_toArray, List.set_cons_zero, List.set_cons_succ])
          refine wpAnyM_done (by kernel_rfl) ?_
          clear s3 s4 H7 Hz6
          go_wp2_with fail
          go_roundw
          case rel => exact ⟨p + 1, y7, by omega, by go_num, rfl, by rw [show q * C + (p + 1) = j + 1 from HJ.out]; exact HN7.out, by rw [show q * C + (p + 1) = j + 1 from HJ.out]; exact HB7.out⟩
          case measure => simp [intOf] <;> omega
        · obtain rfl : p = C := by omega
          go_wp2_with fail
          go_roundw
          case rel => exact ⟨q + 1, y, by omega, by go_num, rfl, by rw [Nat.add_mul, Nat.one_mul]; exact HBr.out, by rw [Nat.add_mul, Nat.one_mul]; exact HBc.out⟩
          case measure => simp [intOf] <;> omega
    · obtain rfl : q = R := by omega
      have hE1 := box_ints HBr.out
      have hE2 := box_ints HBc.out
      rw [← HRC.out] at hE1 hE2
      have HE1 := Lib.hid hE1; have HE2 := Lib.hid hE2
      clear hE1 hE2
      go_wp2_with fail
      obtain ⟨z, hz⟩ := Hup.out y
      have hE1 := HE1.out; have hE2 := HE2.out
      rw [hz] at hE1 hE2 ⊢
      exact bodyPost_ret (v := .tuple #[.slice (some ⟨gr, 0, none⟩) q q, .slice (some ⟨gc, 0, none⟩) C C]) (by simp [results, Tryd.results35, go_sem]) rfl ⟨some ⟨gr, 0, none⟩, some ⟨gc, 0, none⟩, z, rfl, rfl, hE1, hE2, fun b hb => by have := Hbx.out; rcases hb with h | h <;> cases h <;> (dsimp only; omega)⟩
end Go.Proofs.YtdkcclngionihaaDoor
/- The reference's Exact, walked. -/
namespace Go.Proofs.YtdkcclngionihaaDoor
open Go.RowKit

theorem ex_tab {zs : List Int} {size : Int} {R : List Ride} {f t each least width : Int} (h : tabE zs size R f t each ≠ 0) : exE zs size R f t each least width = tabE zs size R f t each := by
  have hr : rlE zs size R f t each = tabE zs size R f t each := by unfold rlE; rw [if_pos h]
  unfold exE; rw [if_pos (by rw [hr]; exact h), hr]
theorem ex_each {zs : List Int} {size : Int} {R : List Ride} {f t each least width : Int} (h : tabE zs size R f t each = 0) (he : each = 0) : exE zs size R f t each least width = 1 := by
  have hr : rlE zs size R f t each = 1 := by unfold rlE; rw [if_neg (by simpa using h), if_pos he]
  unfold exE; rw [if_pos (by rw [hr]; decide), hr]
theorem ex_go {zs : List Int} {R : List Ride} {f t each least width : Int} {n : Nat} {l : List Int} (h : tabE zs (n : Int) R f t each = 0) (he : each ≠ 0) (hV : tabV zs (n : Int) R f t each = ⟨n, n, l⟩) :
    exE zs (n : Int) R f t each least width = hideE n n l least width ∧ (hideE n n l least width ≠ 0 → exR zs (n : Int) R f t each least width = rel0) ∧ ∀ k, hideE n n l least width = 0 → hideV n n l least width = some k → exR zs (n : Int) R f t each least width = ⟨f, t, each, n, n, hidL l k, k, rowL n n l l.length, colL n l l.length, []⟩ := by
  have hr : rlE zs (n : Int) R f t each = 0 := by unfold rlE; rw [if_neg (by simpa using h), if_neg he]
  have hT : rlT zs (n : Int) R f t each = ⟨n, n, l⟩ := by unfold rlT; rw [if_pos hr, hV]
  have hE : exE zs (n : Int) R f t each least width = hideE n n l least width := by
    unfold exE; rw [if_neg (by rw [hr]; decide), hT, Int.toNat_natCast]
  refine ⟨hE, fun h0 => ?_, fun k h0 hk => ?_⟩
  · unfold exR; rw [if_neg (by rw [hE]; exact h0)]
  · unfold exR
    rw [if_pos (by rw [hE]; exact h0), hT, Int.toNat_natCast]
    dsimp only
    rw [hk]
theorem IsSince.trans2 {a b c : World} (h : IsSince a b) (k : IsSince b c) : IsSince a c := by
  obtain ⟨y, rfl⟩ := h; obtain ⟨z, rfl⟩ := k
  obtain ⟨u, hu⟩ := y.trans z
  exact ⟨u, hu⟩
theorem rowB_setMany {w : World} {a : Option Addr} {n : Nat} {f : Nat → Value} {g : Nat} (h : Row w a n f) (hb : ∀ b, a = some b → b.block ≠ g) (vs : List Value) : ∀ o, Row (w.setCells g o vs) a n f := by
  induction vs generalizing w with
  | nil => exact fun _ => h
  | cons v r ih => exact fun o => ih (Row.set h ⟨g, o, none⟩ v hb) (o + 1)
theorem own_boxI {w : World} {B : Nat} {v : Value} {l : List Int} (h : w.ownsRow B 3 1 v (0 + l.length) ([] ++ flat intCs l)) (hn : 0 < l.length) : ∃ (g cap : Nat), v = .slice (some ⟨g, 0, none⟩) l.length cap ∧ B ≤ g ∧ BoxIs w g (intsF l.length (at0 l)) := by
  rw [List.nil_append, Nat.zero_add, flat_ints] at h
  obtain ⟨hl, h | ⟨g, cap, cur, rfl, hg, hh, hc, hm, hs, ht⟩⟩ := h
  · obtain ⟨rfl, hx⟩ := h
    omega
  · refine ⟨g, cap, rfl, hg, (Array.getElem?_eq_some_iff.1 hh).1, fun j v hv => ?_, fun o => by simp only [World.frozen?, hh]; rfl⟩
    have hj : j < l.length := by have := (List.getElem?_eq_some_iff.1 hv).1; rwa [intsF_len] at this
    rw [intsF_at hj] at hv
    have hv2 : (cur.toList.take (l.length * 1))[j]? = some v := by
      rw [ht, ← hv, List.getElem?_map, List.getElem?_eq_getElem hj]
      simp [at0, List.getD_eq_getElem?_getD, List.getElem?_eq_getElem hj]
    rw [List.getElem?_take, if_pos (by omega)] at hv2
    simp only [World.cell?, hh]
    simpa using hv2
theorem intsF_row {w : World} {g n : Nat} {f : Nat → Int} {l : List Int} (h : BoxIs w g (intsF n f)) (hl : l.length = n) (he : ∀ i, i < n → f i = at0 l i) : IntRow w (some ⟨g, 0, none⟩) l := fun i hi => ⟨g, 0, rfl, h.lt, by rw [Nat.zero_add, h.c i _ (intsF_at (by omega)), he i (by omega)]⟩
/-- the first k cells are published -/
def hidK (l : List Int) (h : List Bool) (k j : Nat) : Int := if j < k ∧ bo h j = true then 0 else at0 l j
set_option linter.unusedSimpArgs false in
set_option maxRecDepth 100000 in
set_option maxHeartbeats 32000000 in
theorem rexact_calls (w : World) (x : Since w) (az : Option Addr) (zs : List Int) (cz : Nat) (size : Int) (a : Option Addr) (R : List Ride) (c : Nat) (f t each least width : Int) (hz : IntRow w az zs) (hzl : zs.length ≤ 9223372036854775807) (h : RideRow w a R) (hl : R.length ≤ 1024) (hI : ∀ r ∈ R, r.fp ≤ 9223372036854775807 ∧ r.pl ≤ 9223372036854775807) :
    Calls Tryd.prog 13 #[.slice az zs.length cz, .int .i64 size, .slice a R.length c, .agg #[.int .i64 f, .int .i64 t], .int .i64 each, .int .i64 least, .int .i64 width] x.w (RelRes w (exR zs size R f t each least width) (exE zs size R f t each least width)) := by
  have HZ := Lib.hid hz
  have HR := Lib.hid h
  have HC := Lib.hid (fun (W : World) (y : Since W) hz h => rtable_calls W y az zs cz size a R c f t each hz hzl h (by omega) hI)
  have HG := Lib.hid (fun h => rl_tab (zs := zs) (size := size) (R := R) (f := f) (t := t) (each := each) h hl)
  have HE1 := Lib.hid (fun h => ex_tab (zs := zs) (size := size) (R := R) (f := f) (t := t) (each := each) (least := least) (width := width) h)
  have HE2 := Lib.hid (fun h k => ex_each (zs := zs) (size := size) (R := R) (f := f) (t := t) (each := each) (least := least) (width := width) h k)
  have HE3 := Lib.hid (fun (n : Nat) (l : List Int) (e : size = (n : Int)) (h : tabE zs size R f t each = 0) (he : each ≠ 0) (hV : tabV zs size R f t each = ⟨n, n, l⟩) => show exE zs size R f t each least width = hideE n n l least width ∧ (hideE n n l least width ≠ 0 → exR zs size R f t each least width = rel0) ∧ ∀ k, hideE n n l least width = 0 → hideV n n l least width = some k → exR zs size R f t each least width = ⟨f, t, each, n, n, hidL l k, k, rowL n n l l.length, colL n l l.length, []⟩ from by
    subst e; exact ex_go h he hV)
  have HT := Lib.hid (show exE zs size R f t each least width ≠ 0 → exR zs size R f t each least width = rel0 from fun h => by unfold exR; rw [if_neg h])
  generalize exE zs size R f t each least width = E at *
  generalize exR zs size R f t each least width = X at *
  generalize tabE zs size R f t each = E2 at *
  generalize tabV zs size R f t each = T2 at *
  generalize zs.length = nz at *
  generalize R.length = nr at *
  clear hz h hl hzl hI
  go_enter Tryd.func13, Tryd.ntmps13
  go_upto_region 1 with fail
  have hb0_0 : ∀ y : Since ((x.w.alloc (.cells #[.int .i64 f, .int .i64 t] 25)).alloc (.cells #[.int .i64 0, .int .i64 0, .int .i64 0, .int .i64 0, .int .i64 0, .slice none 0 0, .slice none 0 0, .slice none 0 0, .slice none 0 0, .slice none 0 0] 36)), y.w.cell? ⟨x.w.heap.size, 0, none⟩ = some (.int .i64 f) := fun y => Since.cell (by simp [go_sem]) (by first | (simp; done) | (simp; omega)) y
  have hb0_1 : ∀ y : Since ((x.w.alloc (.cells #[.int .i64 f, .int .i64 t] 25)).alloc (.cells #[.int .i64 0, .int .i64 0, .int .i64 0, .int .i64 0, .int .i64 0, .slice none 0 0, .slice none 0 0, .slice none 0 0, .slice none 0 0, .slice none 0 0] 36)), y.w.cell? ⟨x.w.heap.size, 1, none⟩ = some (.int .i64 t) := fun y => Since.cell (by simp [go_sem]) (by first | (simp; done) | (simp; omega)) y
  have hf0 : ∀ (y : Since ((x.w.alloc (.cells #[.int .i64 f, .int .i64 t] 25)).alloc (.cells #[.int .i64 0, .int .i64 0, .int .i64 0, .int .i64 0, .int .i64 0, .slice none 0 0, .slice none 0 0, .slice none 0 0, .slice none 0 0, .slice none 0 0] 36))) (o : Nat), y.w.frozen? ⟨x.w.heap.size, o, none⟩ = false := fun y o => Since.free (by simp [go_sem]) (by first | (simp; done) | (simp; omega)) y
  have hb1_0 : ∀ y : Since ((x.w.alloc (.cells #[.int .i64 f, .int .i64 t] 25)).alloc (.cells #[.int .i64 0, .int .i64 0, .int .i64 0, .int .i64 0, .int .i64 0, .slice none 0 0, .slice none 0 0, .slice none 0 0, .slice none 0 0, .slice none 0 0] 36)), y.w.cell? ⟨x.w.heap.size + 1, 0, none⟩ = some (.int .i64 0) := fun y => Since.cell (by simp [go_sem]) (by first | (simp; done) | (simp; omega)) y
  have hb1_1 : ∀ y : Since ((x.w.alloc (.cells #[.int .i64 f, .int .i64 t] 25)).alloc (.cells #[.int .i64 0, .int .i64 0, .int .i64 0, .int .i64 0, .int .i64 0, .slice none 0 0, .slice none 0 0, .slice none 0 0, .slice none 0 0, .slice none 0 0] 36)), y.w.cell? ⟨x.w.heap.size + 1, 1, none⟩ = some (.int .i64 0) := fun y => Since.cell (by simp [go_sem]) (by first | (simp; done) | (simp; omega)) y
  have hb1_2 : ∀ y : Since ((x.w.alloc (.cells #[.int .i64 f, .int .i64 t] 25)).alloc (.cells #[.int .i64 0, .int .i64 0, .int .i64 0, .int .i64 0, .int .i64 0, .slice none 0 0, .slice none 0 0, .slice none 0 0, .slice none 0 0, .slice none 0 0] 36)), y.w.cell? ⟨x.w.heap.size + 1, 2, none⟩ = some (.int .i64 0) := fun y => Since.cell (by simp [go_sem]) (by first | (simp; done) | (simp; omega)) y
  have hb1_3 : ∀ y : Since ((x.w.alloc (.cells #[.int .i64 f, .int .i64 t] 25)).alloc (.cells #[.int .i64 0, .int .i64 0, .int .i64 0, .int .i64 0, .int .i64 0, .slice none 0 0, .slice none 0 0, .slice none 0 0, .slice none 0 0, .slice none 0 0] 36)), y.w.cell? ⟨x.w.heap.size + 1, 3, none⟩ = some (.int .i64 0) := fun y => Since.cell (by simp [go_sem]) (by first | (simp; done) | (simp; omega)) y
  have hb1_4 : ∀ y : Since ((x.w.alloc (.cells #[.int .i64 f, .int .i64 t] 25)).alloc (.cells #[.int .i64 0, .int .i64 0, .int .i64 0, .int .i64 0, .int .i64 0, .slice none 0 0, .slice none 0 0, .slice none 0 0, .slice none 0 0, .slice none 0 0] 36)), y.w.cell? ⟨x.w.heap.size + 1, 4, none⟩ = some (.int .i64 0) := fun y => Since.cell (by simp [go_sem]) (by first | (simp; done) | (simp; omega)) y
  have hb1_5 : ∀ y : Since ((x.w.alloc (.cells #[.int .i64 f, .int .i64 t] 25)).alloc (.cells #[.int .i64 0, .int .i64 0, .int .i64 0, .int .i64 0, .int .i64 0, .slice none 0 0, .slice none 0 0, .slice none 0 0, .slice none 0 0, .slice none 0 0] 36)), y.w.cell? ⟨x.w.heap.size + 1, 5, none⟩ = some (.slice none 0 0) := fun y => Since.cell (by simp [go_sem]) (by first | (simp; done) | (simp; omega)) y
  have hb1_6 : ∀ y : Since ((x.w.alloc (.cells #[.int .i64 f, .int .i64 t] 25)).alloc (.cells #[.int .i64 0, .int .i64 0, .int .i64 0, .int .i64 0, .int .i64 0, .slice none 0 0, .slice none 0 0, .slice none 0 0, .slice none 0 0, .slice none 0 0] 36)), y.w.cell? ⟨x.w.heap.size + 1, 6, none⟩ = some (.slice none 0 0) := fun y => Since.cell (by simp [go_sem]) (by first | (simp; done) | (simp; omega)) y
  have hb1_7 : ∀ y : Since ((x.w.alloc (.cells #[.int .i64 f, .int .i64 t] 25)).alloc (.cells #[.int .i64 0, .int .i64 0, .int .i64 0, .int .i64 0, .int .i64 0, .slice none 0 0, .slice none 0 0, .slice none 0 0, .slice none 0 0, .slice none 0 0] 36)), y.w.cell? ⟨x.w.heap.size + 1, 7, none⟩ = some (.slice none 0 0) := fun y => Since.cell (by simp [go_sem]) (by first | (simp; done) | (simp; omega)) y
  have hb1_8 : ∀ y : Since ((x.w.alloc (.cells #[.int .i64 f, .int .i64 t] 25)).alloc (.cells #[.int .i64 0, .int .i64 0, .int .i64 0, .int .i64 0, .int .i64 0, .slice none 0 0, .slice none 0 0, .slice none 0 0, .slice none 0 0, .slice none 0 0] 36)), y.w.cell? ⟨x.w.heap.size + 1, 8, none⟩ = some (.slice none 0 0) := fun y => Since.cell (by simp [go_sem]) (by first | (simp; done) | (simp; omega)) y
  have hb1_9 : ∀ y : Since ((x.w.alloc (.cells #[.int .i64 f, .int .i64 t] 25)).alloc (.cells #[.int .i64 0, .int .i64 0, .int .i64 0, .int .i64 0, .int .i64 0, .slice none 0 0, .slice none 0 0, .slice none 0 0, .slice none 0 0, .slice none 0 0] 36)), y.w.cell? ⟨x.w.heap.size + 1, 9, none⟩ = some (.slice none 0 0) := fun y => Since.cell (by simp [go_sem]) (by first | (simp; done) | (simp; omega)) y
  have hf1 : ∀ (y : Since ((x.w.alloc (.cells #[.int .i64 f, .int .i64 t] 25)).alloc (.cells #[.int .i64 0, .int .i64 0, .int .i64 0, .int .i64 0, .int .i64 0, .slice none 0 0, .slice none 0 0, .slice none 0 0, .slice none 0 0, .slice none 0 0] 36))) (o : Nat), y.w.frozen? ⟨x.w.heap.size + 1, o, none⟩ = false := fun y o => Since.free (by simp [go_sem]) (by first | (simp; done) | (simp; omega)) y
  have hWup : ∃ z : Since w, ((x.w.alloc (.cells #[.int .i64 f, .int .i64 t] 25)).alloc (.cells #[.int .i64 0, .int .i64 0, .int .i64 0, .int .i64 0, .int .i64 0, .slice none 0 0, .slice none 0 0, .slice none 0 0, .slice none 0 0, .slice none 0 0] 36)) = z.w := Since.allocs x [.cells #[.int .i64 f, .int .i64 t] 25, .cells #[.int .i64 0, .int .i64 0, .int .i64 0, .int .i64 0, .int .i64 0, .slice none 0 0, .slice none 0 0, .slice none 0 0, .slice none 0 0, .slice none 0 0] 36]
  obtain ⟨y0, hy0⟩ := Since.refl ((x.w.alloc (.cells #[.int .i64 f, .int .i64 t] 25)).alloc (.cells #[.int .i64 0, .int .i64 0, .int .i64 0, .int .i64 0, .int .i64 0, .slice none 0 0, .slice none 0 0, .slice none 0 0, .slice none 0 0, .slice none 0 0] 36))
  have Hbx := Lib.hid (And.intro x.b.size (show x.w.heap.size + 2 = ((x.w.alloc (.cells #[.int .i64 f, .int .i64 t] 25)).alloc (.cells #[.int .i64 0, .int .i64 0, .int .i64 0, .int .i64 0, .int .i64 0, .slice none 0 0, .slice none 0 0, .slice none 0 0, .slice none 0 0, .slice none 0 0] 36)).heap.size from by simp))
  generalize hW : ((x.w.alloc (.cells #[.int .i64 f, .int .i64 t] 25)).alloc (.cells #[.int .i64 0, .int .i64 0, .int .i64 0, .int .i64 0, .int .i64 0, .slice none 0 0, .slice none 0 0, .slice none 0 0, .slice none 0 0, .slice none 0 0] 36)) = W at *
  clear hW
  generalize x.w.heap.size = bx at *
  have Hup := Lib.hid (Since.up hWup)
  rw [hy0]
  clear hy0
  replace HZ := Lib.hid (HZ.out.to hWup)
  replace HR := Lib.hid (HR.out.to hWup)
  clear hWup hf0
  have H1 := Lib.hid (HC.out W y0 HZ.out HR.out)
  clear HC HZ HR
  go_upto_region 2 with (go_at_call 33; ((with_reducible refine H1.out.mono ?_); rintro _ _ ⟨a1, c1, y1, rfl, rfl, r1, r2, r3, r4⟩))
  have HR1 := Lib.hid r1
  clear r1 r2 r3 r4 H1
  have hx0 : (y1.w.alloc (.cells #[.int .i64 T2.r, .int .i64 T2.c, .slice a1 T2.l.length c1] 31)).cell? ⟨y1.w.heap.size, 0, none⟩ = some (.int .i64 T2.r) := by simp [go_sem]
  have hx1 : (y1.w.alloc (.cells #[.int .i64 T2.r, .int .i64 T2.c, .slice a1 T2.l.length c1] 31)).cell? ⟨y1.w.heap.size, 1, none⟩ = some (.int .i64 T2.c) := by simp [go_sem]
  have hx2 : (y1.w.alloc (.cells #[.int .i64 T2.r, .int .i64 T2.c, .slice a1 T2.l.length c1] 31)).cell? ⟨y1.w.heap.size, 2, none⟩ = some (.slice a1 T2.l.length c1) := by simp [go_sem]
  have hxf : ∀ o, (y1.w.alloc (.cells #[.int .i64 T2.r, .int .i64 T2.c, .slice a1 T2.l.length c1] 31)).frozen? ⟨y1.w.heap.size, o, none⟩ = false := fun o => by simp [go_sem]
  have hlt0 : y1.w.heap.size < (y1.w.alloc (.cells #[.int .i64 T2.r, .int .i64 T2.c, .slice a1 T2.l.length c1] 31)).heap.size := by simp
  have hst0 : ∃ zz : Since y1.w, (y1.w.alloc (.cells #[.int .i64 T2.r, .int .i64 T2.c, .slice a1 T2.l.length c1] 31)) = zz.w := IsSince.alloc (IsSince.self _) _
  have hsz0 := y1.b.size
  obtain ⟨y2, e2⟩ := IsSince.alloc (IsSince.of y1) (.cells #[.int .i64 T2.r, .int .i64 T2.c, .slice a1 T2.l.length c1] 31)
  rw [e2] at hx0 hx1 hx2 hxf hlt0 hst0 ⊢
  (replace HR1 := Lib.hid (HR1.out.to hst0); have hBT := BoxIs.new y1.w [.int .i64 T2.r, .int .i64 T2.c, .slice a1 T2.l.length c1] 31; rw [e2] at hBT)
  clear e2 hst0
  generalize y1.w.heap.size = gt at *
  have Hhx0 : ∀ q : Since y2.w, q.w.cell? ⟨gt, 0, none⟩ = some (.int .i64 T2.r) := fun q => Since.cell hx0 (by omega) q
  have Hhx1 : ∀ q : Since y2.w, q.w.cell? ⟨gt, 1, none⟩ = some (.int .i64 T2.c) := fun q => Since.cell hx1 (by omega) q
  have Hhx2 : ∀ q : Since y2.w, q.w.cell? ⟨gt, 2, none⟩ = some (.slice a1 T2.l.length c1) := fun q => Since.cell hx2 (by omega) q
  have Hhxf : ∀ (q : Since y2.w) (o : Nat), q.w.frozen? ⟨gt, o, none⟩ = false := fun q o => Since.free (hxf o) (by omega) q
  have Hhxg := Lib.hid (And.intro hsz0 hlt0)
  clear hlt0 hsz0
  have HBT := Lib.hid hBT
  have hgtW : W.heap.size ≤ gt := Hhxg.out.1
  clear hBT hx0 hx1 hx2 hxf Hhxf Hhxg
  by_cases h1 : E2 = 0
  · obtain ⟨n, l, hsz, hT2, hG⟩ := HG.out h1
    have HE4 := Lib.hid (fun he => HE3.out n l hsz h1 he hT2)
    subst hT2
    have h1' := intrel_eq h1
    clear HG HE1
    by_cases hea : each = 0
    · have hE := HE2.out h1 hea
      have hX : X = rel0 := HT.out (by rw [hE]; decide)
      have HP := Lib.hid (fun y : Since w => show RelRes w X E (.returned (.tuple #[.agg #[.int .i64 0, .int .i64 0, .int .i64 0, .int .i64 0, .int .i64 0, .slice none 0 0, .slice none 0 0, .slice none 0 0, .slice none 0 0, .slice none 0 0], .int .i64 1])) y.w from by rw [hE, hX]; exact relres_no y)
      have hea' := intrel_eq hea
      clear hE hX HE2 HE3 HE4 HT h1 hea
      go_wp2_with fail
      have hsm : ∀ j, j < 10 → (y2.w.cell? ⟨bx + 1, j, none⟩).isSome = true := fun j hj => by
        match j, hj with
        | 0, _ => rw [hb1_0 y2]; rfl
        | 1, _ => rw [hb1_1 y2]; rfl
        | 2, _ => rw [hb1_2 y2]; rfl
        | 3, _ => rw [hb1_3 y2]; rfl
        | 4, _ => rw [hb1_4 y2]; rfl
        | 5, _ => rw [hb1_5 y2]; rfl
        | 6, _ => rw [hb1_6 y2]; rfl
        | 7, _ => rw [hb1_7 y2]; rfl
        | 8, _ => rw [hb1_8 y2]; rfl
        | 9, _ => rw [hb1_9 y2]; rfl
      obtain ⟨Z, hz, hc⟩ := set_many y2 (g := bx + 1) [.int .i64 0, .int .i64 0, .int .i64 0, .int .i64 0, .int .i64 0, .slice none 0 0, .slice none 0 0, .slice none 0 0, .slice none 0 0, .slice none 0 0] hsm (Hup.out y2) (by have := Hbx.out; omega)
      simp only [World.setCells, Nat.reduceAdd] at hz
      rw [hz]
      have hc0 := hc 0 _ rfl
      have hc1 := hc 1 _ rfl
      have hc2 := hc 2 _ rfl
      have hc3 := hc 3 _ rfl
      have hc4 := hc 4 _ rfl
      have hc5 := hc 5 _ rfl
      have hc6 := hc 6 _ rfl
      have hc7 := hc 7 _ rfl
      have hc8 := hc 8 _ rfl
      have hc9 := hc 9 _ rfl
      exact bodyPost_ret (v := .tuple #[.agg #[.int .i64 0, .int .i64 0, .int .i64 0, .int .i64 0, .int .i64 0, .slice none 0 0, .slice none 0 0, .slice none 0 0, .slice none 0 0, .slice none 0 0], .int .i64 1]) (by simp [results, Tryd.results13, go_sem, hc0, hc1, hc2, hc3, hc4, hc5, hc6, hc7, hc8, hc9]) rfl (HP.out Z)
    obtain ⟨hE, hX0, hXk⟩ := HE4.out hea
    have HX0 := Lib.hid hX0; have HXk := Lib.hid hXk
    have hea' := intrel_ne hea
    clear HE2 HE3 HE4 hX0 hXk hea h1 HT
    dsimp only at HR1 HBT Hhx0 Hhx1 Hhx2 ⊢
    have HGd := Lib.hid hG
    have hm1 := hG.len
    have hn1 : 1 ≤ n ∧ n ≤ 8 := hG.r
    have hmn : l.length = n * n := hG.n
    have hm0 : 0 < l.length := by rw [hmn]; exact Nat.mul_pos (by omega) (by omega)
    have HH := Lib.hid (fun z : Since y2.w => rhide_calls y2.w z n n l least width a1 c1 HR1.out hG)
    have HSm := Lib.hid (fun (u : World) (hu : IsSince y2.w u) => show Calls Tryd.prog 35 #[.agg #[.int .i64 (n : Int), .int .i64 (n : Int), .slice a1 l.length c1]] u (fun o w' => ∃ (b1 b2 : Option Addr) (y : Since u), o = .returned (.tuple #[.slice b1 n n, .slice b2 n n]) ∧ w' = y.w ∧ IntRow y.w b1 (rowL n n l l.length) ∧ IntRow y.w b2 (colL n l l.length) ∧ ∀ b, b1 = some b ∨ b2 = some b → u.heap.size ≤ b.block) from rsums_calls u (Since.self u) n n l a1 c1 (HR1.out.to hu) hG)
    clear hG hmn
    have k1 := Since.cellTo ⟨y2, rfl⟩ hb0_0
    have hUp2 := Lib.hid (fun q : Since y2.w => show ∃ z : Since w, q.w = z.w from by obtain ⟨z, hz⟩ := y2.trans q; rw [hz]; exact Hup.out z)
    obtain ⟨q2, hq0⟩ := Since.refl y2.w
    rw [hq0]
    clear hq0
    go_upto_region 7 with (go_at_call 34; ((with_reducible refine (HH.out _).mono ?_); rintro _ _ ⟨ah, nh, ch, y3, rfl, rfl, hh⟩))
    have HHr := Lib.hid hh
    clear hh HH
    by_cases hhe : hideE n n l least width = 0
    case neg =>
      have hX := HX0.out hhe
      have HP := Lib.hid (fun y : Since w => show RelRes w X E (.returned (.tuple #[.agg #[.int .i64 0, .int .i64 0, .int .i64 0, .int .i64 0, .int .i64 0, .slice none 0 0, .slice none 0 0, .slice none 0 0, .slice none 0 0, .slice none 0 0], .int .i64 (hideE n n l least width)])) y.w from by rw [hE, hX]; exact relres_no y)
      have hA' := intrel_ne hhe
      clear hE hX HX0 HXk HHr HSm hhe
      generalize hideE n n l least width = EH at *
      obtain ⟨z3, h3⟩ := y2.trans y3
      rw [h3]
      clear h3
      go_wp2_with fail
      have hsm : ∀ j, j < 10 → (z3.w.cell? ⟨bx + 1, j, none⟩).isSome = true := fun j hj => by
        match j, hj with
        | 0, _ => rw [hb1_0 z3]; rfl
        | 1, _ => rw [hb1_1 z3]; rfl
        | 2, _ => rw [hb1_2 z3]; rfl
        | 3, _ => rw [hb1_3 z3]; rfl
        | 4, _ => rw [hb1_4 z3]; rfl
        | 5, _ => rw [hb1_5 z3]; rfl
        | 6, _ => rw [hb1_6 z3]; rfl
        | 7, _ => rw [hb1_7 z3]; rfl
        | 8, _ => rw [hb1_8 z3]; rfl
        | 9, _ => rw [hb1_9 z3]; rfl
      obtain ⟨Z, hz, hc⟩ := set_many z3 (g := bx + 1) [.int .i64 0, .int .i64 0, .int .i64 0, .int .i64 0, .int .i64 0, .slice none 0 0, .slice none 0 0, .slice none 0 0, .slice none 0 0, .slice none 0 0] hsm (Hup.out z3) (by have := Hbx.out; omega)
      simp only [World.setCells, Nat.reduceAdd] at hz
      rw [hz]
      have hc0 := hc 0 _ rfl
      have hc1 := hc 1 _ rfl
      have hc2 := hc 2 _ rfl
      have hc3 := hc 3 _ rfl
      have hc4 := hc 4 _ rfl
      have hc5 := hc 5 _ rfl
      have hc6 := hc 6 _ rfl
      have hc7 := hc 7 _ rfl
      have hc8 := hc 8 _ rfl
      have hc9 := hc 9 _ rfl
      exact bodyPost_ret (v := .tuple #[.agg #[.int .i64 0, .int .i64 0, .int .i64 0, .int .i64 0, .int .i64 0, .slice none 0 0, .slice none 0 0, .slice none 0 0, .slice none 0 0, .slice none 0 0], .int .i64 EH]) (by simp [results, Tryd.results13, go_sem, hc0, hc1, hc2, hc3, hc4, hc5, hc6, hc7, hc8, hc9]) rfl (HP.out Z)
    case pos =>
    obtain ⟨hd, hV, hdl, hnh, hrow, hcap, hfr⟩ := HHr.out hhe
    have HRh := Lib.hid hrow; have HFh := Lib.hid hfr
    have hX := HXk.out hd hhe hV
    have HEE := Lib.hid (And.intro hE (And.intro hhe hX))
    have hhe' := intrel_eq hhe
    subst hnh
    have hE0 : hideE n n l least width = 0 := hhe
    rw [hhe] at hhe' ⊢
    clear HHr hrow hfr hE hX HX0 HXk hhe hE0 hV
    obtain ⟨m, hm⟩ : ∃ m, m = l.length := ⟨_, rfl⟩
    have Hm := Lib.hid hm
    have Hdl := Lib.hid hdl
    have HSm3 := Lib.hid (HSm.out y3.w ⟨y3, rfl⟩)
    clear HSm
    have HBT3 := Lib.hid (HBT.out.since y3)
    have t0 := HBT3.out.c 0 _ rfl
    have t1 := HBT3.out.c 1 _ rfl
    have t2 := HBT3.out.c 2 _ rfl
    have hgt2 := HBT.out.lt
    clear Hhx0 Hhx1 Hhx2
    go_upto_region 10 with (go_at_call 35; ((with_reducible refine HSm3.out.mono ?_); rintro _ _ ⟨b1, b2, y4, rfl, rfl, hs1, hs2, hsf⟩))
    have HS1 := Lib.hid hs1; have HS2 := Lib.hid hs2; have HSf := Lib.hid hsf
    replace HRh := Lib.hid (HRh.out.to ⟨y4, rfl⟩)
    have HBT4 := Lib.hid (HBT3.out.since y4)
    have t3 : (y4.w.alloc (.cells #[] 3)).cell? ⟨gt, 2, none⟩ = some (.slice a1 l.length c1) := (HBT4.out.up (.cells #[] 3)).c 2 _ rfl
    have HE4 := Lib.hid (els_ints (HR1.out.to (W := y4.w) (IsSince.trans2 ⟨y3, rfl⟩ ⟨y4, rfl⟩)))
    have Hnil := Lib.hid (show a1 = none → c1 = 0 from fun e => by obtain ⟨ba, oa, haa, _⟩ := HR1.out 0 hm0; rw [haa] at e; cases e)
    have hy34 : y3.w.heap.size ≤ y4.w.heap.size := y4.b.size
    have hy23 : y2.w.heap.size ≤ y3.w.heap.size := y3.b.size
    have k4 : ∀ q : Since y4.w, IsSince y2.w q.w := fun q => IsSince.trans2 ⟨y3, rfl⟩ (IsSince.trans2 ⟨y4, rfl⟩ ⟨q, rfl⟩)
    clear hs1 hs2 hsf t0 t1 t2 HBT3 HSm3
    go_upto_region 11 with (at_builtin; (refine wpList_appendEls (w0 := y4.w) (enc := intCs) (k := 1) intCs_len (by decide) intCs_one ?hw rfl _ _ 22 rfl y4.w.heap.size (Nat.le_refl _) ?hb 3 (.int .i64 0) 8 sIntF (.slice (some ⟨y4.w.heap.size, 0, none⟩) 0 0) 0 [] rfl ?hown a1 l c1 rfl ?hels ?hnil ?h63 ?hbytes ?_; rotate_right 1; intro v2 y5 hown2 _ hg2; obtain ⟨gc, cc, rfl, hgc, hbc⟩ := own_boxI hown2 hm0))
    case hw => exact IsSince.alloc (IsSince.self _) _
    case hb => simp
    case hown => exact own_empty (k := 1) (Blk.new y4.w _) (Nat.le_refl _)
    case hels => exact HE4.out.to (IsSince.alloc (IsSince.self _) _)
    case hnil => exact Hnil.out
    case h63 => unfold maxLen; omega
    case hbytes => omega
    have HBc := Lib.hid (show BoxIs y5.w gc (intsF l.length (hidK l hd 0)) from by
      have e : hidK l hd 0 = at0 l := by funext j; unfold hidK; rw [if_neg (by omega)]
      rw [e]; exact hbc)
    clear hown2 hg2 hbc HE4 t3
    go_upto_region 12 with fail
    go_loopw [22] (fun si wr => ∃ (k : Nat) (y : Since y4.w), k ≤ l.length ∧ si = .int .i64 (k : Int) ∧ wr = y.w ∧ BoxIs y.w gc (intsF l.length (hidK l hd k))) (fun si _ => l.length - (intOf si).toNat)
    case atStart => exact ⟨0, y5, by omega, rfl, rfl, HBc.out⟩
    case round =>
      clear HBc
      obtain ⟨k, y, hk, rfl, rfl, hBk⟩ := hrel
      have HBk := Lib.hid hBk
      clear hBk
      by_cases hlt : k < l.length
      · have hk0 : (0 : Int) ≤ (k : Int) := by omega
        have hkl : (k : Int) < (l.length : Int) := by omega
        obtain ⟨bb, ob, rfl, hbb, hcb⟩ := HRh.out k (by rw [Hdl.out]; exact hlt)
        have f1 : y.w.cell? ⟨bb, ob + k, none⟩ = some (.bool (bo hd k)) := Since.cell hcb hbb y
        clear hbb hcb
        cases hb : bo hd k
        · rw [hb] at f1
          have HE := Lib.hid (show intsF l.length (hidK l hd (k + 1)) = intsF l.length (hidK l hd k) from intsF_congr fun j hj => by
            unfold hidK
            by_cases e : j = k
            · subst e; rw [if_neg (by rw [hb]; simp), if_neg (by omega)]
            · by_cases e2 : j < k ∧ bo hd j = true
              · rw [if_pos e2, if_pos ⟨by omega, e2.2⟩]
              · rw [if_neg e2, if_neg (fun hh => e2 ⟨by omega, hh.2⟩)])
          go_wp2_with fail
          go_roundw
          case rel => exact ⟨k + 1, y, by omega, by go_num, rfl, by rw [HE.out]; exact HBk.out⟩
          case measure => simp [intOf] <;> omega
        · rw [hb] at f1
          obtain ⟨y7, h7⟩ := y.set ⟨gc, k, none⟩ hgc (.int .i64 0)
          have hB7 := HBk.out.setj (j := k) (by rw [intsF_len]; exact hlt) (.int .i64 0)
          rw [h7, intsF_set, intsF_congr (g := hidK l hd (k + 1)) (fun j hj => by
            unfold hidK
            by_cases e : j = k
            · subst e; rw [if_pos rfl, if_pos ⟨by omega, hb⟩]
            · rw [if_neg e]
              by_cases e2 : j < k ∧ bo hd j = true
              · rw [if_pos e2, if_pos ⟨by omega, e2.2⟩]
              · rw [if_neg e2, if_neg (fun hh => e2 ⟨by omega, hh.2⟩)])] at hB7
          have s1 := HBk.out.c k _ (intsF_at hlt)
          have s2 := HBk.out.f
          have HB7 := Lib.hid hB7; have H7 := Lib.hid h7
          clear hB7 h7 HBk
          go_wp2_with fail
          rw [H7.out]
          go_roundw
          case rel => exact ⟨k + 1, y7, by omega, by go_num, rfl, HB7.out⟩
          case measure => simp [intOf] <;> omega
      · obtain rfl : k = l.length := by omega
        have hgt4 : gt < y4.w.heap.size := by omega
        have HBT5 := Lib.hid (HBT4.out.since y)
        obtain ⟨zW, hzW⟩ : ∃ z : Since W, y.w = z.w := IsSince.trans2 ⟨y2, rfl⟩ (k4 y)
        obtain ⟨z2, hz2⟩ := zW.set ⟨gt, 2, none⟩ hgtW (.slice (some ⟨gc, 0, none⟩) l.length cc)
        have hg5 := HBT5.out.setj (j := 2) (by simp) (.slice (some ⟨gc, 0, none⟩) l.length cc)
        have q1 := Row.set (HRh.out.to (W := y.w) ⟨y, rfl⟩) ⟨gt, 2, none⟩ (.slice (some ⟨gc, 0, none⟩) l.length cc) (fun b hb => by have := HFh.out b hb; show b.block ≠ gt; omega)
        have q2' := Row.set (HS1.out.to (W := y.w) ⟨y, rfl⟩) ⟨gt, 2, none⟩ (.slice (some ⟨gc, 0, none⟩) l.length cc) (fun b hb => by have := HSf.out b (Or.inl hb); show b.block ≠ gt; omega)
        have q3 := Row.set (HS2.out.to (W := y.w) ⟨y, rfl⟩) ⟨gt, 2, none⟩ (.slice (some ⟨gc, 0, none⟩) l.length cc) (fun b hb => by have := HSf.out b (Or.inr hb); show b.block ≠ gt; omega)
        have q4 := HBk.out.far ⟨gt, 2, none⟩ (.slice (some ⟨gc, 0, none⟩) l.length cc) (by show gc ≠ gt; omega)
        have s2 := HBT5.out.c 2 _ rfl
        have s3 := HBT5.out.f
        have H5 := Lib.hid (show y.w.setCell ⟨gt, 2, none⟩ (.slice (some ⟨gc, 0, none⟩) l.length cc) = z2.w from by rw [hzW]; exact hz2)
        rw [H5.out] at hg5 q1 q2' q3 q4
        have Q1 := Lib.hid q1; have Q2 := Lib.hid q2'; have Q3 := Lib.hid q3; have Q4 := Lib.hid q4; have HG5 := Lib.hid hg5
        clear q1 q2' q3 q4 hg5 hz2 hzW HBk HRh HS1 HS2
        go_upto_region 17 with fail
        rw [H5.out]
        clear s2 s3 H5
        have u0 := HG5.out.c 0 _ rfl
        have u1 := HG5.out.c 1 _ rfl
        have u2 := HG5.out.c 2 _ rfl
        have HPZ := Lib.hid (fun (Z : Since w) (hZ : z2.w.setCells (bx + 1) 0 [.int .i64 f, .int .i64 t, .int .i64 each, .int .i64 (n : Int), .int .i64 (n : Int), .slice (some ⟨gc, 0, none⟩) l.length cc, .slice ah l.length ch, .slice b1 n n, .slice b2 n n, .slice none 0 0] = Z.w) => show RelRes w X E (.returned (.tuple #[.agg #[.int .i64 f, .int .i64 t, .int .i64 each, .int .i64 (n : Int), .int .i64 (n : Int), .slice (some ⟨gc, 0, none⟩) l.length cc, .slice ah l.length ch, .slice b1 n n, .slice b2 n n, .slice none 0 0], .int .i64 0])) Z.w from by
          have hw2 : w.heap.size + 2 ≤ y2.w.heap.size := by have := Hbx.out; have := y2.b.size; omega
          have hbxW : bx + 1 < y2.w.heap.size := by have := Hbx.out; have := y2.b.size; omega
          have R1 := rowB_setMany (g := bx + 1) Q1.out (fun b hb => by have := HFh.out b hb; omega) [.int .i64 f, .int .i64 t, .int .i64 each, .int .i64 (n : Int), .int .i64 (n : Int), .slice (some ⟨gc, 0, none⟩) l.length cc, .slice ah l.length ch, .slice b1 n n, .slice b2 n n, .slice none 0 0] 0
          have R2 := rowB_setMany (g := bx + 1) Q2.out (fun b hb => by have := HSf.out b (Or.inl hb); omega) [.int .i64 f, .int .i64 t, .int .i64 each, .int .i64 (n : Int), .int .i64 (n : Int), .slice (some ⟨gc, 0, none⟩) l.length cc, .slice ah l.length ch, .slice b1 n n, .slice b2 n n, .slice none 0 0] 0
          have R3 := rowB_setMany (g := bx + 1) Q3.out (fun b hb => by have := HSf.out b (Or.inr hb); omega) [.int .i64 f, .int .i64 t, .int .i64 each, .int .i64 (n : Int), .int .i64 (n : Int), .slice (some ⟨gc, 0, none⟩) l.length cc, .slice ah l.length ch, .slice b1 n n, .slice b2 n n, .slice none 0 0] 0
          have R4 := rowB_setMany (g := bx + 1) (intsF_row (l := hidL l hd) Q4.out (by simp [hidL]) (fun i hi => by
            unfold hidL hidK
            rw [at0_map _ _ _ hi]
            by_cases hb : bo hd i = true
            · rw [if_pos ⟨hi, hb⟩, if_pos hb]
            · rw [if_neg (fun hh => hb hh.2), if_neg hb])) (fun b hb => by cases hb; show gc ≠ bx + 1; omega) [.int .i64 f, .int .i64 t, .int .i64 each, .int .i64 (n : Int), .int .i64 (n : Int), .slice (some ⟨gc, 0, none⟩) l.length cc, .slice ah l.length ch, .slice b1 n n, .slice b2 n n, .slice none 0 0] 0
          rw [hZ] at R1 R2 R3 R4
          rw [HEE.out.2.2, HEE.out.1, HEE.out.2.1]
          refine ⟨some ⟨gc, 0, none⟩, ah, b1, b2, none, cc, ch, n, n, 0, Z, by simp [hidL, rowL, colL, Hdl.out], rfl, R4, R1, R2, R3, row_nil' _, fun b hb => ?_⟩
          have hww : w.heap.size ≤ y2.w.heap.size := by omega
          rcases hb with h | h | h | h | h
          · cases h; show w.heap.size ≤ gc; omega
          · exact Nat.le_trans hww (HFh.out b h)
          · have := HSf.out b (Or.inl h); omega
          · have := HSf.out b (Or.inr h); omega
          · cases h)
        clear HG5 Q1 Q2 Q3 Q4 HEE HFh HSf
        go_wp2_with fail
        have hsm : ∀ j, j < 10 → (z2.w.cell? ⟨bx + 1, j, none⟩).isSome = true := fun j hj => by
          match j, hj with
          | 0, _ => rw [hb1_0 z2]; rfl
          | 1, _ => rw [hb1_1 z2]; rfl
          | 2, _ => rw [hb1_2 z2]; rfl
          | 3, _ => rw [hb1_3 z2]; rfl
          | 4, _ => rw [hb1_4 z2]; rfl
          | 5, _ => rw [hb1_5 z2]; rfl
          | 6, _ => rw [hb1_6 z2]; rfl
          | 7, _ => rw [hb1_7 z2]; rfl
          | 8, _ => rw [hb1_8 z2]; rfl
          | 9, _ => rw [hb1_9 z2]; rfl
        obtain ⟨Z, hz, hc⟩ := set_many z2 (g := bx + 1) [.int .i64 f, .int .i64 t, .int .i64 each, .int .i64 (n : Int), .int .i64 (n : Int), .slice (some ⟨gc, 0, none⟩) l.length cc, .slice ah l.length ch, .slice b1 n n, .slice b2 n n, .slice none 0 0] hsm (Hup.out z2) (by have := Hbx.out; omega)
        simp only [World.setCells, Nat.reduceAdd] at hz
        rw [hz]
        have hc0 := hc 0 _ rfl
        have hc1 := hc 1 _ rfl
        have hc2 := hc 2 _ rfl
        have hc3 := hc 3 _ rfl
        have hc4 := hc 4 _ rfl
        have hc5 := hc 5 _ rfl
        have hc6 := hc 6 _ rfl
        have hc7 := hc 7 _ rfl
        have hc8 := hc 8 _ rfl
        have hc9 := hc 9 _ rfl
        exact bodyPost_ret (v := .tuple #[.agg #[.int .i64 f, .int .i64 t, .int .i64 each, .int .i64 (n : Int), .int .i64 (n : Int), .slice (some ⟨gc, 0, none⟩) l.length cc, .slice ah l.length ch, .slice b1 n n, .slice b2 n n, .slice none 0 0], .int .i64 0]) (by simp [results, Tryd.results13, go_sem, hc0, hc1, hc2, hc3, hc4, hc5, hc6, hc7, hc8, hc9]) rfl (HPZ.out Z hz)
  · have hE : E = E2 := HE1.out h1
    have hX : X = rel0 := HT.out (by rw [hE]; exact h1)
    have HP := Lib.hid (fun y : Since w => show RelRes w X E (.returned (.tuple #[.agg #[.int .i64 0, .int .i64 0, .int .i64 0, .int .i64 0, .int .i64 0, .slice none 0 0, .slice none 0 0, .slice none 0 0, .slice none 0 0, .slice none 0 0], .int .i64 E2])) y.w from by rw [hE, hX]; exact relres_no y)
    clear hE hX HE1 HE2 HE3 HT HG
    go_wp2_with fail
    have hsm : ∀ j, j < 10 → (y2.w.cell? ⟨bx + 1, j, none⟩).isSome = true := fun j hj => by
      match j, hj with
      | 0, _ => rw [hb1_0 y2]; rfl
      | 1, _ => rw [hb1_1 y2]; rfl
      | 2, _ => rw [hb1_2 y2]; rfl
      | 3, _ => rw [hb1_3 y2]; rfl
      | 4, _ => rw [hb1_4 y2]; rfl
      | 5, _ => rw [hb1_5 y2]; rfl
      | 6, _ => rw [hb1_6 y2]; rfl
      | 7, _ => rw [hb1_7 y2]; rfl
      | 8, _ => rw [hb1_8 y2]; rfl
      | 9, _ => rw [hb1_9 y2]; rfl
    obtain ⟨Z, hz, hc⟩ := set_many y2 (g := bx + 1) [.int .i64 0, .int .i64 0, .int .i64 0, .int .i64 0, .int .i64 0, .slice none 0 0, .slice none 0 0, .slice none 0 0, .slice none 0 0, .slice none 0 0] hsm (Hup.out y2) (by have := Hbx.out; omega)
    simp only [World.setCells, Nat.reduceAdd] at hz
    rw [hz]
    have hc0 := hc 0 _ rfl
    have hc1 := hc 1 _ rfl
    have hc2 := hc 2 _ rfl
    have hc3 := hc 3 _ rfl
    have hc4 := hc 4 _ rfl
    have hc5 := hc 5 _ rfl
    have hc6 := hc 6 _ rfl
    have hc7 := hc 7 _ rfl
    have hc8 := hc 8 _ rfl
    have hc9 := hc 9 _ rfl
    exact bodyPost_ret (v := .tuple #[.agg #[.int .i64 0, .int .i64 0, .int .i64 0, .int .i64 0, .int .i64 0, .slice none 0 0, .slice none 0 0, .slice none 0 0, .slice none 0 0, .slice none 0 0], .int .i64 E2]) (by simp [results, Tryd.results13, go_sem, hc0, hc1, hc2, hc3, hc4, hc5, hc6, hc7, hc8, hc9]) rfl (HP.out Z)
end Go.Proofs.YtdkcclngionihaaDoor
/- The law ReleaseHides, walked. Written by mkk6.py. -/
namespace Go.Proofs.YtdkcclngionihaaDoor
open Go.RowKit

theorem ex_len {zs : List Int} {size : Int} {R : List Ride} {f t each least width : Int} (hl : R.length ≤ 1024) : RelLen (exR zs size R f t each least width) := by
  have h00 : RelLen rel0 := by unfold rel0; refine ⟨?_, ?_, ?_, ?_, ?_⟩ <;> simp
  unfold exR
  split
  · rename_i h
    have h2 : rlE zs size R f t each = 0 := by
      unfold exE at h
      by_cases h0 : rlE zs size R f t each = 0
      · exact h0
      · rw [if_pos h0] at h; exact absurd h h0
    obtain ⟨n, l, hs, hT, hG⟩ := rl_good h2 hl
    have := hG.len
    have hr := hG.r
    have hc := hG.c
    rw [hT]
    split
    · rename_i k hk
      have := hideV_len hk
      dsimp only at this ⊢
      rw [hs]
      refine ⟨?_, ?_, ?_, ?_, by simp⟩
      · simp [hidL]; omega
      · show k.length ≤ _; omega
      · simp [rowL]; omega
      · simp [colL]; omega
    · exact h00
  · exact h00
set_option linter.unusedSimpArgs false in
set_option maxRecDepth 100000 in
set_option maxHeartbeats 32000000 in
theorem releaseHides_calls (w : World) (x : Since w) (hs : Signs w) (q : Cas) (least width : Int) (h : q.At w) :
    Calls Tryd.prog 3 #[.agg #[.slice q.az q.zs.length q.cz, .int .i64 q.n, .slice q.a q.R.length q.c, .int .i64 q.f, .int .i64 q.t, .int .i64 q.e], .int .i64 least, .int .i64 width] x.w fun o w' => o = .returned (.bool true) ∧ ∃ y : Since w, w' = y.w := by
  have H := Lib.hid h; have HY := Lib.hid hs
  have HF := Lib.hid (fun (W : World) (y : Since W) h => few56_calls W y q h)
  have HFw := Lib.hid (show fewQ q = true → q.R.length ≤ 30 from fun h => by
    unfold fewQ at h
    rw [Bool.and_eq_true, decide_eq_true_eq] at h
    exact h.1.1)
  generalize fewQ q = FQ at *
  obtain ⟨az, zs, cz, n, e, a, R, c, f, t⟩ := q
  dsimp only at H HF HFw ⊢
  clear h hs
  go_enter Tryd.func3, Tryd.ntmps3
  go_upto_region 1 with fail
  have hb0_0 : ∀ y : Since (x.w.alloc (.cells #[.slice az zs.length cz, .int .i64 n, .slice a R.length c, .int .i64 f, .int .i64 t, .int .i64 e] 27)), y.w.cell? ⟨x.w.heap.size, 0, none⟩ = some (.slice az zs.length cz) := fun y => Since.cell (by simp [go_sem]) (by first | (simp; done) | (simp; omega)) y
  have hb0_1 : ∀ y : Since (x.w.alloc (.cells #[.slice az zs.length cz, .int .i64 n, .slice a R.length c, .int .i64 f, .int .i64 t, .int .i64 e] 27)), y.w.cell? ⟨x.w.heap.size, 1, none⟩ = some (.int .i64 n) := fun y => Since.cell (by simp [go_sem]) (by first | (simp; done) | (simp; omega)) y
  have hb0_2 : ∀ y : Since (x.w.alloc (.cells #[.slice az zs.length cz, .int .i64 n, .slice a R.length c, .int .i64 f, .int .i64 t, .int .i64 e] 27)), y.w.cell? ⟨x.w.heap.size, 2, none⟩ = some (.slice a R.length c) := fun y => Since.cell (by simp [go_sem]) (by first | (simp; done) | (simp; omega)) y
  have hb0_3 : ∀ y : Since (x.w.alloc (.cells #[.slice az zs.length cz, .int .i64 n, .slice a R.length c, .int .i64 f, .int .i64 t, .int .i64 e] 27)), y.w.cell? ⟨x.w.heap.size, 3, none⟩ = some (.int .i64 f) := fun y => Since.cell (by simp [go_sem]) (by first | (simp; done) | (simp; omega)) y
  have hb0_4 : ∀ y : Since (x.w.alloc (.cells #[.slice az zs.length cz, .int .i64 n, .slice a R.length c, .int .i64 f, .int .i64 t, .int .i64 e] 27)), y.w.cell? ⟨x.w.heap.size, 4, none⟩ = some (.int .i64 t) := fun y => Since.cell (by simp [go_sem]) (by first | (simp; done) | (simp; omega)) y
  have hb0_5 : ∀ y : Since (x.w.alloc (.cells #[.slice az zs.length cz, .int .i64 n, .slice a R.length c, .int .i64 f, .int .i64 t, .int .i64 e] 27)), y.w.cell? ⟨x.w.heap.size, 5, none⟩ = some (.int .i64 e) := fun y => Since.cell (by simp [go_sem]) (by first | (simp; done) | (simp; omega)) y
  have hf0 : ∀ (y : Since (x.w.alloc (.cells #[.slice az zs.length cz, .int .i64 n, .slice a R.length c, .int .i64 f, .int .i64 t, .int .i64 e] 27))) (o : Nat), y.w.frozen? ⟨x.w.heap.size, o, none⟩ = false := fun y o => Since.free (by simp [go_sem]) (by first | (simp; done) | (simp; omega)) y
  have hWup : ∃ z : Since w, (x.w.alloc (.cells #[.slice az zs.length cz, .int .i64 n, .slice a R.length c, .int .i64 f, .int .i64 t, .int .i64 e] 27)) = z.w := x.alloc _
  obtain ⟨y0, hy0⟩ := Since.refl (x.w.alloc (.cells #[.slice az zs.length cz, .int .i64 n, .slice a R.length c, .int .i64 f, .int .i64 t, .int .i64 e] 27))
  have Hbx := Lib.hid (And.intro x.b.size (show x.w.heap.size + 1 = (x.w.alloc (.cells #[.slice az zs.length cz, .int .i64 n, .slice a R.length c, .int .i64 f, .int .i64 t, .int .i64 e] 27)).heap.size from by simp))
  generalize hW : (x.w.alloc (.cells #[.slice az zs.length cz, .int .i64 n, .slice a R.length c, .int .i64 f, .int .i64 t, .int .i64 e] 27)) = W at *
  clear hW
  generalize x.w.heap.size = bx at *
  have Hup := Lib.hid (Since.up hWup)
  rw [hy0]
  clear hy0
  have HAw := Lib.hid (fun z : Since W => awake_calls W z (HY.out.to hWup))
  have HSg := Lib.hid (HY.out.to hWup)
  have HF1 := Lib.hid (fun z : Since W => HF.out W z (H.out.to hWup))
  have HQ := Lib.hid (show Cas.At W ⟨az, zs, cz, n, e, a, R, c, f, t⟩ from H.out.to hWup)
  clear H HF HY hWup hf0
  cases FQ with
  | false =>
    clear HFw
    go_wp2_with (first | (go_at_call 10; ((with_reducible refine (HF1.out _).mono ?_); rintro _ _ ⟨rfl, z, rfl⟩)) | (go_at_call 11; ((with_reducible refine (HAw.out _).mono ?_); rintro _ _ ⟨rfl, yw, rfl⟩)))
    go_ret
    exact ⟨rfl, Hup.out _⟩
  | true =>
    have hR30 := HFw.out rfl
    clear HFw
    go_upto_region 3 with (go_at_call 10; ((with_reducible refine (HF1.out _).mono ?_); rintro _ _ ⟨rfl, z, rfl⟩))
    clear HF1
    have HLn := Lib.hid (ex_len (zs := zs) (size := n) (R := R) (f := f) (t := t) (each := e) (least := least) (width := width) (by omega))
    have HX := Lib.hid (fun z : Since W => exact_calls W z az zs cz n a R c f t e least width HQ.out.z HQ.out.zl HQ.out.r (by omega) HQ.out.i)
    have HX2 := Lib.hid (fun (u : Since W) (z : Since u.w) => rexact_calls u.w z az zs cz n a R c f t e least width (HQ.out.z.to ⟨u, rfl⟩) HQ.out.zl (HQ.out.r.to ⟨u, rfl⟩) (by omega) HQ.out.i)
    generalize exE zs n R f t e least width = E at *
    generalize exR zs n R f t e least width = X at *
    clear HQ
    go_upto_region 4 with (go_at_call 12; ((with_reducible refine (HX.out _).mono ?_); rintro _ _ ⟨a1, a2, a3, a4, a5, c1, c2, c3, c4, c5, y1, rfl, rfl, r1, r2, r3, r4, r5, -⟩))
    have HRA := Lib.hid (show RelRows y1.w X a1 a2 a3 a4 a5 from ⟨r1, r2, r3, r4, r5⟩)
    clear r1 r2 r3 r4 r5 HX
    have hx0 : (y1.w.alloc (.cells #[.int .i64 X.f, .int .i64 X.t, .int .i64 X.each, .int .i64 X.r, .int .i64 X.c, .slice a1 X.cells.length c1, .slice a2 X.hid.length c2, .slice a3 X.rows.length c3, .slice a4 X.cols.length c4, .slice a5 X.ws.length c5] 36)).cell? ⟨y1.w.heap.size, 0, none⟩ = some (.int .i64 X.f) := by simp [go_sem]
    have hx1 : (y1.w.alloc (.cells #[.int .i64 X.f, .int .i64 X.t, .int .i64 X.each, .int .i64 X.r, .int .i64 X.c, .slice a1 X.cells.length c1, .slice a2 X.hid.length c2, .slice a3 X.rows.length c3, .slice a4 X.cols.length c4, .slice a5 X.ws.length c5] 36)).cell? ⟨y1.w.heap.size, 1, none⟩ = some (.int .i64 X.t) := by simp [go_sem]
    have hx2 : (y1.w.alloc (.cells #[.int .i64 X.f, .int .i64 X.t, .int .i64 X.each, .int .i64 X.r, .int .i64 X.c, .slice a1 X.cells.length c1, .slice a2 X.hid.length c2, .slice a3 X.rows.length c3, .slice a4 X.cols.length c4, .slice a5 X.ws.length c5] 36)).cell? ⟨y1.w.heap.size, 2, none⟩ = some (.int .i64 X.each) := by simp [go_sem]
    have hx3 : (y1.w.alloc (.cells #[.int .i64 X.f, .int .i64 X.t, .int .i64 X.each, .int .i64 X.r, .int .i64 X.c, .slice a1 X.cells.length c1, .slice a2 X.hid.length c2, .slice a3 X.rows.length c3, .slice a4 X.cols.length c4, .slice a5 X.ws.length c5] 36)).cell? ⟨y1.w.heap.size, 3, none⟩ = some (.int .i64 X.r) := by simp [go_sem]
    have hx4 : (y1.w.alloc (.cells #[.int .i64 X.f, .int .i64 X.t, .int .i64 X.each, .int .i64 X.r, .int .i64 X.c, .slice a1 X.cells.length c1, .slice a2 X.hid.length c2, .slice a3 X.rows.length c3, .slice a4 X.cols.length c4, .slice a5 X.ws.length c5] 36)).cell? ⟨y1.w.heap.size, 4, none⟩ = some (.int .i64 X.c) := by simp [go_sem]
    have hx5 : (y1.w.alloc (.cells #[.int .i64 X.f, .int .i64 X.t, .int .i64 X.each, .int .i64 X.r, .int .i64 X.c, .slice a1 X.cells.length c1, .slice a2 X.hid.length c2, .slice a3 X.rows.length c3, .slice a4 X.cols.length c4, .slice a5 X.ws.length c5] 36)).cell? ⟨y1.w.heap.size, 5, none⟩ = some (.slice a1 X.cells.length c1) := by simp [go_sem]
    have hx6 : (y1.w.alloc (.cells #[.int .i64 X.f, .int .i64 X.t, .int .i64 X.each, .int .i64 X.r, .int .i64 X.c, .slice a1 X.cells.length c1, .slice a2 X.hid.length c2, .slice a3 X.rows.length c3, .slice a4 X.cols.length c4, .slice a5 X.ws.length c5] 36)).cell? ⟨y1.w.heap.size, 6, none⟩ = some (.slice a2 X.hid.length c2) := by simp [go_sem]
    have hx7 : (y1.w.alloc (.cells #[.int .i64 X.f, .int .i64 X.t, .int .i64 X.each, .int .i64 X.r, .int .i64 X.c, .slice a1 X.cells.length c1, .slice a2 X.hid.length c2, .slice a3 X.rows.length c3, .slice a4 X.cols.length c4, .slice a5 X.ws.length c5] 36)).cell? ⟨y1.w.heap.size, 7, none⟩ = some (.slice a3 X.rows.length c3) := by simp [go_sem]
    have hx8 : (y1.w.alloc (.cells #[.int .i64 X.f, .int .i64 X.t, .int .i64 X.each, .int .i64 X.r, .int .i64 X.c, .slice a1 X.cells.length c1, .slice a2 X.hid.length c2, .slice a3 X.rows.length c3, .slice a4 X.cols.length c4, .slice a5 X.ws.length c5] 36)).cell? ⟨y1.w.heap.size, 8, none⟩ = some (.slice a4 X.cols.length c4) := by simp [go_sem]
    have hx9 : (y1.w.alloc (.cells #[.int .i64 X.f, .int .i64 X.t, .int .i64 X.each, .int .i64 X.r, .int .i64 X.c, .slice a1 X.cells.length c1, .slice a2 X.hid.length c2, .slice a3 X.rows.length c3, .slice a4 X.cols.length c4, .slice a5 X.ws.length c5] 36)).cell? ⟨y1.w.heap.size, 9, none⟩ = some (.slice a5 X.ws.length c5) := by simp [go_sem]
    have hxf : ∀ o, (y1.w.alloc (.cells #[.int .i64 X.f, .int .i64 X.t, .int .i64 X.each, .int .i64 X.r, .int .i64 X.c, .slice a1 X.cells.length c1, .slice a2 X.hid.length c2, .slice a3 X.rows.length c3, .slice a4 X.cols.length c4, .slice a5 X.ws.length c5] 36)).frozen? ⟨y1.w.heap.size, o, none⟩ = false := fun o => by simp [go_sem]
    have hlt0 : y1.w.heap.size < (y1.w.alloc (.cells #[.int .i64 X.f, .int .i64 X.t, .int .i64 X.each, .int .i64 X.r, .int .i64 X.c, .slice a1 X.cells.length c1, .slice a2 X.hid.length c2, .slice a3 X.rows.length c3, .slice a4 X.cols.length c4, .slice a5 X.ws.length c5] 36)).heap.size := by simp
    have hst0 : ∃ zz : Since y1.w, (y1.w.alloc (.cells #[.int .i64 X.f, .int .i64 X.t, .int .i64 X.each, .int .i64 X.r, .int .i64 X.c, .slice a1 X.cells.length c1, .slice a2 X.hid.length c2, .slice a3 X.rows.length c3, .slice a4 X.cols.length c4, .slice a5 X.ws.length c5] 36)) = zz.w := IsSince.alloc (IsSince.self _) _
    have hsz0 := y1.b.size
    obtain ⟨y2, e2⟩ := IsSince.alloc (IsSince.of y1) (.cells #[.int .i64 X.f, .int .i64 X.t, .int .i64 X.each, .int .i64 X.r, .int .i64 X.c, .slice a1 X.cells.length c1, .slice a2 X.hid.length c2, .slice a3 X.rows.length c3, .slice a4 X.cols.length c4, .slice a5 X.ws.length c5] 36)
    rw [e2] at hx0 hx1 hx2 hx3 hx4 hx5 hx6 hx7 hx8 hx9 hxf hlt0 hst0 ⊢
    (replace HRA := Lib.hid (HRA.out.to hst0))
    clear e2 hst0
    generalize y1.w.heap.size = gx at *
    have Hhx0 : ∀ q : Since y2.w, q.w.cell? ⟨gx, 0, none⟩ = some (.int .i64 X.f) := fun q => Since.cell hx0 (by omega) q
    have Hhx1 : ∀ q : Since y2.w, q.w.cell? ⟨gx, 1, none⟩ = some (.int .i64 X.t) := fun q => Since.cell hx1 (by omega) q
    have Hhx2 : ∀ q : Since y2.w, q.w.cell? ⟨gx, 2, none⟩ = some (.int .i64 X.each) := fun q => Since.cell hx2 (by omega) q
    have Hhx3 : ∀ q : Since y2.w, q.w.cell? ⟨gx, 3, none⟩ = some (.int .i64 X.r) := fun q => Since.cell hx3 (by omega) q
    have Hhx4 : ∀ q : Since y2.w, q.w.cell? ⟨gx, 4, none⟩ = some (.int .i64 X.c) := fun q => Since.cell hx4 (by omega) q
    have Hhx5 : ∀ q : Since y2.w, q.w.cell? ⟨gx, 5, none⟩ = some (.slice a1 X.cells.length c1) := fun q => Since.cell hx5 (by omega) q
    have Hhx6 : ∀ q : Since y2.w, q.w.cell? ⟨gx, 6, none⟩ = some (.slice a2 X.hid.length c2) := fun q => Since.cell hx6 (by omega) q
    have Hhx7 : ∀ q : Since y2.w, q.w.cell? ⟨gx, 7, none⟩ = some (.slice a3 X.rows.length c3) := fun q => Since.cell hx7 (by omega) q
    have Hhx8 : ∀ q : Since y2.w, q.w.cell? ⟨gx, 8, none⟩ = some (.slice a4 X.cols.length c4) := fun q => Since.cell hx8 (by omega) q
    have Hhx9 : ∀ q : Since y2.w, q.w.cell? ⟨gx, 9, none⟩ = some (.slice a5 X.ws.length c5) := fun q => Since.cell hx9 (by omega) q
    have Hhxf : ∀ (q : Since y2.w) (o : Nat), q.w.frozen? ⟨gx, o, none⟩ = false := fun q o => Since.free (hxf o) (by omega) q
    have Hhxg := Lib.hid (And.intro hsz0 hlt0)
    clear hlt0 hsz0
    clear hx0 hx1 hx2 hx3 hx4 hx5 hx6 hx7 hx8 hx9 hxf Hhxf Hhxg
    have HXB := Lib.hid (fun z : Since y2.w => HX2.out y2 z)
    have HS2 := Lib.hid (HSg.out.to ⟨y2, rfl⟩)
    have HU2 := Lib.hid (fun q : Since y2.w => show ∃ z : Since w, q.w = z.w from by
      obtain ⟨z1, e1⟩ := y2.trans q
      rw [e1]; exact Hup.out z1)
    clear HX2 HSg HAw Hup
    replace hb0_0 := Since.cellTo ⟨y2, rfl⟩ hb0_0
    replace hb0_1 := Since.cellTo ⟨y2, rfl⟩ hb0_1
    replace hb0_2 := Since.cellTo ⟨y2, rfl⟩ hb0_2
    replace hb0_3 := Since.cellTo ⟨y2, rfl⟩ hb0_3
    replace hb0_4 := Since.cellTo ⟨y2, rfl⟩ hb0_4
    replace hb0_5 := Since.cellTo ⟨y2, rfl⟩ hb0_5
    obtain ⟨q2, hq0⟩ := Since.refl y2.w
    rw [hq0]
    clear hq0
    go_upto_region 5 with (go_at_call 13; ((with_reducible refine (HXB.out _).mono ?_); rintro _ _ ⟨b1, b2, b3, b4, b5, d1, d2, d3, d4, d5, y3, rfl, rfl, r1, r2, r3, r4, r5, -⟩))
    have HRB := Lib.hid (show RelRows y3.w X b1 b2 b3 b4 b5 from ⟨r1, r2, r3, r4, r5⟩)
    clear r1 r2 r3 r4 r5 HXB
    have hz0 : (y3.w.alloc (.cells #[.int .i64 X.f, .int .i64 X.t, .int .i64 X.each, .int .i64 X.r, .int .i64 X.c, .slice b1 X.cells.length d1, .slice b2 X.hid.length d2, .slice b3 X.rows.length d3, .slice b4 X.cols.length d4, .slice b5 X.ws.length d5] 36)).cell? ⟨y3.w.heap.size, 0, none⟩ = some (.int .i64 X.f) := by simp [go_sem]
    have hz1 : (y3.w.alloc (.cells #[.int .i64 X.f, .int .i64 X.t, .int .i64 X.each, .int .i64 X.r, .int .i64 X.c, .slice b1 X.cells.length d1, .slice b2 X.hid.length d2, .slice b3 X.rows.length d3, .slice b4 X.cols.length d4, .slice b5 X.ws.length d5] 36)).cell? ⟨y3.w.heap.size, 1, none⟩ = some (.int .i64 X.t) := by simp [go_sem]
    have hz2 : (y3.w.alloc (.cells #[.int .i64 X.f, .int .i64 X.t, .int .i64 X.each, .int .i64 X.r, .int .i64 X.c, .slice b1 X.cells.length d1, .slice b2 X.hid.length d2, .slice b3 X.rows.length d3, .slice b4 X.cols.length d4, .slice b5 X.ws.length d5] 36)).cell? ⟨y3.w.heap.size, 2, none⟩ = some (.int .i64 X.each) := by simp [go_sem]
    have hz3 : (y3.w.alloc (.cells #[.int .i64 X.f, .int .i64 X.t, .int .i64 X.each, .int .i64 X.r, .int .i64 X.c, .slice b1 X.cells.length d1, .slice b2 X.hid.length d2, .slice b3 X.rows.length d3, .slice b4 X.cols.length d4, .slice b5 X.ws.length d5] 36)).cell? ⟨y3.w.heap.size, 3, none⟩ = some (.int .i64 X.r) := by simp [go_sem]
    have hz4 : (y3.w.alloc (.cells #[.int .i64 X.f, .int .i64 X.t, .int .i64 X.each, .int .i64 X.r, .int .i64 X.c, .slice b1 X.cells.length d1, .slice b2 X.hid.length d2, .slice b3 X.rows.length d3, .slice b4 X.cols.length d4, .slice b5 X.ws.length d5] 36)).cell? ⟨y3.w.heap.size, 4, none⟩ = some (.int .i64 X.c) := by simp [go_sem]
    have hz5 : (y3.w.alloc (.cells #[.int .i64 X.f, .int .i64 X.t, .int .i64 X.each, .int .i64 X.r, .int .i64 X.c, .slice b1 X.cells.length d1, .slice b2 X.hid.length d2, .slice b3 X.rows.length d3, .slice b4 X.cols.length d4, .slice b5 X.ws.length d5] 36)).cell? ⟨y3.w.heap.size, 5, none⟩ = some (.slice b1 X.cells.length d1) := by simp [go_sem]
    have hz6 : (y3.w.alloc (.cells #[.int .i64 X.f, .int .i64 X.t, .int .i64 X.each, .int .i64 X.r, .int .i64 X.c, .slice b1 X.cells.length d1, .slice b2 X.hid.length d2, .slice b3 X.rows.length d3, .slice b4 X.cols.length d4, .slice b5 X.ws.length d5] 36)).cell? ⟨y3.w.heap.size, 6, none⟩ = some (.slice b2 X.hid.length d2) := by simp [go_sem]
    have hz7 : (y3.w.alloc (.cells #[.int .i64 X.f, .int .i64 X.t, .int .i64 X.each, .int .i64 X.r, .int .i64 X.c, .slice b1 X.cells.length d1, .slice b2 X.hid.length d2, .slice b3 X.rows.length d3, .slice b4 X.cols.length d4, .slice b5 X.ws.length d5] 36)).cell? ⟨y3.w.heap.size, 7, none⟩ = some (.slice b3 X.rows.length d3) := by simp [go_sem]
    have hz8 : (y3.w.alloc (.cells #[.int .i64 X.f, .int .i64 X.t, .int .i64 X.each, .int .i64 X.r, .int .i64 X.c, .slice b1 X.cells.length d1, .slice b2 X.hid.length d2, .slice b3 X.rows.length d3, .slice b4 X.cols.length d4, .slice b5 X.ws.length d5] 36)).cell? ⟨y3.w.heap.size, 8, none⟩ = some (.slice b4 X.cols.length d4) := by simp [go_sem]
    have hz9 : (y3.w.alloc (.cells #[.int .i64 X.f, .int .i64 X.t, .int .i64 X.each, .int .i64 X.r, .int .i64 X.c, .slice b1 X.cells.length d1, .slice b2 X.hid.length d2, .slice b3 X.rows.length d3, .slice b4 X.cols.length d4, .slice b5 X.ws.length d5] 36)).cell? ⟨y3.w.heap.size, 9, none⟩ = some (.slice b5 X.ws.length d5) := by simp [go_sem]
    have hzf : ∀ o, (y3.w.alloc (.cells #[.int .i64 X.f, .int .i64 X.t, .int .i64 X.each, .int .i64 X.r, .int .i64 X.c, .slice b1 X.cells.length d1, .slice b2 X.hid.length d2, .slice b3 X.rows.length d3, .slice b4 X.cols.length d4, .slice b5 X.ws.length d5] 36)).frozen? ⟨y3.w.heap.size, o, none⟩ = false := fun o => by simp [go_sem]
    have hlt0 : y3.w.heap.size < (y3.w.alloc (.cells #[.int .i64 X.f, .int .i64 X.t, .int .i64 X.each, .int .i64 X.r, .int .i64 X.c, .slice b1 X.cells.length d1, .slice b2 X.hid.length d2, .slice b3 X.rows.length d3, .slice b4 X.cols.length d4, .slice b5 X.ws.length d5] 36)).heap.size := by simp
    have hst0 : ∃ zz : Since y3.w, (y3.w.alloc (.cells #[.int .i64 X.f, .int .i64 X.t, .int .i64 X.each, .int .i64 X.r, .int .i64 X.c, .slice b1 X.cells.length d1, .slice b2 X.hid.length d2, .slice b3 X.rows.length d3, .slice b4 X.cols.length d4, .slice b5 X.ws.length d5] 36)) = zz.w := IsSince.alloc (IsSince.self _) _
    have hsz0 := y3.b.size
    obtain ⟨y4, e2⟩ := IsSince.alloc (IsSince.of y3) (.cells #[.int .i64 X.f, .int .i64 X.t, .int .i64 X.each, .int .i64 X.r, .int .i64 X.c, .slice b1 X.cells.length d1, .slice b2 X.hid.length d2, .slice b3 X.rows.length d3, .slice b4 X.cols.length d4, .slice b5 X.ws.length d5] 36)
    rw [e2] at hz0 hz1 hz2 hz3 hz4 hz5 hz6 hz7 hz8 hz9 hzf hlt0 hst0 ⊢
    (replace HRB := Lib.hid (HRB.out.to hst0))
    clear e2 hst0
    generalize y3.w.heap.size = gy at *
    have Hhz0 : ∀ q : Since y4.w, q.w.cell? ⟨gy, 0, none⟩ = some (.int .i64 X.f) := fun q => Since.cell hz0 (by omega) q
    have Hhz1 : ∀ q : Since y4.w, q.w.cell? ⟨gy, 1, none⟩ = some (.int .i64 X.t) := fun q => Since.cell hz1 (by omega) q
    have Hhz2 : ∀ q : Since y4.w, q.w.cell? ⟨gy, 2, none⟩ = some (.int .i64 X.each) := fun q => Since.cell hz2 (by omega) q
    have Hhz3 : ∀ q : Since y4.w, q.w.cell? ⟨gy, 3, none⟩ = some (.int .i64 X.r) := fun q => Since.cell hz3 (by omega) q
    have Hhz4 : ∀ q : Since y4.w, q.w.cell? ⟨gy, 4, none⟩ = some (.int .i64 X.c) := fun q => Since.cell hz4 (by omega) q
    have Hhz5 : ∀ q : Since y4.w, q.w.cell? ⟨gy, 5, none⟩ = some (.slice b1 X.cells.length d1) := fun q => Since.cell hz5 (by omega) q
    have Hhz6 : ∀ q : Since y4.w, q.w.cell? ⟨gy, 6, none⟩ = some (.slice b2 X.hid.length d2) := fun q => Since.cell hz6 (by omega) q
    have Hhz7 : ∀ q : Since y4.w, q.w.cell? ⟨gy, 7, none⟩ = some (.slice b3 X.rows.length d3) := fun q => Since.cell hz7 (by omega) q
    have Hhz8 : ∀ q : Since y4.w, q.w.cell? ⟨gy, 8, none⟩ = some (.slice b4 X.cols.length d4) := fun q => Since.cell hz8 (by omega) q
    have Hhz9 : ∀ q : Since y4.w, q.w.cell? ⟨gy, 9, none⟩ = some (.slice b5 X.ws.length d5) := fun q => Since.cell hz9 (by omega) q
    have Hhzf : ∀ (q : Since y4.w) (o : Nat), q.w.frozen? ⟨gy, o, none⟩ = false := fun q o => Since.free (hzf o) (by omega) q
    have Hhzg := Lib.hid (And.intro hsz0 hlt0)
    clear hlt0 hsz0
    clear hz0 hz1 hz2 hz3 hz4 hz5 hz6 hz7 hz8 hz9 hzf Hhzf Hhzg
    replace HRA := Lib.hid (HRA.out.to ⟨y4, rfl⟩)
    replace Hhx0 := Since.cellTo ⟨y4, rfl⟩ Hhx0
    replace Hhx1 := Since.cellTo ⟨y4, rfl⟩ Hhx1
    replace Hhx2 := Since.cellTo ⟨y4, rfl⟩ Hhx2
    replace Hhx3 := Since.cellTo ⟨y4, rfl⟩ Hhx3
    replace Hhx4 := Since.cellTo ⟨y4, rfl⟩ Hhx4
    replace Hhx5 := Since.cellTo ⟨y4, rfl⟩ Hhx5
    replace Hhx6 := Since.cellTo ⟨y4, rfl⟩ Hhx6
    replace Hhx7 := Since.cellTo ⟨y4, rfl⟩ Hhx7
    replace Hhx8 := Since.cellTo ⟨y4, rfl⟩ Hhx8
    replace Hhx9 := Since.cellTo ⟨y4, rfl⟩ Hhx9
    have HAw := Lib.hid (fun q : Since y4.w => awake_calls y4.w q (HS2.out.to ⟨y4, rfl⟩))
    have HSm := Lib.hid (fun q : Since y4.w => show Calls Tryd.prog 14 #[.agg #[.int .i64 X.f, .int .i64 X.t, .int .i64 X.each, .int .i64 X.r, .int .i64 X.c, .slice a1 X.cells.length c1, .slice a2 X.hid.length c2, .slice a3 X.rows.length c3, .slice a4 X.cols.length c4, .slice a5 X.ws.length c5], .agg #[.int .i64 X.f, .int .i64 X.t, .int .i64 X.each, .int .i64 X.r, .int .i64 X.c, .slice b1 X.cells.length d1, .slice b2 X.hid.length d2, .slice b3 X.rows.length d3, .slice b4 X.cols.length d4, .slice b5 X.ws.length d5]] q.w (fun o w' => o = .returned (.bool true) ∧ ∃ y : Since y4.w, w' = y.w) from by
      have := rsame_calls y4.w q X X a1 a2 a3 a4 a5 b1 b2 b3 b4 b5 c1 c2 c3 c4 c5 d1 d2 d3 d4 d5 HRA.out.a HRA.out.b HRA.out.c HRA.out.d HRA.out.e HLn.out HRB.out.a HRB.out.b HRB.out.c HRB.out.d HRB.out.e HLn.out
      rwa [show sameR X X = true from same_yes ⟨rfl, rfl, rfl, rfl, rfl⟩ rfl rfl rfl rfl rfl] at this)
    have HU4 := Lib.hid (fun q : Since y4.w => show ∃ z : Since w, q.w = z.w from by
      obtain ⟨z0, e0⟩ := y4.trans q
      rw [e0]; exact HU2.out z0)
    clear HRA HRB HLn HS2 HU2
    obtain ⟨q4, hq0⟩ := Since.refl y4.w
    rw [hq0]
    clear hq0
    go_wp2_with (first | (go_at_call 14; ((with_reducible refine (HSm.out _).mono ?_); rintro _ _ ⟨rfl, y5, rfl⟩)) | (go_at_call 11; ((with_reducible refine (HAw.out _).mono ?_); rintro _ _ ⟨rfl, yw, rfl⟩)))
    go_ret
    exact ⟨rfl, HU4.out _⟩
end Go.Proofs.YtdkcclngionihaaDoor
