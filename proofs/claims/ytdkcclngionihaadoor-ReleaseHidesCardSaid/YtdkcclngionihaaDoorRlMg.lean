/- Worlds with new blocks and draws, no more; comparing numbers: what the library's sort asks of a comparison. -/
import Derived.Test.YtdkcclngionihaaDoorRlMf
import Derived.Deep.QuietTactic
import Derived.BigQuiet
import Derived.Shelf.SlSortCmp.NoneTotal
import Derived.Test.YtdkcclngionihaaDoorProg
import Derived.Shelf.Lay
import Derived.Shelf.SlGeneric
import Derived.Shelf.SlicesQ.IndexFunc
import Derived.Ground.SlsfProg
import Derived.Ground.SlgfProg
import Derived.Deep.RegionWith
import Derived.IntWalk
import Derived.ChangeKeysEq
set_option linter.all false
namespace Go.Proofs.YtdkcclngionihaaDoor
open Go.RowKit Go.Sort

/-- new blocks and draws, no more -/
def Gr (w w' : World) : Prop := ∃ (q : Nat) (os : Array Obj), w' = grow (w.drewN q) os
theorem Gr.refl (w : World) : Gr w w := ⟨0, #[], by simp [grow, World.drewN]⟩
theorem Gr.trans {a b c : World} (h : Gr a b) (k : Gr b c) : Gr a c := by
  obtain ⟨q, os, rfl⟩ := h
  obtain ⟨q', os', rfl⟩ := k
  exact ⟨q + q', os ++ os', by simp [grow, World.drewN, Nat.add_assoc, Array.append_assoc]⟩
theorem Gr.alloc (w : World) (o : Obj) : Gr w (w.alloc o) := ⟨0, #[o], by rw [alloc_eq_grow]; rfl⟩
theorem Gr.drewN (w : World) (q : Nat) : Gr w (w.drewN q) := ⟨q, #[], by rw [grow_empty]⟩
theorem Gr.since {w w' : World} (h : Gr w w') : ∃ y : Since w, w' = y.w := by
  obtain ⟨q, os, rfl⟩ := h
  exact ⟨⟨grow (w.drewN q) os, ⟨rfl, rfl, rfl, by simp [grow, World.drewN], fun b hb => by simp [grow, World.drewN, Array.getElem?_append, hb]⟩⟩, rfl⟩

structure GrW (w0 : World) where
  w : World
  g : Gr w0 w
instance (w0 : World) : Nonempty (GrW w0) := ⟨⟨w0, Gr.refl _⟩⟩
theorem GrW.refl (w0 : World) : ∃ y : GrW w0, w0 = y.w := ⟨⟨w0, Gr.refl _⟩, rfl⟩
theorem GrW.step {w0 : World} (x : GrW w0) {w : World} (h : Gr x.w w) : ∃ y : GrW w0, w = y.w := ⟨⟨w, x.g.trans h⟩, rfl⟩
theorem GrW.cell {w0 : World} {a : Addr} {v : Value} (h : w0.cell? a = some v) (y : GrW w0) : y.w.cell? a = some v := by
  obtain ⟨z, e⟩ := y.g.since
  rw [e]
  have hb := World.block_lt_of_cell? w0 _ h
  rw [z.b.cell (p := a) hb]; exact h
theorem Gr.drew' {a b : World} (h : Gr a b) : Gr a b.drew := h.trans (Gr.drewN b 1)
theorem Gr.alloc' {a b : World} (h : Gr a b) (o : Obj) : Gr a (b.alloc o) := h.trans (Gr.alloc b o)
theorem Gr.cell {W w : World} {a : Addr} {v : Value} (h : W.cell? a = some v) (hw : Gr W w) : w.cell? a = some v := GrW.cell h ⟨w, hw⟩
/-- a number before another one -/
def ccmp (x y : Int) : Int := if x < y then -1 else if y < x then 1 else 0
theorem nan_calls (x : Int) (w : World) : Calls Tryd.prog 85 #[.int .i64 x] w fun e w' => e = .returned (.bool false) ∧ w = w' := by
  have h : (x != x) = false := by simp
  go_enter Tryd.func85, Tryd.ntmps85
  go_wp2_with fail
  go_ret
  exact ⟨rfl, rfl⟩
theorem ccmp_calls (x y : Int) (w : World) : Calls Tryd.prog 65 #[.int .i64 x, .int .i64 y] w fun e w' => e = .returned (.int .i64 (ccmp x y)) ∧ w = w' := by
  rcases (by omega : x < y ∨ (¬ x < y ∧ y < x) ∨ (¬ x < y ∧ ¬ y < x)) with h | ⟨h, h'⟩ | ⟨h, h'⟩
  · have hc := Lib.hid (show ccmp x y = -1 from by unfold ccmp; rw [if_pos h])
    go_enter Tryd.func65, Tryd.ntmps65
    go_wp2_with (go_at_call 85; refine (nan_calls _ _).mono ?_; rintro _ _ ⟨rfl, rfl⟩)
    go_ret
    exact ⟨ret_int hc.out.symm, rfl⟩
  · have hc := Lib.hid (show ccmp x y = 1 from by unfold ccmp; rw [if_neg h, if_pos h'])
    have h2 : y ≤ x := by omega
    go_enter Tryd.func65, Tryd.ntmps65
    go_wp2_with (go_at_call 85; refine (nan_calls _ _).mono ?_; rintro _ _ ⟨rfl, rfl⟩)
    go_ret
    exact ⟨ret_int hc.out.symm, rfl⟩
  · have hc := Lib.hid (show ccmp x y = 0 from by unfold ccmp; rw [if_neg h, if_neg h'])
    have h2 : y ≤ x := by omega
    have h3 : x ≤ y := by omega
    go_enter Tryd.func65, Tryd.ntmps65
    go_wp2_with (go_at_call 85; refine (nan_calls _ _).mono ?_; rintro _ _ ⟨rfl, rfl⟩)
    go_ret
    exact ⟨ret_int hc.out.symm, rfl⟩

end Go.Proofs.YtdkcclngionihaaDoor
/- Passes and the rides that they pay: the plain mathematics: no program in sight. -/
namespace Go.Proofs.YtdkcclngionihaaDoor
open Go.RowKit

/-- a pass: number, rider, first day, day behind the last one, rides of a day, seconds -/
structure Pass where
  id : Int
  rd : Int
  f : Int
  t : Int
  n : Int
  s : Int
def Pass.cs (x : Pass) : List Value := [.int .i64 x.id, .int .i64 x.rd, .int .i64 x.f, .int .i64 x.t, .int .i64 x.n, .int .i64 x.s]
theorem Pass.len (x : Pass) : x.cs.length = 6 := rfl
instance : Inhabited Pass := ⟨⟨0, 0, 0, 0, 0, 0⟩⟩
/-- some number is there twice -/
def dupB (l : List Int) : Bool := !decide l.Nodup
theorem dupB_true {l : List Int} (h : ¬ l.Nodup) : dupB l = true := by unfold dupB; rw [decide_eq_false h]; rfl
theorem dupB_false {l : List Int} (h : l.Nodup) : dupB l = false := by unfold dupB; rw [decide_eq_true h]; rfl
theorem dupB_cases (l : List Int) : (dupB l = true ∧ ¬ l.Nodup) ∨ (dupB l = false ∧ l.Nodup) := by
  by_cases h : l.Nodup
  · exact .inr ⟨dupB_false h, h⟩
  · exact .inl ⟨dupB_true h, h⟩
theorem nodup_take_next {l : List Int} {k : Nat} {x : Int} (hx : l[k]? = some x) : (l.take (k + 1)).Nodup ↔ (l.take k).Nodup ∧ x ∉ l.take k := by
  rw [List.take_succ_eq_append_getElem (List.getElem?_eq_some_iff.1 hx).1, (List.getElem?_eq_some_iff.1 hx).2, List.nodup_append]
  constructor
  · rintro ⟨h1, _, h3⟩; exact ⟨h1, fun h => h3 x h x (by simp) rfl⟩
  · rintro ⟨h1, h2⟩; exact ⟨h1, by simp, fun a ha b hb hab => h2 (by simp at hb; subst hb; subst hab; exact ha)⟩
theorem nodup_of_take {l : List Int} {k : Nat} (h : l.Nodup) : (l.take k).Nodup := h.sublist (List.take_sublist _ _)
/-- the first error of rides -/
def firstErr (l : List Ride) : Int := match l.find? (fun r => rideE r != 0) with | some r => rideE r | none => 0
theorem firstErr_at {l : List Ride} {k : Nat} {r : Ride} (hr : l[k]? = some r) (he : rideE r ≠ 0) (hn : ∀ j, j < k → ∀ x, l[j]? = some x → rideE x = 0) : firstErr l = rideE r := by
  unfold firstErr
  have : l.find? (fun r => rideE r != 0) = some r := by
    rw [List.find?_eq_some_iff_getElem]
    refine ⟨by simpa using he, k, (List.getElem?_eq_some_iff.1 hr).1, (List.getElem?_eq_some_iff.1 hr).2, fun j hj => ?_⟩
    have := hn j hj _ (List.getElem?_eq_getElem (by have := (List.getElem?_eq_some_iff.1 hr).1; omega))
    simp [this]
  rw [this]
theorem firstErr_none {l : List Ride} (hn : ∀ j, j < l.length → ∀ x, l[j]? = some x → rideE x = 0) : firstErr l = 0 := by
  unfold firstErr
  have : l.find? (fun r => rideE r != 0) = none := by
    rw [List.find?_eq_none]
    intro x hx
    obtain ⟨j, hj⟩ := List.mem_iff_getElem?.1 hx
    simp [hn j (List.getElem?_eq_some_iff.1 hj).1 x hj]
  rw [this]
/-- the error of a list of rides -/
def ridesE (l : List Ride) : Int := if 256 < l.length then 8 else if firstErr l ≠ 0 then firstErr l else if dupB (l.map (·.id)) = true then 6 else 0
def day (r : Ride) : Int := r.s0 / 86400
/-- a comes before b -/
def bef (a b : Ride) : Bool := decide (a.s0 < b.s0) || (decide (a.s0 = b.s0) && (decide (a.e0 < b.e0) || (decide (a.e0 = b.e0) && decide (a.id < b.id))))
def rAt (R : List Ride) (i : Nat) : Ride := R.getD i default
theorem rAt_eq {R : List Ride} {i : Nat} {x : Ride} (h : R[i]? = some x) : rAt R i = x := by unfold rAt; rw [List.getD_eq_getElem?_getD, h]; rfl
/-- how many rides come before x -/
def rank (R : List Ride) (x : Ride) : Nat := ((List.range R.length).filter fun j => bef (rAt R j) x).length
end Go.Proofs.YtdkcclngionihaaDoor
/- The library's sort of one-cell elements in the words of this proof: generic, no program in sight. -/
namespace Go.Proofs.YtdkcclngionihaaDoor
open Go.RowKit Go.Sort

theorem grownBy_sort1 {α : Type} [Inhabited α] (enc : α → Value) (w : World) (g n : Nat) (d : Array α) (os : Array Obj) : w.grownBy (sortWorld enc w g 0 n d os) (some g) := by
  refine ⟨rfl, rfl, rfl, by simp [sortWorld, grow, putRow, mapBlock, Sort.ahead], fun j hj hne => ?_⟩
  have hne' : g ≠ j := fun e => hne (by rw [e])
  have hj' : j < (putRow enc (Sort.ahead w n) g 0 d).heap.size := by simpa [putRow, mapBlock, Sort.ahead] using hj
  show ((putRow enc (Sort.ahead w n) g 0 d).heap ++ os)[j]? = _
  rw [Array.getElem?_append_left hj']
  simp [putRow, mapBlock, Sort.ahead, Array.getElem?_modify, hne']
end Go.Proofs.YtdkcclngionihaaDoor
/- The library's functions that the program of trips calls, laid over its translation. -/
namespace Go.Proofs.YtdkcclngionihaaDoor
open Go.Shelf Go.RowKit Go.Lib Go.Sort

def Tryd.sortInt_ren : Go.Shelf.Ren := ⟨fun | 6 => 62 | 15 => 84 | 14 => 83 | 28 => 106 | 29 => 90 | 20 => 98 | 21 => 99 | 22 => 100 | 23 => 101 | 24 => 102 | 25 => 103 | 26 => 104 | 27 => 105 | 46 => 115 | 47 => 116 | 48 => 117 | 49 => 118 | 50 => 119 | 57 => 125 | n => n, fun | 22 => 22 | 24 => 3 | 25 => 85 | 3 => 3 | 39 => 124 | 0 => 0 | 53 => 156 | 55 => 133 | 4 => 4 | 46 => 149 | 45 => 148 | 50 => 153 | 5 => 5 | 9 => 9 | 66 => 167 | 70 => 171 | 76 => 175 | 77 => 176 | n => n, fun | n => n⟩
theorem Tryd.sortInt : Go.Proofs.SlLaysF.n6 Tryd.prog Tryd.sortInt_ren := {
  mixed := by kernel_rfl
  f6 := ⟨Tryd.f62.name, by decide, Tryd.func62.trans (congrArg some (by kernel_rfl))⟩
  f14 := ⟨Tryd.f83.name, by decide, Tryd.func83.trans (congrArg some (by kernel_rfl))⟩
  f15 := Tryd.func84.trans (congrArg some (by kernel_rfl))
  f20 := ⟨Tryd.f98.name, by decide, Tryd.func98.trans (congrArg some (by kernel_rfl))⟩
  f21 := ⟨Tryd.f99.name, by decide, Tryd.func99.trans (congrArg some (by kernel_rfl))⟩
  f22 := ⟨Tryd.f100.name, by decide, Tryd.func100.trans (congrArg some (by kernel_rfl))⟩
  f23 := ⟨Tryd.f101.name, by decide, Tryd.func101.trans (congrArg some (by kernel_rfl))⟩
  f24 := ⟨Tryd.f102.name, by decide, Tryd.func102.trans (congrArg some (by kernel_rfl))⟩
  f25 := ⟨Tryd.f103.name, by decide, Tryd.func103.trans (congrArg some (by kernel_rfl))⟩
  f26 := ⟨Tryd.f104.name, by decide, Tryd.func104.trans (congrArg some (by kernel_rfl))⟩
  f27 := ⟨Tryd.f105.name, by decide, Tryd.func105.trans (congrArg some (by kernel_rfl))⟩
  f28 := Tryd.func106.trans (congrArg some (by kernel_rfl))
  f29 := Tryd.func90.trans (congrArg some (by kernel_rfl))
  f46 := ⟨Tryd.f115.name, by decide, Tryd.func115.trans (congrArg some (by kernel_rfl))⟩
  f47 := Tryd.func116.trans (congrArg some (by kernel_rfl))
  f48 := Tryd.func117.trans (congrArg some (by kernel_rfl))
  f49 := ⟨Tryd.f118.name, by decide, Tryd.func118.trans (congrArg some (by kernel_rfl))⟩
  f50 := ⟨Tryd.f119.name, by decide, Tryd.func119.trans (congrArg some (by kernel_rfl))⟩
  f57 := ⟨Tryd.f125.name, by decide, Tryd.func125.trans (congrArg some (by kernel_rfl))⟩
  t0 := Tryd.underlying0
  a0 := Tryd.isAgg0
  z0 := Tryd.sizeOf0
  v0 := Tryd.zeroValue0
  t3 := Tryd.underlying3
  a3 := Tryd.isAgg3
  z3 := Tryd.sizeOf3
  v3 := Tryd.zeroValue3
  t4 := Tryd.underlying4
  a4 := Tryd.isAgg4
  z4 := Tryd.sizeOf4
  v4 := Tryd.zeroValue4
  t5 := Tryd.underlying5
  a5 := Tryd.isAgg5
  z5 := Tryd.sizeOf5
  v5 := Tryd.zeroValue5
  t9 := Tryd.underlying9
  a9 := Tryd.isAgg9
  z9 := Tryd.sizeOf9
  v9 := Tryd.zeroValue9
  t22 := Tryd.underlying22
  a22 := Tryd.isAgg22
  z22 := Tryd.sizeOf22
  v22 := Tryd.zeroValue22
  a24 := Tryd.isAgg3
  z24 := Tryd.sizeOf3
  t25 := Tryd.underlying85
  a25 := Tryd.isAgg85
  z25 := Tryd.sizeOf85
  v25 := Tryd.zeroValue85
  t39 := Tryd.underlying124
  a39 := Tryd.isAgg124
  z39 := Tryd.sizeOf124
  v39 := Tryd.zeroValue124
  t45 := Tryd.underlying148
  a45 := Tryd.isAgg148
  z45 := Tryd.sizeOf148
  v45 := Tryd.zeroValue148
  t46 := Tryd.underlying149
  a46 := Tryd.isAgg149
  z46 := Tryd.sizeOf149
  v46 := Tryd.zeroValue149
  t50 := Tryd.underlying153
  a50 := Tryd.isAgg153
  z50 := Tryd.sizeOf153
  v50 := Tryd.zeroValue153
  t53 := Tryd.underlying156
  a53 := Tryd.isAgg156
  z53 := Tryd.sizeOf156
  v53 := Tryd.zeroValue156
  t55 := Tryd.underlying133
  a55 := Tryd.isAgg133
  z55 := Tryd.sizeOf133
  v55 := Tryd.zeroValue133
  t66 := Tryd.underlying167
  a66 := Tryd.isAgg167
  z66 := Tryd.sizeOf167
  v66 := Tryd.zeroValue167
  t70 := Tryd.underlying171
  a70 := Tryd.isAgg171
  z70 := Tryd.sizeOf171
  v70 := Tryd.zeroValue171
  t76 := Tryd.underlying175
  a76 := Tryd.isAgg175
  z76 := Tryd.sizeOf175
  v76 := Tryd.zeroValue175
  t77 := Tryd.underlying176
  a77 := Tryd.isAgg176
  z77 := Tryd.sizeOf176
  v77 := Tryd.zeroValue176 }
end Go.Proofs.YtdkcclngionihaaDoor
/- Trips between zones: which rides are counted, zones, tables: plain mathematics, no program in sight. -/
namespace Go.Proofs.YtdkcclngionihaaDoor
open Go.RowKit

/-- a comes before b -/
def bf (a b : Ride) : Bool := decide (a.s0 < b.s0) || (decide (a.s0 = b.s0) && decide (a.id < b.id))
theorem bf_iff (a b : Ride) : bf a b = true ↔ a.s0 < b.s0 ∨ (a.s0 = b.s0 ∧ a.id < b.id) := by simp [bf]
theorem bf_irrefl (a : Ride) : bf a a = false := by
  cases h : bf a a
  · rfl
  · rw [bf_iff] at h; omega
theorem bf_trans {a b c : Ride} (h1 : bf a b = true) (h2 : bf b c = true) : bf a c = true := by rw [bf_iff] at *; omega
theorem bf_total {a b : Ride} (h1 : bf a b = false) (h2 : bf b a = false) : a.id = b.id := by
  have n1 : ¬ bf a b = true := by rw [h1]; simp
  have n2 : ¬ bf b a = true := by rw [h2]; simp
  rw [bf_iff] at n1 n2; omega
theorem bf_ntrans {a b c : Ride} (h1 : bf a b = false) (h2 : bf b c = false) : bf a c = false := by
  have n1 : ¬ bf a b = true := by rw [h1]; simp
  have n2 : ¬ bf b c = true := by rw [h2]; simp
  cases h : bf a c
  · rfl
  · rw [bf_iff] at n1 n2 h; omega
/-- of one rider and day -/
def key (r : Ride) : Int × Int := (r.rd, day r)
/-- r has ended, is of the rider and day k -/
def ofK (k : Int × Int) (r : Ride) : Bool := !r.op && decide (key r = k)
/-- how many rides of the rider and day of x, which have ended, come before x -/
def ahd (R : List Ride) (x : Ride) : Nat := (R.filter fun r => ofK (key x) r && bf r x).length
/-- x is counted -/
def ctd (R : List Ride) (each : Int) (x : Ride) : Bool := !x.op && decide ((ahd R x : Int) < each)
def eachL (R : List Ride) (each : Int) : List Ride := R.filter (ctd R each)
def eachE (R : List Ride) (each : Int) : Int := if each < 0 ∨ 256 < each then 1 else ridesE R
/-- zones -/
def badZ (zs : List Int) : Bool := zs.any fun z => decide (z < 0) || decide (8 ≤ z)
def zlenB (zs : List Int) : Bool := decide (64 ≤ zs.length) && decide (zs.length ≤ 96)
def zoneE (zs : List Int) (wh pl : Int) : Int :=
  if zlenB zs = false ∨ badZ zs = true then 3
  else if wh = 2 then (if 0 ≤ pl ∧ pl < 64 then 0 else 7)
  else if wh = 1 then (if 0 ≤ pl ∧ pl / 32 < (zs.length : Int) - 64 then 0 else 7)
  else 14
def zoneV (zs : List Int) (wh pl : Int) : Int :=
  if zoneE zs wh pl = 0 then (if wh = 2 then at0 zs pl.toNat else at0 zs (64 + pl / 32).toNat) else 0
/-- the error of a ride's ends -/
def endE (zs : List Int) (r : Ride) : Int := if zoneE zs r.fw r.fp ≠ 0 then zoneE zs r.fw r.fp else zoneE zs r.wh r.pl
def fromZ (zs : List Int) (r : Ride) : Int := zoneV zs r.fw r.fp
def toZ (zs : List Int) (r : Ride) : Int := zoneV zs r.wh r.pl
/-- a ride that begins in the window and ends at a dock or in the street -/
def inT (f t : Int) (r : Ride) : Bool := decide (f ≤ r.s0) && decide (r.s0 < t) && (decide (r.wh = 1) || decide (r.wh = 2))
def cntL (R : List Ride) (each f t : Int) : List Ride := (eachL R each).filter (inT f t)
/-- the first error of the ends of rides -/
def endsE (zs : List Int) (L : List Ride) : Int := match L.find? (fun r => endE zs r != 0) with | some r => endE zs r | none => 0
def bigR (zs : List Int) (size : Int) (r : Ride) : Bool := decide (size ≤ fromZ zs r) || decide (size ≤ toZ zs r)
/-- the cell of a ride -/
def celR (zs : List Int) (size : Int) (r : Ride) : Int := fromZ zs r * size + toZ zs r
/-- how many rides are counted in a cell -/
def celN (zs : List Int) (size : Int) (L : List Ride) (i : Nat) : Int := ((L.filter fun r => !bigR zs size r && decide (celR zs size r = (i : Int))).length : Nat)
def tabE (zs : List Int) (size : Int) (R : List Ride) (f t each : Int) : Int :=
  if size < 1 ∨ 8 < size ∨ f < 0 ∨ t < f ∨ 4294944000 < t then 1
  else if eachE R each ≠ 0 then eachE R each
  else if endsE zs (cntL R each f t) ≠ 0 then endsE zs (cntL R each f t)
  else if (cntL R each f t).any (bigR zs size) = true then 7 else 0
/-- a table -/
structure Tab where
  r : Int
  c : Int
  l : List Int
def tab0 : Tab := ⟨0, 0, []⟩
def cells (zs : List Int) (size : Int) (L : List Ride) : List Int := (List.range (size * size).toNat).map fun i => celN zs size L i
def tabV (zs : List Int) (size : Int) (R : List Ride) (f t each : Int) : Tab := if tabE zs size R f t each = 0 then ⟨size, size, cells zs size (cntL R each f t)⟩ else tab0
/-- the error of a table -/
def chkE (t : Tab) : Int := if t.r < 1 ∨ 8 < t.r ∨ t.c < 1 ∨ 8 < t.c then 1 else if (t.l.length : Int) ≠ t.r * t.c then 3 else if t.l.any (fun n => decide (n < -1000000) || decide (1000000 < n)) = true then 1 else 0
end Go.Proofs.YtdkcclngionihaaDoor
/- Trips between zones: maps of numbers, comparisons, rows of numbers, boxes of rides. -/
namespace Go.Proofs.YtdkcclngionihaaDoor
open Go.RowKit Go.ChangeMaps Go.Sort

def eint (x : Int) : Value := .int .i64 x
theorem keyInt : KeyOps Tryd.prog 3 eint true where
  chk em w x := by unfold eint; kernel_rfl
  eq w x y := by
    unfold eint
    show (Op.equalIn (9999 + 1) _ _ _).run _ _ = _
    rw [run_equalIn_int w 9999 _ .i64 .i64 x y Tryd.underlying3]
    congr 1
  und := ⟨_, Tryd.underlying3, fun x y => by
    unfold eint
    simp only [Instr.sameNow, if_true]
    congr 1⟩
  bits x := by
    unfold eint
    rw [show (10000 : Nat) = 9999 + 1 from rfl]
    simp [Instr.sameBits]
theorem zeroBool (w : World) : (zeroValue 4).run Tryd.prog w = .ok (.bool false) w := by kernel_rfl
/-- numbers that came, in a map to true -/
def idE (l : List Int) : List (Int × Value) := l.map fun i => (i, .bool true)
theorem idE_lk : ∀ (x : Int) (l : List Int) (i : Nat), (x ∈ l → ∃ j, lkF x (idE l) i = some (j, .bool true)) ∧ (x ∉ l → lkF x (idE l) i = none)
  | x, [], i => ⟨fun h => (by cases h), fun _ => rfl⟩
  | x, y :: l, i => by
    obtain ⟨h1, h2⟩ := idE_lk x l (i + 1)
    by_cases h : x = y
    · subst h
      exact ⟨fun _ => ⟨i, by show lkF x ((x, Value.bool true) :: idE l) i = _; unfold lkF; rw [if_pos rfl]⟩, fun hn => (hn (by simp)).elim⟩
    · have e : lkF x (idE (y :: l)) i = lkF x (idE l) (i + 1) := by show lkF x ((y, Value.bool true) :: idE l) i = _; rw [lkF, if_neg h]
      rw [e]
      exact ⟨fun hm => h1 (by simpa [h] using hm), fun hn => h2 (fun hm => hn (by simp [hm]))⟩
theorem idE_in {x : Int} {l : List Int} (h : x ∈ l) : lkV x (idE l) (.bool false) = .bool true := by
  obtain ⟨j, hj⟩ := (idE_lk x l 0).1 h
  unfold lkV; rw [hj]
theorem idE_out {x : Int} {l : List Int} (h : x ∉ l) : lkV x (idE l) (.bool false) = .bool false := by
  unfold lkV; rw [(idE_lk x l 0).2 h]
theorem idE_next {l : List Int} {k : Nat} {x : Int} (h : l[k]? = some x) : idE (l.take (k + 1)) = idE (l.take k) ++ [(x, .bool true)] := by
  unfold idE
  rw [List.take_succ_eq_append_getElem (List.getElem?_eq_some_iff.1 h).1, (List.getElem?_eq_some_iff.1 h).2, List.map_append]; rfl
theorem MapAt.to' {κ : Type} {ek : κ → Value} {w W : World} {b : Nat} {l : List (κ × Value)} (h : MapAt ek w b l) (hW : ∃ z : Since w, W = z.w) : MapAt ek W b l := by
  obtain ⟨z, rfl⟩ := hW; exact Since.heap h z
theorem MapAt.lt' {κ : Type} {ek : κ → Value} {w : World} {b : Nat} {l : List (κ × Value)} (h : MapAt ek w b l) : b < w.heap.size := (Array.getElem?_eq_some_iff.1 h).1
theorem map_at {α β : Type} {f : α → β} {l : List α} {k : Nat} {e : α} (h : l[k]? = some e) : (l.map f)[k]? = some (f e) := by rw [List.getElem?_map, h]; rfl
theorem ridesE_err {l : List Ride} {k : Nat} {r : Ride} (hb : l.length ≤ 256) (hr : l[k]? = some r) (he : rideE r ≠ 0) (hn : ∀ j, j < k → ∀ x, l[j]? = some x → rideE x = 0) : ridesE l = rideE r := by
  unfold ridesE; rw [if_neg (by omega), firstErr_at hr he hn, if_pos he]
theorem ridesE_ok {l : List Ride} (hb : l.length ≤ 256) (hn : ∀ j, j < l.length → ∀ x, l[j]? = some x → rideE x = 0) : ridesE l = if dupB (l.map fun r : Ride => r.id) = true then 6 else 0 := by
  unfold ridesE; rw [if_neg (by omega), firstErr_none hn, if_neg (by simp)]
/-- the first number that is not 0 -/
def orI (l : List Int) : Int := (l.find? fun x => x != 0).getD 0
theorem orI_at {l : List Int} {k : Nat} {x : Int} (hx : l[k]? = some x) (h0 : x ≠ 0) (hn : ∀ j, j < k → at0 l j = 0) : orI l = x := by
  unfold orI
  have : l.find? (fun x => x != 0) = some x := by
    rw [List.find?_eq_some_iff_getElem]
    refine ⟨by simpa using h0, k, (List.getElem?_eq_some_iff.1 hx).1, (List.getElem?_eq_some_iff.1 hx).2, fun j hj => ?_⟩
    have hlt : j < l.length := by have := (List.getElem?_eq_some_iff.1 hx).1; omega
    have := hn j hj
    unfold at0 at this
    rw [List.getD_eq_getElem?_getD, List.getElem?_eq_getElem hlt] at this
    have h2 : l[j] = 0 := this
    simp [h2]
  rw [this]; rfl
theorem orI_none {l : List Int} (hn : ∀ j, j < l.length → at0 l j = 0) : orI l = 0 := by
  unfold orI
  have : l.find? (fun x => x != 0) = none := by
    rw [List.find?_eq_none]
    intro x hx
    obtain ⟨j, hj⟩ := List.mem_iff_getElem?.1 hx
    have := hn j (List.getElem?_eq_some_iff.1 hj).1
    unfold at0 at this
    rw [List.getD_eq_getElem?_getD, hj] at this
    have h2 : x = 0 := this
    simp [h2]
  rw [this]; rfl
set_option maxHeartbeats 4000000 in
theorem or_calls (w : World) (a : Option Addr) (l : List Int) (c : Nat) (h : IntRow w a l) (hl : l.length ≤ 9223372036854775807) :
    Calls Tryd.prog 64 #[.slice a l.length c] w fun e w' => e = .returned (.int .i64 (orI l)) ∧ w = w' := by
  have H := Lib.hid h
  clear h
  go_enter Tryd.func64, Tryd.ntmps64
  go_wp2_with fail
  go_loop [8] (fun i => ∃ k : Nat, k ≤ l.length ∧ i = .int .i64 k ∧ ∀ j, j < k → at0 l j = 0) (fun i => l.length - (intOf i).toNat)
  case atStart => exact ⟨0, by omega, rfl, fun j hj => by omega⟩
  case round =>
    obtain ⟨k, hk, rfl, hok⟩ := hrel
    have Hok := Lib.hid hok; clear hok
    by_cases hlt : k < l.length
    · obtain ⟨b, off, rfl, hb, hc⟩ := H.out k hlt
      change w.cell? ⟨b, off + k, none⟩ = some (.int .i64 (at0 l k)) at hc
      have hk0 : (0 : Int) ≤ (k : Int) := by omega
      have hkl : (k : Int) < (l.length : Int) := by omega
      have hx : l[k]? = some (at0 l k) := by unfold at0; rw [List.getD_eq_getElem?_getD, List.getElem?_eq_getElem hlt]; rfl
      have Hx := Lib.hid hx
      clear hb hx
      by_cases h0 : at0 l k = 0
      · have Hn := Lib.hid (show ∀ j, j < k + 1 → at0 l j = 0 from fun j hj => by
          by_cases hjk : j < k
          · exact Hok.out j hjk
          · obtain rfl : j = k := by omega
            exact h0)
        rw [h0] at hc
        clear h0
        go_wp2_with fail
        go_round
        case rel => exact ⟨k + 1, by omega, by go_num, Hn.out⟩
        case measure => simp [intOf] <;> omega
      · have Hr := Lib.hid (orI_at Hx.out h0 Hok.out)
        have hne : (at0 l k != 0) = true := by simpa using h0
        clear h0
        generalize at0 l k = v at *
        go_wp2_with fail
        go_ret
        exact ⟨ret_int Hr.out.symm, rfl⟩
    · obtain rfl : k = l.length := by omega
      have Hr := Lib.hid (orI_none Hok.out)
      go_wp2_with fail
      go_ret
      exact ⟨ret_int Hr.out.symm, rfl⟩
/-- numbers of the call's own in block g -/
structure Nums (w : World) (g : Nat) (n : Nat) (f : Nat → Int) : Prop where
  lt : g < w.heap.size
  c : ∀ j, j < n → w.cell? ⟨g, j, none⟩ = some (.int .i64 (f j))
  f : ∀ j, j < n → w.frozen? ⟨g, j, none⟩ = false
/-- a ride lies in block g -/
structure RideBox (w : World) (g : Nat) (r : Ride) : Prop where
  lt : g < w.heap.size
  c : ∀ j v, r.cs[j]? = some v → w.cell? ⟨g, j, none⟩ = some v
theorem RideBox.since {w : World} {g : Nat} {r : Ride} (h : RideBox w g r) (y : Since w) : RideBox y.w g r :=
  ⟨Nat.lt_of_lt_of_le h.lt y.b.size, fun j v hv => Since.cell (h.c j v hv) h.lt y⟩
theorem RideBox.cells {w : World} {g : Nat} {r : Ride} (h : RideBox w g r) : RideCells w g 0 r := by
  have hh : ∀ j v, r.cs[j]? = some v → ∀ y : Since w, y.w.cell? ⟨g, 0 + j, none⟩ = some v := fun j v hv y => by rw [Nat.zero_add]; exact Since.cell (h.c j v hv) h.lt y
  exact ⟨hh 0 _ rfl, hh 1 _ rfl, hh 2 _ rfl, hh 3 _ rfl, hh 4 _ rfl, hh 5 _ rfl, hh 6 _ rfl, hh 7 _ rfl, hh 8 _ rfl, hh 9 _ rfl, hh 10 _ rfl, hh 11 _ rfl, hh 12 _ rfl⟩
theorem Nums.since {w : World} {g n : Nat} {f : Nat → Int} (h : Nums w g n f) (y : Since w) : Nums y.w g n f :=
  ⟨Nat.lt_of_lt_of_le h.lt y.b.size, fun j hj => Since.cell (h.c j hj) h.lt y, fun j hj => Since.free (h.f j hj) h.lt y⟩
theorem Nums.to {w W : World} {g n : Nat} {f : Nat → Int} (h : Nums w g n f) (hW : ∃ z : Since w, W = z.w) : Nums W g n f := by
  obtain ⟨z, rfl⟩ := hW; exact h.since z
theorem Nums.set {w : World} {g n k : Nat} {f f' : Nat → Int} (h : Nums w g n f) (hk : k < n) (v : Int) (hv : f' k = v) (ho : ∀ j, j < n → j ≠ k → f' j = f j) : Nums (w.setCell ⟨g, k, none⟩ (.int .i64 v)) g n f' := by
  refine ⟨by simpa [World.setCell] using h.lt, fun j hj => ?_, fun j hj => ?_⟩
  · by_cases hjk : j = k
    · subst hjk
      rw [World.cell?_setCell_same _ _ _ (h.c j hj), hv]
    · show ((w.setCells g k [.int .i64 v]).cell? _) = _
      rw [World.cell?_setCells_out g [.int .i64 v] k w ⟨g, j, none⟩ (fun _ _ => by simp; omega), h.c j hj, ho j hj hjk]
  · rw [World.frozen?_setCell]; exact h.f j hj
theorem Nums.setOther {w : World} {g n : Nat} {f : Nat → Int} (h : Nums w g n f) (p : Addr) (hp : p.block ≠ g) (v : Value) : Nums (w.setCell p v) g n f := by
  have hh := Below.heap_setCell w p v g (fun e => hp e.symm)
  refine ⟨by simpa [World.setCell] using h.lt, fun j hj => ?_, fun j hj => by rw [World.frozen?_setCell]; exact h.f j hj⟩
  rw [World.cell?_of_block (w := w) (a := ⟨g, j, none⟩) hh]; exact h.c j hj
theorem Nums.keep {w w' : World} {g n : Nat} {f : Nat → Int} (h : Nums w g n f) (hs : w.heap.size ≤ w'.heap.size) (hb : w'.heap[g]? = w.heap[g]?) : Nums w' g n f :=
  ⟨Nat.lt_of_lt_of_le h.lt hs, fun j hj => by rw [World.cell?_of_block (w := w) (a := ⟨g, j, none⟩) hb]; exact h.c j hj, fun j hj => by rw [World.frozen?_of_block (w := w) (a := ⟨g, j, none⟩) hb]; exact h.f j hj⟩
theorem own_nums {w : World} {base : Nat} {e : TypeId} {g n N : Nat} {xs : List Value} (h : w.ownsRow base e 1 (.slice (some ⟨g, 0, none⟩) N n) N xs) (hx : ∀ j, j < N → xs.getD j undef = .int .i64 0) : Nums w g N fun _ => 0 := by
  obtain ⟨hl, ⟨hbad, _⟩ | ⟨g', cap, cur, he, hg, hh, h1, h2, h3, h4⟩⟩ := h
  · cases hbad
  · obtain ⟨rfl, rfl⟩ : g = g' ∧ n = cap := by simpa using he
    refine ⟨(Array.getElem?_eq_some_iff.1 hh).1, fun j hj => ?_, fun j hj => by simp [World.frozen?, hh]⟩
    have := hx j hj
    rw [← h4] at this
    simp only [Nat.mul_one] at *
    have hjc : j < cur.size := by omega
    simp [World.cell?, hh, List.getD_eq_getElem?_getD, hj, hjc] at this ⊢
    exact this
theorem zeroInt (w : World) : (zeroValue 3).run Tryd.prog w = .ok (.int .i64 0) w := by kernel_rfl
theorem Nums.congr {w : World} {g n : Nat} {f f' : Nat → Int} (h : Nums w g n f) (he : ∀ j, j < n → f j = f' j) : Nums w g n f' :=
  ⟨h.lt, fun j hj => by rw [h.c j hj, he j hj], h.f⟩
theorem BoxIs.ride {w : World} {g : Nat} {r : Ride} (h : BoxIs w g r.cs) : RideBox w g r := ⟨h.lt, h.c⟩
theorem RideBox.to {w W : World} {g : Nat} {r : Ride} (h : RideBox w g r) (hW : ∃ z : Since w, W = z.w) : RideBox W g r := by
  obtain ⟨z, rfl⟩ := hW; exact h.since z
theorem RideBox.setOther {w : World} {g : Nat} {r : Ride} (h : RideBox w g r) (p : Addr) (hp : p.block ≠ g) (v : Value) : RideBox (w.setCell p v) g r := by
  have hh := Below.heap_setCell w p v g (fun e => hp e.symm)
  exact ⟨by simpa [World.setCell] using h.lt, fun j u hu => by rw [World.cell?_of_block (w := w) (a := ⟨g, j, none⟩) hh]; exact h.c j u hu⟩
theorem setBlock_grown {V : World} {b : Nat} {o o' : Obj} (_h : V.heap[b]? = some o) : V.grownBy (setBlock V b o') (some b) :=
  ⟨rfl, rfl, rfl, by rw [setBlock_size]; exact Nat.le_refl _, fun j hj hne => setBlock_ne (fun e => hne (by rw [e]))⟩
/-- a ride without the places of its lists -/
def Ride.bare (r : Ride) : Ride := { r with la := none, lc := 0, pa := none, pc := 0 }
def zeroRide : Value := .agg #[.int .i64 0, .int .i64 0, .int .i64 0, .int .i64 0, .int .i64 0, .int .i64 0, .bool false, .slice none 0 0, .slice none 0 0, .int .i64 0, .int .i64 0, .int .i64 0, .int .i64 0]
theorem sRide : SliceOf Tryd.prog 23 73 zeroRide 13 136 := SliceOf.mk' Tryd.underlying23 (by kernel_rfl) rfl (by decide)
theorem ride_one (r : Ride) : ∀ u ∈ r.cs, u.oneCell' = true := by
  intro u hu
  simp [Ride.cs] at hu
  rcases hu with h | h | h | h | h | h | h | h | h | h | h | h | h <;> subst h <;> rfl
end Go.Proofs.YtdkcclngionihaaDoor
/- Trips between zones, the program: the checks of rides. -/
namespace Go.Proofs.YtdkcclngionihaaDoor
open Go.RowKit Go.ChangeMaps

set_option maxRecDepth 100000 in
set_option maxHeartbeats 8000000 in
theorem checked_calls (w : World) (x : Since w) (a : Option Addr) (l : List Ride) (c : Nat) (each : Int) (h : RideRow w a l) (hl : l.length ≤ 9223372036854775807) :
    Calls Tryd.prog 43 #[.slice a l.length c, .int .i64 each] x.w fun o w' => o = .returned (.int .i64 (eachE l each)) ∧ ∃ y : Since w, w' = y.w := by
  have HL := Lib.hid h
  have HU := Lib.hid (show eachE l each = if each < 0 ∨ 256 < each then 1 else ridesE l from rfl)
  clear h
  rcases (by omega : each < 0 ∨ 256 < each ∨ (0 ≤ each ∧ each ≤ 256)) with hx | hx | ⟨hx, hx'⟩
  · have Hr := Lib.hid (show eachE l each = 1 by rw [HU.out, if_pos (Or.inl hx)])
    go_enter Tryd.func43, Tryd.ntmps43
    go_wp2_with fail
    go_ret
    exact ⟨ret_int Hr.out.symm, _, rfl⟩
  · have Hr := Lib.hid (show eachE l each = 1 by rw [HU.out, if_pos (Or.inr hx)])
    have hx0 : ¬ each < 0 := by omega
    go_enter Tryd.func43, Tryd.ntmps43
    go_wp2_with fail
    go_ret
    exact ⟨ret_int Hr.out.symm, _, rfl⟩
  replace HU := Lib.hid (show eachE l each = ridesE l by rw [HU.out, if_neg (by omega)])
  by_cases hbig : 256 < l.length
  · have Hr := Lib.hid (show eachE l each = 8 by rw [HU.out]; unfold ridesE; rw [if_pos hbig])
    go_enter Tryd.func43, Tryd.ntmps43
    go_wp2_with fail
    go_ret
    exact ⟨ret_int Hr.out.symm, _, rfl⟩
  have hl256 : l.length ≤ 256 := by omega
  clear hbig hl
  go_enter Tryd.func43, Tryd.ntmps43
  go_wp2_with fail
  go_loopw [22] (fun i wr => ∃ (k : Nat) (y : Since w), k ≤ l.length ∧ i = .int .i64 k ∧ wr = y.w ∧ ∀ j, j < k → ∀ e, l[j]? = some e → rideE e = 0) (fun i _ => l.length - (intOf i).toNat)
  case atStart => exact ⟨0, _, by omega, rfl, rfl, fun j hj => by omega⟩
  case round =>
    obtain ⟨k, y, hk, rfl, rfl, hok⟩ := hrel
    have Hok := Lib.hid hok; clear hok
    by_cases hlt : k < l.length
    · obtain ⟨e, he⟩ : ∃ e, l[k]? = some e := ⟨_, List.getElem?_eq_getElem hlt⟩
      obtain ⟨b1, off1, rfl, h1'⟩ := Els.ride HL.out.c he
      have ra0 := h1'.c0
      have ra1 := h1'.c1
      have ra2 := h1'.c2
      have ra3 := h1'.c3
      have ra4 := h1'.c4
      have ra5 := h1'.c5
      have ra6 := h1'.c6
      have ra7 := h1'.c7
      have ra8 := h1'.c8
      have ra9 := h1'.c9
      have ra10 := h1'.c10
      have ra11 := h1'.c11
      have ra12 := h1'.c12
      have hk0 : (0 : Int) ≤ (k : Int) := by omega
      have hkl : (k : Int) < (l.length : Int) := by omega
      have He' := Lib.hid he
      have Hat := Lib.hid (HL.out.r e (List.mem_of_getElem? he))
      clear h1' he
      go_upto_region 8 with fail
      have hx0 : (y.w.alloc (.cells #[.int .i64 e.id, .int .i64 e.rd, .int .i64 e.s0, .int .i64 e.s1, .int .i64 e.e0, .int .i64 e.e1, .bool e.op, .slice e.la e.legs.length e.lc, .slice e.pa e.pauses.length e.pc, .int .i64 e.fw, .int .i64 e.fp, .int .i64 e.wh, .int .i64 e.pl] 73)).cell? ⟨y.w.heap.size, 0, none⟩ = some (.int .i64 e.id) := by simp [go_sem]
      have hx1 : (y.w.alloc (.cells #[.int .i64 e.id, .int .i64 e.rd, .int .i64 e.s0, .int .i64 e.s1, .int .i64 e.e0, .int .i64 e.e1, .bool e.op, .slice e.la e.legs.length e.lc, .slice e.pa e.pauses.length e.pc, .int .i64 e.fw, .int .i64 e.fp, .int .i64 e.wh, .int .i64 e.pl] 73)).cell? ⟨y.w.heap.size, 1, none⟩ = some (.int .i64 e.rd) := by simp [go_sem]
      have hx2 : (y.w.alloc (.cells #[.int .i64 e.id, .int .i64 e.rd, .int .i64 e.s0, .int .i64 e.s1, .int .i64 e.e0, .int .i64 e.e1, .bool e.op, .slice e.la e.legs.length e.lc, .slice e.pa e.pauses.length e.pc, .int .i64 e.fw, .int .i64 e.fp, .int .i64 e.wh, .int .i64 e.pl] 73)).cell? ⟨y.w.heap.size, 2, none⟩ = some (.int .i64 e.s0) := by simp [go_sem]
      have hx3 : (y.w.alloc (.cells #[.int .i64 e.id, .int .i64 e.rd, .int .i64 e.s0, .int .i64 e.s1, .int .i64 e.e0, .int .i64 e.e1, .bool e.op, .slice e.la e.legs.length e.lc, .slice e.pa e.pauses.length e.pc, .int .i64 e.fw, .int .i64 e.fp, .int .i64 e.wh, .int .i64 e.pl] 73)).cell? ⟨y.w.heap.size, 3, none⟩ = some (.int .i64 e.s1) := by simp [go_sem]
      have hx4 : (y.w.alloc (.cells #[.int .i64 e.id, .int .i64 e.rd, .int .i64 e.s0, .int .i64 e.s1, .int .i64 e.e0, .int .i64 e.e1, .bool e.op, .slice e.la e.legs.length e.lc, .slice e.pa e.pauses.length e.pc, .int .i64 e.fw, .int .i64 e.fp, .int .i64 e.wh, .int .i64 e.pl] 73)).cell? ⟨y.w.heap.size, 4, none⟩ = some (.int .i64 e.e0) := by simp [go_sem]
      have hx5 : (y.w.alloc (.cells #[.int .i64 e.id, .int .i64 e.rd, .int .i64 e.s0, .int .i64 e.s1, .int .i64 e.e0, .int .i64 e.e1, .bool e.op, .slice e.la e.legs.length e.lc, .slice e.pa e.pauses.length e.pc, .int .i64 e.fw, .int .i64 e.fp, .int .i64 e.wh, .int .i64 e.pl] 73)).cell? ⟨y.w.heap.size, 5, none⟩ = some (.int .i64 e.e1) := by simp [go_sem]
      have hx6 : (y.w.alloc (.cells #[.int .i64 e.id, .int .i64 e.rd, .int .i64 e.s0, .int .i64 e.s1, .int .i64 e.e0, .int .i64 e.e1, .bool e.op, .slice e.la e.legs.length e.lc, .slice e.pa e.pauses.length e.pc, .int .i64 e.fw, .int .i64 e.fp, .int .i64 e.wh, .int .i64 e.pl] 73)).cell? ⟨y.w.heap.size, 6, none⟩ = some (.bool e.op) := by simp [go_sem]
      have hx7 : (y.w.alloc (.cells #[.int .i64 e.id, .int .i64 e.rd, .int .i64 e.s0, .int .i64 e.s1, .int .i64 e.e0, .int .i64 e.e1, .bool e.op, .slice e.la e.legs.length e.lc, .slice e.pa e.pauses.length e.pc, .int .i64 e.fw, .int .i64 e.fp, .int .i64 e.wh, .int .i64 e.pl] 73)).cell? ⟨y.w.heap.size, 7, none⟩ = some (.slice e.la e.legs.length e.lc) := by simp [go_sem]
      have hx8 : (y.w.alloc (.cells #[.int .i64 e.id, .int .i64 e.rd, .int .i64 e.s0, .int .i64 e.s1, .int .i64 e.e0, .int .i64 e.e1, .bool e.op, .slice e.la e.legs.length e.lc, .slice e.pa e.pauses.length e.pc, .int .i64 e.fw, .int .i64 e.fp, .int .i64 e.wh, .int .i64 e.pl] 73)).cell? ⟨y.w.heap.size, 8, none⟩ = some (.slice e.pa e.pauses.length e.pc) := by simp [go_sem]
      have hx9 : (y.w.alloc (.cells #[.int .i64 e.id, .int .i64 e.rd, .int .i64 e.s0, .int .i64 e.s1, .int .i64 e.e0, .int .i64 e.e1, .bool e.op, .slice e.la e.legs.length e.lc, .slice e.pa e.pauses.length e.pc, .int .i64 e.fw, .int .i64 e.fp, .int .i64 e.wh, .int .i64 e.pl] 73)).cell? ⟨y.w.heap.size, 9, none⟩ = some (.int .i64 e.fw) := by simp [go_sem]
      have hx10 : (y.w.alloc (.cells #[.int .i64 e.id, .int .i64 e.rd, .int .i64 e.s0, .int .i64 e.s1, .int .i64 e.e0, .int .i64 e.e1, .bool e.op, .slice e.la e.legs.length e.lc, .slice e.pa e.pauses.length e.pc, .int .i64 e.fw, .int .i64 e.fp, .int .i64 e.wh, .int .i64 e.pl] 73)).cell? ⟨y.w.heap.size, 10, none⟩ = some (.int .i64 e.fp) := by simp [go_sem]
      have hx11 : (y.w.alloc (.cells #[.int .i64 e.id, .int .i64 e.rd, .int .i64 e.s0, .int .i64 e.s1, .int .i64 e.e0, .int .i64 e.e1, .bool e.op, .slice e.la e.legs.length e.lc, .slice e.pa e.pauses.length e.pc, .int .i64 e.fw, .int .i64 e.fp, .int .i64 e.wh, .int .i64 e.pl] 73)).cell? ⟨y.w.heap.size, 11, none⟩ = some (.int .i64 e.wh) := by simp [go_sem]
      have hx12 : (y.w.alloc (.cells #[.int .i64 e.id, .int .i64 e.rd, .int .i64 e.s0, .int .i64 e.s1, .int .i64 e.e0, .int .i64 e.e1, .bool e.op, .slice e.la e.legs.length e.lc, .slice e.pa e.pauses.length e.pc, .int .i64 e.fw, .int .i64 e.fp, .int .i64 e.wh, .int .i64 e.pl] 73)).cell? ⟨y.w.heap.size, 12, none⟩ = some (.int .i64 e.pl) := by simp [go_sem]
      have hxf : ∀ o, (y.w.alloc (.cells #[.int .i64 e.id, .int .i64 e.rd, .int .i64 e.s0, .int .i64 e.s1, .int .i64 e.e0, .int .i64 e.e1, .bool e.op, .slice e.la e.legs.length e.lc, .slice e.pa e.pauses.length e.pc, .int .i64 e.fw, .int .i64 e.fp, .int .i64 e.wh, .int .i64 e.pl] 73)).frozen? ⟨y.w.heap.size, o, none⟩ = false := fun o => by simp [go_sem]
      have hlt0 : y.w.heap.size < (y.w.alloc (.cells #[.int .i64 e.id, .int .i64 e.rd, .int .i64 e.s0, .int .i64 e.s1, .int .i64 e.e0, .int .i64 e.e1, .bool e.op, .slice e.la e.legs.length e.lc, .slice e.pa e.pauses.length e.pc, .int .i64 e.fw, .int .i64 e.fp, .int .i64 e.wh, .int .i64 e.pl] 73)).heap.size := by simp
      have hst0 : ∃ zz : Since y.w, (y.w.alloc (.cells #[.int .i64 e.id, .int .i64 e.rd, .int .i64 e.s0, .int .i64 e.s1, .int .i64 e.e0, .int .i64 e.e1, .bool e.op, .slice e.la e.legs.length e.lc, .slice e.pa e.pauses.length e.pc, .int .i64 e.fw, .int .i64 e.fp, .int .i64 e.wh, .int .i64 e.pl] 73)) = zz.w := IsSince.alloc (IsSince.self _) _
      have hsz0 := y.b.size
      obtain ⟨y2, e2⟩ := IsSince.alloc (IsSince.of y) (.cells #[.int .i64 e.id, .int .i64 e.rd, .int .i64 e.s0, .int .i64 e.s1, .int .i64 e.e0, .int .i64 e.e1, .bool e.op, .slice e.la e.legs.length e.lc, .slice e.pa e.pauses.length e.pc, .int .i64 e.fw, .int .i64 e.fp, .int .i64 e.wh, .int .i64 e.pl] 73)
      rw [e2] at hx0 hx1 hx2 hx3 hx4 hx5 hx6 hx7 hx8 hx9 hx10 hx11 hx12 hxf hlt0 hst0 ⊢
      (replace Hat := Lib.hid ((Hat.out.since y).to hst0))
      clear e2 hst0
      generalize y.w.heap.size = g at *
      have Hhx0 : ∀ q : Since y2.w, q.w.cell? ⟨g, 0, none⟩ = some (.int .i64 e.id) := fun q => Since.cell hx0 (by omega) q
      have Hhx1 : ∀ q : Since y2.w, q.w.cell? ⟨g, 1, none⟩ = some (.int .i64 e.rd) := fun q => Since.cell hx1 (by omega) q
      have Hhx2 : ∀ q : Since y2.w, q.w.cell? ⟨g, 2, none⟩ = some (.int .i64 e.s0) := fun q => Since.cell hx2 (by omega) q
      have Hhx3 : ∀ q : Since y2.w, q.w.cell? ⟨g, 3, none⟩ = some (.int .i64 e.s1) := fun q => Since.cell hx3 (by omega) q
      have Hhx4 : ∀ q : Since y2.w, q.w.cell? ⟨g, 4, none⟩ = some (.int .i64 e.e0) := fun q => Since.cell hx4 (by omega) q
      have Hhx5 : ∀ q : Since y2.w, q.w.cell? ⟨g, 5, none⟩ = some (.int .i64 e.e1) := fun q => Since.cell hx5 (by omega) q
      have Hhx6 : ∀ q : Since y2.w, q.w.cell? ⟨g, 6, none⟩ = some (.bool e.op) := fun q => Since.cell hx6 (by omega) q
      have Hhx7 : ∀ q : Since y2.w, q.w.cell? ⟨g, 7, none⟩ = some (.slice e.la e.legs.length e.lc) := fun q => Since.cell hx7 (by omega) q
      have Hhx8 : ∀ q : Since y2.w, q.w.cell? ⟨g, 8, none⟩ = some (.slice e.pa e.pauses.length e.pc) := fun q => Since.cell hx8 (by omega) q
      have Hhx9 : ∀ q : Since y2.w, q.w.cell? ⟨g, 9, none⟩ = some (.int .i64 e.fw) := fun q => Since.cell hx9 (by omega) q
      have Hhx10 : ∀ q : Since y2.w, q.w.cell? ⟨g, 10, none⟩ = some (.int .i64 e.fp) := fun q => Since.cell hx10 (by omega) q
      have Hhx11 : ∀ q : Since y2.w, q.w.cell? ⟨g, 11, none⟩ = some (.int .i64 e.wh) := fun q => Since.cell hx11 (by omega) q
      have Hhx12 : ∀ q : Since y2.w, q.w.cell? ⟨g, 12, none⟩ = some (.int .i64 e.pl) := fun q => Since.cell hx12 (by omega) q
      have Hhxf : ∀ (q : Since y2.w) (o : Nat), q.w.frozen? ⟨g, o, none⟩ = false := fun q o => Since.free (hxf o) (by omega) q
      have Hhxg := Lib.hid (And.intro hsz0 hlt0)
      clear hlt0 hsz0
      obtain ⟨q0, hq0⟩ := Since.refl y2.w
      rw [hq0]
      clear hq0
      have Hck := Lib.hid (fun z : Since y2.w => check_calls y2.w z e Hat.out)
      by_cases her : rideE e = 0
      · rw [her] at Hck
        have Hv := Lib.hid her
        clear her
        go_wp2_with (go_at_call 61; ((with_reducible refine (Hck.out _).mono ?_); rintro _ _ ⟨rfl, z1, rfl⟩))
        obtain ⟨q, eq⟩ := y2.trans z1
        rw [eq]
        go_roundw
        case rel => exact ⟨k + 1, q, by omega, by go_num, rfl, upto_next (P := fun e : Ride => rideE e = 0) Hok.out He'.out Hv.out⟩
        case measure => simp [intOf] <;> omega
      · have Hr := Lib.hid (show eachE l each = rideE e by rw [HU.out, ridesE_err hl256 He'.out her Hok.out])
        have heb : (rideE e != 0) = true := by simpa using her
        clear her
        generalize rideE e = re at *
        go_wp2_with (go_at_call 61; ((with_reducible refine (Hck.out _).mono ?_); rintro _ _ ⟨rfl, z1, rfl⟩))
        go_ret
        exact ⟨ret_int Hr.out.symm, by obtain ⟨q, e⟩ := y2.trans z1; rw [e]; exact ⟨q, rfl⟩⟩
    · obtain rfl : k = l.length := by omega
      have HP := Lib.hid (HU.out.trans (ridesE_ok hl256 Hok.out))
      clear Hok HU
      have hmm := @run_makeMap Tryd.prog
      go_wp2_with fail
      have hm0 : MapAt eint (y.w.alloc (.map #[] 0)) y.w.heap.size (idE ((l.map fun r : Ride => r.id).take 0)) := by
        show (y.w.heap.push _)[y.w.heap.size]? = _
        simp [idE, entF]
      obtain ⟨y1, hy1⟩ := y.alloc (.map #[] 0)
      rw [hy1] at hm0 ⊢
      have Hm0 := Lib.hid hm0
      have Hgb := Lib.hid y.b.size
      clear hy1 hm0 hmm
      generalize y.w.heap.size = bm at *
      go_loopw [35] (fun i wr => ∃ (k : Nat) (y : Since w), k ≤ l.length ∧ i = .int .i64 k ∧ wr = y.w ∧ MapAt eint y.w bm (idE ((l.map fun r : Ride => r.id).take k)) ∧ ((l.map fun r : Ride => r.id).take k).Nodup) (fun i _ => l.length - (intOf i).toNat)
      case atStart => exact ⟨0, y1, by omega, rfl, rfl, Hm0.out, by simp⟩
      case round =>
        clear Hm0
        obtain ⟨k, y, hk, rfl, rfl, hm, hnd⟩ := hrel
        have Hm := Lib.hid hm; have Hnd := Lib.hid hnd
        clear hm hnd
        by_cases hlt : k < l.length
        · obtain ⟨e, he⟩ : ∃ e, l[k]? = some e := ⟨_, List.getElem?_eq_getElem hlt⟩
          obtain ⟨b1, off1, rfl, h1'⟩ := Els.ride HL.out.c he
          have ra0 := h1'.c0
          have ra1 := h1'.c1
          have ra2 := h1'.c2
          have ra3 := h1'.c3
          have ra4 := h1'.c4
          have ra5 := h1'.c5
          have ra6 := h1'.c6
          have ra7 := h1'.c7
          have ra8 := h1'.c8
          have ra9 := h1'.c9
          have ra10 := h1'.c10
          have ra11 := h1'.c11
          have ra12 := h1'.c12
          have hk0 : (0 : Int) ≤ (k : Int) := by omega
          have hkl : (k : Int) < (l.length : Int) := by omega
          have He' := Lib.hid (map_at (f := fun r : Ride => r.id) he)
          have Hnx := Lib.hid (nodup_take_next He'.out)
          clear h1' he
          go_upto_region 16 with fail
          have hx0 : (y.w.alloc (.cells #[.int .i64 e.id, .int .i64 e.rd, .int .i64 e.s0, .int .i64 e.s1, .int .i64 e.e0, .int .i64 e.e1, .bool e.op, .slice e.la e.legs.length e.lc, .slice e.pa e.pauses.length e.pc, .int .i64 e.fw, .int .i64 e.fp, .int .i64 e.wh, .int .i64 e.pl] 73)).cell? ⟨y.w.heap.size, 0, none⟩ = some (.int .i64 e.id) := by simp [go_sem]
          have hx1 : (y.w.alloc (.cells #[.int .i64 e.id, .int .i64 e.rd, .int .i64 e.s0, .int .i64 e.s1, .int .i64 e.e0, .int .i64 e.e1, .bool e.op, .slice e.la e.legs.length e.lc, .slice e.pa e.pauses.length e.pc, .int .i64 e.fw, .int .i64 e.fp, .int .i64 e.wh, .int .i64 e.pl] 73)).cell? ⟨y.w.heap.size, 1, none⟩ = some (.int .i64 e.rd) := by simp [go_sem]
          have hx2 : (y.w.alloc (.cells #[.int .i64 e.id, .int .i64 e.rd, .int .i64 e.s0, .int .i64 e.s1, .int .i64 e.e0, .int .i64 e.e1, .bool e.op, .slice e.la e.legs.length e.lc, .slice e.pa e.pauses.length e.pc, .int .i64 e.fw, .int .i64 e.fp, .int .i64 e.wh, .int .i64 e.pl] 73)).cell? ⟨y.w.heap.size, 2, none⟩ = some (.int .i64 e.s0) := by simp [go_sem]
          have hx3 : (y.w.alloc (.cells #[.int .i64 e.id, .int .i64 e.rd, .int .i64 e.s0, .int .i64 e.s1, .int .i64 e.e0, .int .i64 e.e1, .bool e.op, .slice e.la e.legs.length e.lc, .slice e.pa e.pauses.length e.pc, .int .i64 e.fw, .int .i64 e.fp, .int .i64 e.wh, .int .i64 e.pl] 73)).cell? ⟨y.w.heap.size, 3, none⟩ = some (.int .i64 e.s1) := by simp [go_sem]
          have hx4 : (y.w.alloc (.cells #[.int .i64 e.id, .int .i64 e.rd, .int .i64 e.s0, .int .i64 e.s1, .int .i64 e.e0, .int .i64 e.e1, .bool e.op, .slice e.la e.legs.length e.lc, .slice e.pa e.pauses.length e.pc, .int .i64 e.fw, .int .i64 e.fp, .int .i64 e.wh, .int .i64 e.pl] 73)).cell? ⟨y.w.heap.size, 4, none⟩ = some (.int .i64 e.e0) := by simp [go_sem]
          have hx5 : (y.w.alloc (.cells #[.int .i64 e.id, .int .i64 e.rd, .int .i64 e.s0, .int .i64 e.s1, .int .i64 e.e0, .int .i64 e.e1, .bool e.op, .slice e.la e.legs.length e.lc, .slice e.pa e.pauses.length e.pc, .int .i64 e.fw, .int .i64 e.fp, .int .i64 e.wh, .int .i64 e.pl] 73)).cell? ⟨y.w.heap.size, 5, none⟩ = some (.int .i64 e.e1) := by simp [go_sem]
          have hx6 : (y.w.alloc (.cells #[.int .i64 e.id, .int .i64 e.rd, .int .i64 e.s0, .int .i64 e.s1, .int .i64 e.e0, .int .i64 e.e1, .bool e.op, .slice e.la e.legs.length e.lc, .slice e.pa e.pauses.length e.pc, .int .i64 e.fw, .int .i64 e.fp, .int .i64 e.wh, .int .i64 e.pl] 73)).cell? ⟨y.w.heap.size, 6, none⟩ = some (.bool e.op) := by simp [go_sem]
          have hx7 : (y.w.alloc (.cells #[.int .i64 e.id, .int .i64 e.rd, .int .i64 e.s0, .int .i64 e.s1, .int .i64 e.e0, .int .i64 e.e1, .bool e.op, .slice e.la e.legs.length e.lc, .slice e.pa e.pauses.length e.pc, .int .i64 e.fw, .int .i64 e.fp, .int .i64 e.wh, .int .i64 e.pl] 73)).cell? ⟨y.w.heap.size, 7, none⟩ = some (.slice e.la e.legs.length e.lc) := by simp [go_sem]
          have hx8 : (y.w.alloc (.cells #[.int .i64 e.id, .int .i64 e.rd, .int .i64 e.s0, .int .i64 e.s1, .int .i64 e.e0, .int .i64 e.e1, .bool e.op, .slice e.la e.legs.length e.lc, .slice e.pa e.pauses.length e.pc, .int .i64 e.fw, .int .i64 e.fp, .int .i64 e.wh, .int .i64 e.pl] 73)).cell? ⟨y.w.heap.size, 8, none⟩ = some (.slice e.pa e.pauses.length e.pc) := by simp [go_sem]
          have hx9 : (y.w.alloc (.cells #[.int .i64 e.id, .int .i64 e.rd, .int .i64 e.s0, .int .i64 e.s1, .int .i64 e.e0, .int .i64 e.e1, .bool e.op, .slice e.la e.legs.length e.lc, .slice e.pa e.pauses.length e.pc, .int .i64 e.fw, .int .i64 e.fp, .int .i64 e.wh, .int .i64 e.pl] 73)).cell? ⟨y.w.heap.size, 9, none⟩ = some (.int .i64 e.fw) := by simp [go_sem]
          have hx10 : (y.w.alloc (.cells #[.int .i64 e.id, .int .i64 e.rd, .int .i64 e.s0, .int .i64 e.s1, .int .i64 e.e0, .int .i64 e.e1, .bool e.op, .slice e.la e.legs.length e.lc, .slice e.pa e.pauses.length e.pc, .int .i64 e.fw, .int .i64 e.fp, .int .i64 e.wh, .int .i64 e.pl] 73)).cell? ⟨y.w.heap.size, 10, none⟩ = some (.int .i64 e.fp) := by simp [go_sem]
          have hx11 : (y.w.alloc (.cells #[.int .i64 e.id, .int .i64 e.rd, .int .i64 e.s0, .int .i64 e.s1, .int .i64 e.e0, .int .i64 e.e1, .bool e.op, .slice e.la e.legs.length e.lc, .slice e.pa e.pauses.length e.pc, .int .i64 e.fw, .int .i64 e.fp, .int .i64 e.wh, .int .i64 e.pl] 73)).cell? ⟨y.w.heap.size, 11, none⟩ = some (.int .i64 e.wh) := by simp [go_sem]
          have hx12 : (y.w.alloc (.cells #[.int .i64 e.id, .int .i64 e.rd, .int .i64 e.s0, .int .i64 e.s1, .int .i64 e.e0, .int .i64 e.e1, .bool e.op, .slice e.la e.legs.length e.lc, .slice e.pa e.pauses.length e.pc, .int .i64 e.fw, .int .i64 e.fp, .int .i64 e.wh, .int .i64 e.pl] 73)).cell? ⟨y.w.heap.size, 12, none⟩ = some (.int .i64 e.pl) := by simp [go_sem]
          have hxf : ∀ o, (y.w.alloc (.cells #[.int .i64 e.id, .int .i64 e.rd, .int .i64 e.s0, .int .i64 e.s1, .int .i64 e.e0, .int .i64 e.e1, .bool e.op, .slice e.la e.legs.length e.lc, .slice e.pa e.pauses.length e.pc, .int .i64 e.fw, .int .i64 e.fp, .int .i64 e.wh, .int .i64 e.pl] 73)).frozen? ⟨y.w.heap.size, o, none⟩ = false := fun o => by simp [go_sem]
          have hlt0 : y.w.heap.size < (y.w.alloc (.cells #[.int .i64 e.id, .int .i64 e.rd, .int .i64 e.s0, .int .i64 e.s1, .int .i64 e.e0, .int .i64 e.e1, .bool e.op, .slice e.la e.legs.length e.lc, .slice e.pa e.pauses.length e.pc, .int .i64 e.fw, .int .i64 e.fp, .int .i64 e.wh, .int .i64 e.pl] 73)).heap.size := by simp
          have hst0 : ∃ zz : Since y.w, (y.w.alloc (.cells #[.int .i64 e.id, .int .i64 e.rd, .int .i64 e.s0, .int .i64 e.s1, .int .i64 e.e0, .int .i64 e.e1, .bool e.op, .slice e.la e.legs.length e.lc, .slice e.pa e.pauses.length e.pc, .int .i64 e.fw, .int .i64 e.fp, .int .i64 e.wh, .int .i64 e.pl] 73)) = zz.w := IsSince.alloc (IsSince.self _) _
          have hsz0 := y.b.size
          obtain ⟨y2, e2⟩ := IsSince.alloc (IsSince.of y) (.cells #[.int .i64 e.id, .int .i64 e.rd, .int .i64 e.s0, .int .i64 e.s1, .int .i64 e.e0, .int .i64 e.e1, .bool e.op, .slice e.la e.legs.length e.lc, .slice e.pa e.pauses.length e.pc, .int .i64 e.fw, .int .i64 e.fp, .int .i64 e.wh, .int .i64 e.pl] 73)
          rw [e2] at hx0 hx1 hx2 hx3 hx4 hx5 hx6 hx7 hx8 hx9 hx10 hx11 hx12 hxf hlt0 hst0 ⊢
          (replace Hm := Lib.hid (Hm.out.to' hst0))
          clear e2 hst0
          generalize y.w.heap.size = g at *
          have Hhx0 : ∀ q : Since y2.w, q.w.cell? ⟨g, 0, none⟩ = some (.int .i64 e.id) := fun q => Since.cell hx0 (by omega) q
          have Hhx1 : ∀ q : Since y2.w, q.w.cell? ⟨g, 1, none⟩ = some (.int .i64 e.rd) := fun q => Since.cell hx1 (by omega) q
          have Hhx2 : ∀ q : Since y2.w, q.w.cell? ⟨g, 2, none⟩ = some (.int .i64 e.s0) := fun q => Since.cell hx2 (by omega) q
          have Hhx3 : ∀ q : Since y2.w, q.w.cell? ⟨g, 3, none⟩ = some (.int .i64 e.s1) := fun q => Since.cell hx3 (by omega) q
          have Hhx4 : ∀ q : Since y2.w, q.w.cell? ⟨g, 4, none⟩ = some (.int .i64 e.e0) := fun q => Since.cell hx4 (by omega) q
          have Hhx5 : ∀ q : Since y2.w, q.w.cell? ⟨g, 5, none⟩ = some (.int .i64 e.e1) := fun q => Since.cell hx5 (by omega) q
          have Hhx6 : ∀ q : Since y2.w, q.w.cell? ⟨g, 6, none⟩ = some (.bool e.op) := fun q => Since.cell hx6 (by omega) q
          have Hhx7 : ∀ q : Since y2.w, q.w.cell? ⟨g, 7, none⟩ = some (.slice e.la e.legs.length e.lc) := fun q => Since.cell hx7 (by omega) q
          have Hhx8 : ∀ q : Since y2.w, q.w.cell? ⟨g, 8, none⟩ = some (.slice e.pa e.pauses.length e.pc) := fun q => Since.cell hx8 (by omega) q
          have Hhx9 : ∀ q : Since y2.w, q.w.cell? ⟨g, 9, none⟩ = some (.int .i64 e.fw) := fun q => Since.cell hx9 (by omega) q
          have Hhx10 : ∀ q : Since y2.w, q.w.cell? ⟨g, 10, none⟩ = some (.int .i64 e.fp) := fun q => Since.cell hx10 (by omega) q
          have Hhx11 : ∀ q : Since y2.w, q.w.cell? ⟨g, 11, none⟩ = some (.int .i64 e.wh) := fun q => Since.cell hx11 (by omega) q
          have Hhx12 : ∀ q : Since y2.w, q.w.cell? ⟨g, 12, none⟩ = some (.int .i64 e.pl) := fun q => Since.cell hx12 (by omega) q
          have Hhxf : ∀ (q : Since y2.w) (o : Nat), q.w.frozen? ⟨g, o, none⟩ = false := fun q o => Since.free (hxf o) (by omega) q
          have Hhxg := Lib.hid (And.intro hsz0 hlt0)
          clear hlt0 hsz0
          have hlk := run_look keyInt Hm.out Tryd.underlying105 (zeroBool _) e.id false
          unfold eint at hlk
          simp only [Bool.false_eq_true, if_false] at hlk
          by_cases hin : e.id ∈ (l.map fun r : Ride => r.id).take k
          · rw [idE_in hin] at hlk
            have Hr := Lib.hid (show eachE l each = 6 by
              rw [HP.out, if_pos (dupB_true fun h => ((Hnx.out.1 (nodup_of_take h)).2 hin))])
            clear hin
            go_wp2_with fail
            go_ret
            exact ⟨ret_int Hr.out.symm, _, rfl⟩
          · rw [idE_out hin] at hlk
            obtain ⟨w2, hst, hw2⟩ := run_store_new keyInt Hm.out Tryd.underlying105 e.id (.bool true) ((idE_lk e.id _ 0).2 hin)
            unfold eint at hst
            have Hw2 := Lib.hid hw2
            have Hnd2 := Lib.hid (Hnx.out.2 ⟨Hnd.out, hin⟩)
            clear hw2 hin
            go_wp2_with fail
            obtain ⟨y3, hy3⟩ := y2.block (r := bm) (by have := Hgb.out; omega) (.map (entF eint (idE ((l.map fun r : Ride => r.id).take k) ++ [(e.id, Value.bool true)]) 0).toArray (idE ((l.map fun r : Ride => r.id).take k) ++ [(e.id, Value.bool true)]).length)
            have hm3 : MapAt eint y3.w bm (idE ((l.map fun r : Ride => r.id).take (k + 1))) := by
              rw [← hy3, idE_next He'.out]
              exact setBlock_at Hm.out.lt'
            have Hm3 := Lib.hid hm3
            have Hy3 := Lib.hid (Hw2.out.trans hy3)
            clear hm3 hy3
            rw [Hy3.out]
            go_roundw
            case rel => exact ⟨k + 1, y3, by omega, by go_num, rfl, Hm3.out, Hnd2.out⟩
            case measure => simp [intOf] <;> omega
        · obtain rfl : k = l.length := by omega
          have Hr := Lib.hid (show eachE l each = 0 by
            have h1 := Hnd.out
            rw [List.take_of_length_le (by simp)] at h1
            rw [HP.out, if_neg (by rw [dupB_false h1]; simp)])
          go_wp2_with fail
          go_ret
          exact ⟨ret_int Hr.out.symm, _, rfl⟩
end Go.Proofs.YtdkcclngionihaaDoor
/- Cases of tables. -/
namespace Go.Proofs.YtdkcclngionihaaDoor
open Go.RowKit

/-- what a table is made of, with the places of its lists in memory -/
structure Cas where
  az : Option Addr
  zs : List Int
  cz : Nat
  n : Int
  e : Int
  a : Option Addr
  R : List Ride
  c : Nat
  f : Int
  t : Int
/-- the ends of rides are numbers of 64 bits -/
abbrev EndsI (R : List Ride) : Prop := ∀ r ∈ R, r.fp ≤ 9223372036854775807 ∧ r.pl ≤ 9223372036854775807
structure Cas.At (w : World) (q : Cas) : Prop where
  z : IntRow w q.az q.zs
  r : RideRow w q.a q.R
  zl : q.zs.length ≤ 9223372036854775807
  rl : q.R.length ≤ 9223372036854775807
  i : EndsI q.R
theorem Cas.At.to {w W : World} {q : Cas} (h : q.At w) (hW : ∃ z : Since w, W = z.w) : q.At W := ⟨h.z.to hW, h.r.to hW, h.zl, h.rl, h.i⟩
end Go.Proofs.YtdkcclngionihaaDoor
/- Trips between zones: the rides one after the other in their order: plain mathematics. -/
namespace Go.Proofs.YtdkcclngionihaaDoor
open Go.RowKit

/-- the numbers of the rides in their order -/
structure OrdT (R : List Ride) (o : List Nat) : Prop where
  perm : o.Perm (List.range R.length)
  sorted : o.Pairwise fun i j => bf (rAt R j) (rAt R i) = false
/-- how many of these rides are of the rider and day k and have ended -/
def nB (R : List Ride) (l : List Nat) (k : Int × Int) : Nat := (l.filter fun j => ofK k (rAt R j)).length
/-- how many of them were taken -/
def tkV (R : List Ride) (each : Int) (l : List Nat) (k : Int × Int) : Int := min each (nB R l k)
theorem rAt_range (R : List Ride) : R = (List.range R.length).map (rAt R) := by
  apply List.ext_getElem (by simp)
  intro i h1 h2
  simp [rAt, List.getD_eq_getElem?_getD, h1]
theorem filter_range (R : List Ride) (p : Ride → Bool) : (R.filter p).length = ((List.range R.length).filter fun j => p (rAt R j)).length := by
  conv => lhs; rw [rAt_range R, List.filter_map, List.length_map]
  rfl
section
variable {R : List Ride} {o : List Nat} (hO : OrdT R o)
include hO
theorem OrdT.nodup : o.Nodup := hO.perm.symm.nodup List.nodup_range
theorem OrdT.len : o.length = R.length := by simpa using hO.perm.length_eq
theorem OrdT.lt {i : Nat} (h : i ∈ o) : i < R.length := List.mem_range.1 (hO.perm.mem_iff.1 h)
theorem OrdT.split {m i : Nat} (h : o[m]? = some i) : o = o.take m ++ i :: o.drop (m + 1) := by
  have _ := hO.perm
  have hlt := (List.getElem?_eq_some_iff.1 h).1
  have he := (List.getElem?_eq_some_iff.1 h).2
  rw [← he, ← List.drop_eq_getElem_cons hlt, List.take_append_drop]
theorem OrdT.take_next {m i : Nat} (h : o[m]? = some i) : o.take (m + 1) = o.take m ++ [i] := by
  have _ := hO.perm
  rw [List.take_succ_eq_append_getElem (List.getElem?_eq_some_iff.1 h).1, (List.getElem?_eq_some_iff.1 h).2]
theorem OrdT.notin {m i : Nat} (h : o[m]? = some i) : i ∉ o.take m := by
  have hn := hO.nodup
  rw [hO.split h, List.nodup_append] at hn
  exact fun hm => hn.2.2 i hm i (by simp) rfl
theorem OrdT.not_before {m i j : Nat} (h : o[m]? = some i) (hj : j ∈ o.take m) : bf (rAt R i) (rAt R j) = false := by
  have hs := hO.sorted
  rw [hO.split h, List.pairwise_append] at hs
  exact hs.2.2 j hj i (by simp)
theorem OrdT.not_after {m i j : Nat} (h : o[m]? = some i) (hj : j ∈ o.drop (m + 1)) : bf (rAt R j) (rAt R i) = false := by
  have hs := hO.sorted
  rw [hO.split h, List.pairwise_append, List.pairwise_cons] at hs
  exact hs.2.1.1 j hj
theorem OrdT.before (hid : (R.map fun r : Ride => r.id).Nodup) {m i j : Nat} (h : o[m]? = some i) (hj : j ∈ o.take m) : bf (rAt R j) (rAt R i) = true := by
  cases hb : bf (rAt R j) (rAt R i)
  · have h3 := bf_total hb (hO.not_before h hj)
    have hi : i < R.length := hO.lt (List.mem_of_getElem? h)
    have hjl : j < R.length := hO.lt (List.mem_of_mem_take hj)
    have e1 : (R.map fun r : Ride => r.id)[j]? = some (rAt R j).id := by rw [List.getElem?_map]; unfold rAt; rw [List.getD_eq_getElem?_getD, List.getElem?_eq_getElem hjl]; rfl
    have e2 : (R.map fun r : Ride => r.id)[i]? = some (rAt R i).id := by rw [List.getElem?_map]; unfold rAt; rw [List.getD_eq_getElem?_getD, List.getElem?_eq_getElem hi]; rfl
    rw [← h3] at e2
    have h4 := List.getElem?_eq_some_iff.1 e1
    have h5 := List.getElem?_eq_some_iff.1 e2
    have : j = i := (List.getElem_inj hid).1 (h4.2.trans h5.2.symm)
    subst this
    exact (hO.notin h hj).elim
  · rfl
/-- the rides before one are those that came before it in the order -/
theorem ahd_ord (hid : (R.map fun r : Ride => r.id).Nodup) {m i : Nat} (h : o[m]? = some i) : ahd R (rAt R i) = nB R (o.take m) (key (rAt R i)) := by
  unfold ahd nB
  rw [filter_range, ← (hO.perm.filter _).length_eq]
  conv => lhs; rw [hO.split h]
  rw [List.filter_append, List.length_append]
  have h1 : (o.take m).filter (fun j => ofK (key (rAt R i)) (rAt R j) && bf (rAt R j) (rAt R i)) = (o.take m).filter (fun j => ofK (key (rAt R i)) (rAt R j)) :=
    List.filter_congr fun j hj => by rw [hO.before hid h hj, Bool.and_true]
  have h2 : (i :: o.drop (m + 1)).filter (fun j => ofK (key (rAt R i)) (rAt R j) && bf (rAt R j) (rAt R i)) = [] := by
    rw [List.filter_eq_nil_iff]
    intro j hj
    rcases List.mem_cons.1 hj with rfl | hj
    · rw [bf_irrefl]; simp
    · rw [hO.not_after h hj]; simp
  rw [h1, h2]; rfl
theorem nB_next {m i : Nat} (h : o[m]? = some i) (k : Int × Int) : nB R (o.take (m + 1)) k = nB R (o.take m) k + if ofK k (rAt R i) = true then 1 else 0 := by
  unfold nB
  rw [hO.take_next h, List.filter_append, List.length_append]
  congr 1
  by_cases hk : ofK k (rAt R i) = true
  · rw [if_pos hk]; simp [hk]
  · rw [if_neg hk]; simp [hk]
/-- one more ride: it is counted exactly if not enough were taken -/
theorem ctd_now (hid : (R.map fun r : Ride => r.id).Nodup) {m i : Nat} (h : o[m]? = some i) (each : Int) : ctd R each (rAt R i) = (!(rAt R i).op && decide (tkV R each (o.take m) (key (rAt R i)) < each)) := by
  unfold ctd
  rw [ahd_ord hO hid h]
  congr 1
  unfold tkV
  rw [Bool.eq_iff_iff, decide_eq_true_eq, decide_eq_true_eq]
  omega
theorem tkV_next {m i : Nat} (h : o[m]? = some i) (each : Int) (k : Int × Int) :
    tkV R each (o.take (m + 1)) k = if k = key (rAt R i) ∧ (!(rAt R i).op && decide (tkV R each (o.take m) (key (rAt R i)) < each)) = true then tkV R each (o.take m) k + 1 else tkV R each (o.take m) k := by
  unfold tkV
  rw [nB_next hO h]
  by_cases hk : k = key (rAt R i)
  · subst hk
    cases hop : (rAt R i).op
    · have h1 : ofK (key (rAt R i)) (rAt R i) = true := by unfold ofK; rw [hop]; simp
      rw [if_pos h1]
      by_cases hlt : min each (nB R (o.take m) (key (rAt R i))) < each
      · rw [if_pos ⟨rfl, by simpa using hlt⟩]; push_cast; omega
      · rw [if_neg (by simp; omega)]; push_cast; omega
    · have h1 : ¬ ofK (key (rAt R i)) (rAt R i) = true := by unfold ofK; rw [hop]; simp
      rw [if_neg h1, if_neg (by simp)]; rfl
  · have h1 : ¬ ofK k (rAt R i) = true := by
      unfold ofK
      rw [Bool.and_eq_true, decide_eq_true_eq]
      exact fun h => hk h.2.symm
    rw [if_neg h1, if_neg (fun h => hk h.1)]; rfl
end
theorem tkV_start (R : List Ride) {each : Int} (h : 0 ≤ each) (k : Int × Int) : tkV R each [] k = 0 := by
  unfold tkV nB
  simp; omega
end Go.Proofs.YtdkcclngionihaaDoor
/- Trips between zones, the program: the rides in their order. -/
namespace Go.Proofs.YtdkcclngionihaaDoor
open Go.RowKit Go.ChangeMaps Go.Sort Go.Shelf Go.Lib

def rcmpT (a b : Ride) : Int := if bf a b then -1 else if bf b a then 1 else 0
theorem or2d_calls (w : World) (x y : Int) (T : TypeId) :
    Calls Tryd.prog 64 #[.slice (some ⟨w.heap.size, 0, none⟩) 2 2] (w.alloc (.cells #[.int .i64 x, .int .i64 y] T)).drew fun e w' => e = .returned (.int .i64 (orI [x, y])) ∧ (w.alloc (.cells #[.int .i64 x, .int .i64 y] T)).drew = w' := by
  refine or_calls _ _ [x, y] 2 ?_ (by simp)
  intro i hi
  refine ⟨w.heap.size, 0, rfl, by simp [World.drew], ?_⟩
  have := cell_new_at w [Value.int .i64 x, Value.int .i64 y] T i (.int .i64 (at0 [x, y] i)) (by
    match i, hi with
    | 0, _ => rfl
    | 1, _ => rfl)
  rw [Addr.add_lit] at this
  exact this
theorem rcmpT_or (u v : Ride) : orI [ccmp u.s0 v.s0, ccmp u.id v.id] = rcmpT u v := by
  unfold rcmpT
  have h1 := bf_iff u v
  have h2 := bf_iff v u
  unfold orI ccmp
  cases hb : bf u v
  · have n1 : ¬ bf u v = true := by rw [hb]; simp
    rw [h1] at n1
    cases hb2 : bf v u
    · have n2 : ¬ bf v u = true := by rw [hb2]; simp
      rw [h2] at n2
      have e1 : u.s0 = v.s0 := by omega
      have e3 : u.id = v.id := by omega
      simp [e1, e3]
    · rw [h2] at hb2
      rcases hb2 with h | ⟨h, h'⟩
      · simp [show ¬ u.s0 < v.s0 by omega, h]
      · simp [h, h', show ¬ u.id < v.id by omega]
  · rw [h1] at hb
    rcases hb with h | ⟨h, h'⟩
    · simp [h]
    · simp [h, h']
set_option maxRecDepth 100000 in
set_option maxHeartbeats 8000000 in
theorem cmpT_calls (W : World) (bx : Nat) (a : Option Addr) (c : Nat) (R : List Ride) (i k : Nat) (u v : Ride) (hb : W.cell? ⟨bx, 0, none⟩ = some (.slice a R.length c)) (hR : Els Ride.cs 13 W a R) (hi : R[i]? = some u) (hk : R[k]? = some v) (_hRl : R.length ≤ 9223372036854775807) :
    Calls Tryd.prog 63 #[.int .i64 i, .int .i64 k, .pointer (some ⟨bx, 0, none⟩)] W fun e w' => e = .returned (.int .i64 (rcmpT u v)) ∧ Gr W w' := by
  obtain ⟨b1, off1, rfl, h1⟩ := Els.ride hR hi
  obtain ⟨b2, off2, hbo, h2⟩ := Els.ride hR hk
  obtain ⟨rfl, rfl⟩ : b1 = b2 ∧ off1 = off2 := by simpa using hbo
  have hi0 : (0 : Int) ≤ (i : Int) := by omega
  have hk0 : (0 : Int) ≤ (k : Int) := by omega
  have hil : (i : Int) < (R.length : Int) := by have := (List.getElem?_eq_some_iff.1 hi).1; omega
  have hkl : (k : Int) < (R.length : Int) := by have := (List.getElem?_eq_some_iff.1 hk).1; omega
  have kb : ∀ w', Gr W w' → w'.cell? ⟨bx, 0, none⟩ = some (.slice (some ⟨b1, off1, none⟩) R.length c) := fun _ h => Gr.cell hb h
  have ka0 := fun w' (h : Gr W w') => Gr.cell (h1.c0 (Since.self W)) h
  have ka1 := fun w' (h : Gr W w') => Gr.cell (h1.c1 (Since.self W)) h
  have ka2 := fun w' (h : Gr W w') => Gr.cell (h1.c2 (Since.self W)) h
  have ka3 := fun w' (h : Gr W w') => Gr.cell (h1.c3 (Since.self W)) h
  have ka4 := fun w' (h : Gr W w') => Gr.cell (h1.c4 (Since.self W)) h
  have ka5 := fun w' (h : Gr W w') => Gr.cell (h1.c5 (Since.self W)) h
  have ka6 := fun w' (h : Gr W w') => Gr.cell (h1.c6 (Since.self W)) h
  have ka7 := fun w' (h : Gr W w') => Gr.cell (h1.c7 (Since.self W)) h
  have ka8 := fun w' (h : Gr W w') => Gr.cell (h1.c8 (Since.self W)) h
  have ka9 := fun w' (h : Gr W w') => Gr.cell (h1.c9 (Since.self W)) h
  have ka10 := fun w' (h : Gr W w') => Gr.cell (h1.c10 (Since.self W)) h
  have ka11 := fun w' (h : Gr W w') => Gr.cell (h1.c11 (Since.self W)) h
  have ka12 := fun w' (h : Gr W w') => Gr.cell (h1.c12 (Since.self W)) h
  have kc0 := fun w' (h : Gr W w') => Gr.cell (h2.c0 (Since.self W)) h
  have kc1 := fun w' (h : Gr W w') => Gr.cell (h2.c1 (Since.self W)) h
  have kc2 := fun w' (h : Gr W w') => Gr.cell (h2.c2 (Since.self W)) h
  have kc3 := fun w' (h : Gr W w') => Gr.cell (h2.c3 (Since.self W)) h
  have kc4 := fun w' (h : Gr W w') => Gr.cell (h2.c4 (Since.self W)) h
  have kc5 := fun w' (h : Gr W w') => Gr.cell (h2.c5 (Since.self W)) h
  have kc6 := fun w' (h : Gr W w') => Gr.cell (h2.c6 (Since.self W)) h
  have kc7 := fun w' (h : Gr W w') => Gr.cell (h2.c7 (Since.self W)) h
  have kc8 := fun w' (h : Gr W w') => Gr.cell (h2.c8 (Since.self W)) h
  have kc9 := fun w' (h : Gr W w') => Gr.cell (h2.c9 (Since.self W)) h
  have kc10 := fun w' (h : Gr W w') => Gr.cell (h2.c10 (Since.self W)) h
  have kc11 := fun w' (h : Gr W w') => Gr.cell (h2.c11 (Since.self W)) h
  have kc12 := fun w' (h : Gr W w') => Gr.cell (h2.c12 (Since.self W)) h
  have Hor := Lib.hid (rcmpT_or u v)
  clear hbo h1 h2 hi hk hR hb ka1 ka3 ka4 ka5 ka6 ka7 ka8 ka9 ka10 ka11 ka12 kc1 kc3 kc4 kc5 kc6 kc7 kc8 kc9 kc10 kc11 kc12
  go_enter Tryd.func63, Tryd.ntmps63
  go_upto_region 1 with fail
  go_region_held3 (fun w' => Gr W w') (first | assumption | exact Gr.drew' (Gr.refl _) | exact Gr.alloc' (by assumption) _ | exact Gr.alloc' (Gr.drew' (Gr.refl _)) _) (first | (go_at_call 65; ((with_reducible refine (ccmp_calls _ _ _).mono ?_); rintro _ _ ⟨rfl, rfl⟩)) | (go_at_call 64; ((with_reducible refine (or2d_calls _ _ _ _).mono ?_); rintro _ _ ⟨rfl, rfl⟩)))
  go_wp2_with fail
  go_ret
  exact ⟨ret_int Hor.out, by first | assumption | exact Gr.alloc' (Gr.drew' (Gr.refl _)) _ | exact Gr.drew' (Gr.alloc' (Gr.refl _) _)⟩
def SortPostT (w : World) (g : Nat) (R : List Ride) (e : Ending) (w' : World) : Prop :=
  e = .returned (.tuple #[]) ∧ w.grownBy w' (some g) ∧ ∃ o, OrdT R o ∧ Nums w' g R.length (fun j => (o.getD j 0 : Nat))
theorem sortT_calls (w : World) (g bx cap : Nat) (a : Option Addr) (c : Nat) (R : List Ride) (hn : 0 < R.length) (hl : R.length < 4611686018427387904) (hN : Nums w g R.length (fun j => (j : Int))) (hb : w.cell? ⟨bx, 0, none⟩ = some (.slice a R.length c)) (hR : Els Ride.cs 13 w a R) (hgb : g ≠ bx) (hga : ∀ b, a = some b → b.block ≠ g) (hid : (R.map fun r : Ride => r.id).Nodup) :
    Calls Tryd.prog 62 #[.slice (some ⟨g, 0, none⟩) R.length cap, .func (.func 63) #[] #[.pointer (some ⟨bx, 0, none⟩)]] w (SortPostT w g R) := by
  have hinst : Inhabited (Fin R.length) := ⟨⟨0, hn⟩⟩
  let enc : Fin R.length → Value := fun i => .int .i64 (i.val : Int)
  let cf : Fin R.length → Fin R.length → Int := fun i k => rcmpT (rAt R i.val) (rAt R k.val)
  have hlt : ltOf cf = fun i k => bf (rAt R i.val) (rAt R k.val) := by
    funext i k
    show decide (rcmpT _ _ < 0) = _
    unfold rcmpT
    cases h : bf (rAt R i.val) (rAt R k.val)
    · cases h2 : bf (rAt R k.val) (rAt R i.val) <;> simp
    · simp
  have hO : SWO (ltOf cf) := by
    rw [hlt]
    exact ⟨fun x => bf_irrefl _, fun x y z h1 h2 => bf_trans h1 h2, fun x y z h1 h2 => bf_ntrans h1 h2⟩
  have hT : ∀ x y, (ltOf cf) x y = false → (ltOf cf) y x = false → x = y := fun x y h1 h2 => by
    rw [hlt] at h1 h2
    have h3 := bf_total h1 h2
    have e1 : (R.map fun r : Ride => r.id)[x.val]? = some (rAt R x.val).id := map_at (f := fun r : Ride => r.id) (by unfold rAt; rw [List.getD_eq_getElem?_getD, List.getElem?_eq_getElem x.isLt]; rfl)
    have e2 : (R.map fun r : Ride => r.id)[y.val]? = some (rAt R y.val).id := map_at (f := fun r : Ride => r.id) (by unfold rAt; rw [List.getD_eq_getElem?_getD, List.getElem?_eq_getElem y.isLt]; rfl)
    rw [← h3] at e2
    have h4 := List.getElem?_eq_some_iff.1 e1
    have h5 := List.getElem?_eq_some_iff.1 e2
    exact Fin.ext ((List.getElem_inj hid).1 (h4.2.trans h5.2.symm))
  have eg : ∀ args w, (callFunc 63 args).run Tryd.prog w = .ok (.enter 63 args) w := enters_of Tryd.func63 (by kernel_rfl) rfl
  have hbl : bx < w.heap.size := World.block_lt_of_cell? w _ hb
  have hcmp : CmpLays1 Tryd.prog 63 #[.pointer (some ⟨bx, 0, none⟩)] enc cf g 0 R.length w := fun m os dk _ x y => by
    have hg := grownBy_sort1 enc w g m dk os
    have hb' : (sortWorld enc w g 0 m dk os).cell? ⟨bx, 0, none⟩ = some (.slice a R.length c) := by
      rw [World.cell?_of_block (w := w) (a := ⟨bx, 0, none⟩) (hg.block bx hbl (by simpa using Ne.symm hgb))]; exact hb
    have hR' : Els Ride.cs 13 (sortWorld enc w g 0 m dk os) a R := hR.keep hg.size fun b off ha hlt => hg.block b hlt (by have := hga _ ha; simpa using this)
    exact cmpT_calls _ bx a c R x.val y.val (rAt R x.val) (rAt R y.val) hb' hR' (by unfold rAt; rw [List.getD_eq_getElem?_getD, List.getElem?_eq_getElem x.isLt]; rfl) (by unfold rAt; rw [List.getD_eq_getElem?_getD, List.getElem?_eq_getElem y.isLt]; rfl) (by omega)
  let d : Array (Fin R.length) := (List.finRange R.length).toArray
  have hd : d.size = R.length := by simp [d]
  have hH : Holds enc w g 0 d := fun j hj => by
    rw [hd] at hj
    have e1 : d[j]! = ⟨j, hj⟩ := by
      rw [getElem!_pos d j (by rw [hd]; exact hj)]
      simp [d]
    rw [e1, Nat.zero_add]
    exact ⟨hN.c j hj, hN.f j hj⟩
  have hc := Any.slices_SortFunc_total Tryd.sortInt enc (fun _ => rfl) cf hO 63 #[.pointer (some ⟨bx, 0, none⟩)] g 0 cap d w eg (by rw [hd]; exact hcmp) hH hN.lt (by rw [hd]; exact hl) hT
  rw [hd] at hc
  change Calls Tryd.prog 62 _ _ _ at hc
  refine hc.mono ?_
  rintro _ _ ⟨rfl, n, os, rfl⟩
  have hs : ((d.toList.mergeSort fun x y => !ltOf cf y x).toArray).size = d.size := by simp
  have hh := holds_sortWorld enc w g 0 n d (d.toList.mergeSort fun x y => !ltOf cf y x).toArray os hN.lt hH hs
  have hpm : (d.toList.mergeSort fun x y => !ltOf cf y x).Perm (List.finRange R.length) := by
    have := List.mergeSort_perm d.toList fun x y => !ltOf cf y x
    simpa [d] using this
  have hpw : (d.toList.mergeSort fun x y => !ltOf cf y x).Pairwise fun x y => bf (rAt R y.val) (rAt R x.val) = false := by
    have := List.pairwise_mergeSort (le := fun x y => !ltOf cf y x) (fun a b c h1 h2 => by
      simp only [Bool.not_eq_true'] at h1 h2 ⊢; exact hO.ntrans _ _ _ h2 h1) (fun a b => by
      simp only [Bool.or_eq_true, Bool.not_eq_true']
      cases e : ltOf cf b a
      · exact .inl rfl
      · refine .inr ?_
        cases e2 : ltOf cf a b
        · rfl
        · have := hO.trans _ _ _ e e2; rw [hO.irrefl] at this; cases this) d.toList
    exact this.imp fun h => by rw [hlt] at h; simpa using h
  refine ⟨rfl, grownBy_sort1 _ _ _ _ _ _, (d.toList.mergeSort fun x y => !ltOf cf y x).map (·.val), ⟨?_, ?_⟩, ?_⟩
  · have := hpm.map (·.val)
    rwa [show (List.finRange R.length).map (·.val) = List.range R.length from by
      apply List.ext_getElem (by simp)
      intro i h1 h2
      simp] at this
  · rw [List.pairwise_map]; exact hpw
  · refine ⟨Nat.lt_of_lt_of_le hN.lt (grownBy_sort1 _ _ _ _ _ _).size, fun j hj => ?_, fun j hj => ?_⟩
    · have := (hh j (by rw [hs, hd]; exact hj)).1
      rw [Nat.zero_add] at this
      rw [this]
      have hjl : j < (d.toList.mergeSort fun x y => !ltOf cf y x).length := by rw [hpm.length_eq]; simpa using hj
      rw [getElem!_pos _ j (by rw [hs, hd]; exact hj)]
      show some (Value.int .i64 _) = some (Value.int .i64 _)
      rw [List.getD_eq_getElem?_getD, List.getElem?_map, List.getElem?_eq_getElem hjl]
      simp
    · have := (hh j (by rw [hs, hd]; exact hj)).2
      rw [Nat.zero_add] at this
      exact this
end Go.Proofs.YtdkcclngionihaaDoor
/- Trips between zones, the program: which rides are counted. -/
namespace Go.Proofs.YtdkcclngionihaaDoor
open Go.RowKit Go.ChangeMaps Go.Sort Go.Shelf Go.Lib

/-- truth values of the call's own in block g -/
structure Bls (w : World) (g : Nat) (n : Nat) (f : Nat → Bool) : Prop where
  lt : g < w.heap.size
  c : ∀ j, j < n → w.cell? ⟨g, j, none⟩ = some (.bool (f j))
  f : ∀ j, j < n → w.frozen? ⟨g, j, none⟩ = false
theorem Bls.since {w : World} {g n : Nat} {f : Nat → Bool} (h : Bls w g n f) (y : Since w) : Bls y.w g n f :=
  ⟨Nat.lt_of_lt_of_le h.lt y.b.size, fun j hj => Since.cell (h.c j hj) h.lt y, fun j hj => Since.free (h.f j hj) h.lt y⟩
theorem Bls.to {w W : World} {g n : Nat} {f : Nat → Bool} (h : Bls w g n f) (hW : ∃ z : Since w, W = z.w) : Bls W g n f := by
  obtain ⟨z, rfl⟩ := hW; exact h.since z
theorem Bls.set {w : World} {g n k : Nat} {f f' : Nat → Bool} (h : Bls w g n f) (hk : k < n) (v : Bool) (hv : f' k = v) (ho : ∀ j, j < n → j ≠ k → f' j = f j) : Bls (w.setCell ⟨g, k, none⟩ (.bool v)) g n f' := by
  refine ⟨by simpa [World.setCell] using h.lt, fun j hj => ?_, fun j hj => ?_⟩
  · by_cases hjk : j = k
    · subst hjk
      rw [World.cell?_setCell_same _ _ _ (h.c j hj), hv]
    · show ((w.setCells g k [.bool v]).cell? _) = _
      rw [World.cell?_setCells_out g [.bool v] k w ⟨g, j, none⟩ (fun _ _ => by simp; omega), h.c j hj, ho j hj hjk]
  · rw [World.frozen?_setCell]; exact h.f j hj
theorem Bls.setOther {w : World} {g n : Nat} {f : Nat → Bool} (h : Bls w g n f) (p : Addr) (hp : p.block ≠ g) (v : Value) : Bls (w.setCell p v) g n f := by
  have hh := Below.heap_setCell w p v g (fun e => hp e.symm)
  refine ⟨by simpa [World.setCell] using h.lt, fun j hj => ?_, fun j hj => by rw [World.frozen?_setCell]; exact h.f j hj⟩
  rw [World.cell?_of_block (w := w) (a := ⟨g, j, none⟩) hh]; exact h.c j hj
theorem Bls.keep {w w' : World} {g n : Nat} {f : Nat → Bool} (h : Bls w g n f) (hs : w.heap.size ≤ w'.heap.size) (hb : w'.heap[g]? = w.heap[g]?) : Bls w' g n f :=
  ⟨Nat.lt_of_lt_of_le h.lt hs, fun j hj => by rw [World.cell?_of_block (w := w) (a := ⟨g, j, none⟩) hb]; exact h.c j hj, fun j hj => by rw [World.frozen?_of_block (w := w) (a := ⟨g, j, none⟩) hb]; exact h.f j hj⟩
theorem Bls.congr {w : World} {g n : Nat} {f f' : Nat → Bool} (h : Bls w g n f) (he : ∀ j, j < n → f j = f' j) : Bls w g n f' :=
  ⟨h.lt, fun j hj => by rw [h.c j hj, he j hj], h.f⟩
theorem own_bls {w : World} {base : Nat} {e : TypeId} {g n N : Nat} {xs : List Value} (h : w.ownsRow base e 1 (.slice (some ⟨g, 0, none⟩) N n) N xs) (hx : ∀ j, j < N → xs.getD j undef = .bool false) : Bls w g N fun _ => false := by
  obtain ⟨hl, ⟨hbad, _⟩ | ⟨g', cap, cur, he, hg, hh, h1, h2, h3, h4⟩⟩ := h
  · cases hbad
  · obtain ⟨rfl, rfl⟩ : g = g' ∧ n = cap := by simpa using he
    refine ⟨(Array.getElem?_eq_some_iff.1 hh).1, fun j hj => ?_, fun j hj => by simp [World.frozen?, hh]⟩
    have := hx j hj
    rw [← h4] at this
    simp only [Nat.mul_one] at *
    have hjc : j < cur.size := by omega
    simp [World.cell?, hh, List.getD_eq_getElem?_getD, hj, hjc] at this ⊢
    exact this
def eturn (x : Int × Int) : Value := .agg #[.int .i64 x.1, .int .i64 x.2]
theorem keyArr : KeyOps Tryd.prog 109 eturn false where
  chk em w x := by unfold eturn; kernel_rfl
  eq w x y := by
    unfold eturn
    obtain ⟨i, hi, _, _, _⟩ := info_parts (P := Tryd.prog) (e := 3) (z := .int .i64 0) (size := 1) (bytes := 8) (by kernel_rfl)
    have hc : Tryd.prog.cellsOf 3 = 1 := by kernel_rfl
    show (Op.equalIn (9999 + 1) _ _ _).run _ _ = _
    rw [run_equalIn_array w 9999 _ _ Tryd.underlying109 hi, hc]
    have u3 := Tryd.underlying3
    have a3 := Tryd.isAgg3
    have z3 := Tryd.sizeOf3
    rw [show List.range 2 = [0, 1] from rfl]
    have he := fun (a b : Int) => run_equalIn_int (P := Tryd.prog) w 9998 3 .i64 .i64 a b u3
    simp only [Op.eqItems, Sem.run_bind]
    go_simp
    by_cases h1 : x.1 = y.1 <;> by_cases h2 : x.2 = y.2 <;> simp [h1, h2, Prod.ext_iff]
  und := ⟨_, Tryd.underlying109, fun x y => rfl⟩
  bits x := by
    unfold eturn
    rw [show (10000 : Nat) = 9999 + 1 from rfl]
    simp [Instr.sameBits]
/-- 'm[x]++' : in whatever order it is done -/
theorem bump_run {V : World} {bm : Nat} {L : List ((Int × Int) × Value)} (hL : MapAt eturn V bm L) (k d v : Int) (hv : lkV (k, d) L (.int .i64 0) = .int .i64 v) :
    ∃ (w1 w2 : World) (i : Nat), (Instr.mapEntry 108 (.map (some bm)) (.agg #[.int .i64 k, .int .i64 d])).run Tryd.prog V = .ok (.tuple #[.int .i64 v, .int .i64 (i : Int)]) w1 ∧
      (Instr.lookup 108 (.map (some bm)) (.agg #[.int .i64 k, .int .i64 d]) false).run Tryd.prog w1 = .ok (.int .i64 v) w1 ∧
      (Instr.entryStore 108 (.map (some bm)) (.int .i64 (i : Int)) (.int .i64 (v + 1))).run Tryd.prog w1 = .ok () w2 ∧
      MapAt eturn w2 bm (mput (k, d) (.int .i64 (v + 1)) L) ∧ V.grownBy w2 (some bm) := by
  have hlt := hL.lt'
  cases hx : lkF (k, d) L 0 with
  | some r =>
    obtain ⟨i, val⟩ := r
    have hval : val = .int .i64 v := by rw [lkV_eq, hx] at hv; simpa using hv
    subst hval
    obtain ⟨-, hi, -⟩ := lkF_spec L 0 i hx
    rw [Nat.sub_zero] at hi
    have h1 := run_entry_old keyArr hL Tryd.underlying108 (k, d) hx
    have h2 := run_look keyArr hL Tryd.underlying108 (zeroInt V) (k, d) false
    simp only [Bool.false_eq_true, if_false] at h2
    rw [hv] at h2
    have h3 := run_entry_store (P := Tryd.prog) (t := 108) hL hi (.int .i64 (v + 1))
    refine ⟨V, _, i, h1, h2, h3, ?_, setBlock_grown hL⟩
    unfold mput
    rw [hx]
    exact setBlock_at hlt
  | none =>
    have hv0 : v = 0 := by rw [lkV_eq, hx] at hv; simpa using hv.symm
    subst hv0
    have h1 := run_entry_new keyArr hL Tryd.underlying108 (fun w => zeroInt w) (k, d) hx
    have hM : MapAt eturn (setBlock V bm (.map (entF eturn (L ++ [((k, d), Value.int .i64 0)]) 0).toArray (L ++ [((k, d), Value.int .i64 0)]).length)) bm (L ++ [((k, d), Value.int .i64 0)]) := setBlock_at hlt
    have h2 := run_look keyArr hM Tryd.underlying108 (zeroInt _) (k, d) false
    simp only [Bool.false_eq_true, if_false] at h2
    have hlk : lkV (k, d) (L ++ [((k, d), Value.int .i64 0)]) (.int .i64 0) = .int .i64 0 := by
      rw [lkV_eq, lkF_append L _ 0 hx]; simp [lkF]
    rw [hlk] at h2
    have h3 := run_entry_store (P := Tryd.prog) (t := 108) (i := L.length) hM (x := (k, d)) (v0 := Value.int .i64 0) (by simp) (.int .i64 (0 + 1))
    refine ⟨_, _, L.length, h1, h2, h3, ?_, (setBlock_grown hL).trans (setBlock_grown hM)⟩
    have hset : (L ++ [((k, d), Value.int .i64 0)]).set L.length ((k, d), Value.int .i64 (0 + 1)) = mput (k, d) (.int .i64 (0 + 1)) L := by
      unfold mput
      rw [hx]
      simp
    rw [hset]
    exact setBlock_at (by rw [setBlock_size]; exact hlt)
/-- the map in block b holds how many rides of each rider and day were taken -/
def Tk (w : World) (b : Nat) (R : List Ride) (each : Int) (l : List Nat) : Prop :=
  ∃ L : List ((Int × Int) × Value), MapAt eturn w b L ∧ ∀ k : Int × Int, lkV k L (.int .i64 0) = .int .i64 (tkV R each l k)
theorem Tk.to {w W : World} {b : Nat} {R : List Ride} {each : Int} {l : List Nat} (h : Tk w b R each l) (hW : ∃ z : Since w, W = z.w) : Tk W b R each l := by
  obtain ⟨L, h1, h2⟩ := h; exact ⟨L, h1.to' hW, h2⟩
theorem Tk.keep {w w' : World} {b : Nat} {R : List Ride} {each : Int} {l : List Nat} (h : Tk w b R each l) (hb : w'.heap[b]? = w.heap[b]?) : Tk w' b R each l := by
  obtain ⟨L, h1, h2⟩ := h; exact ⟨L, hb.trans h1, h2⟩
theorem Tk.lt {w : World} {b : Nat} {R : List Ride} {each : Int} {l : List Nat} (h : Tk w b R each l) : b < w.heap.size := by
  obtain ⟨L, h1, _⟩ := h; exact h1.lt'
/-- what the rounds keep -/
structure CtAt (w : World) (g0 g1 bm n : Nat) (o : List Nat) (f : Nat → Bool) (R : List Ride) (each : Int) (l : List Nat) : Prop where
  ord : Nums w g0 n (fun j => (o.getD j 0 : Nat))
  out : Bls w g1 n f
  tk : Tk w bm R each l
theorem CtAt.to {w W : World} {g0 g1 bm n : Nat} {o : List Nat} {f : Nat → Bool} {R : List Ride} {each : Int} {l : List Nat} (h : CtAt w g0 g1 bm n o f R each l) (hW : ∃ z : Since w, W = z.w) : CtAt W g0 g1 bm n o f R each l :=
  ⟨h.ord.to hW, h.out.to hW, h.tk.to hW⟩
theorem tk_ne_nums {w : World} {b g n : Nat} {f : Nat → Int} {R : List Ride} {each : Int} {l : List Nat} (h : Tk w b R each l) (hn : Nums w g n f) (h0 : 0 < n) : b ≠ g := by
  obtain ⟨L, h1, _⟩ := h
  rintro rfl
  have := hn.c 0 h0
  unfold MapAt at h1
  simp [World.cell?, h1] at this
theorem tk_ne_bls {w : World} {b g n : Nat} {f : Nat → Bool} {R : List Ride} {each : Int} {l : List Nat} (h : Tk w b R each l) (hn : Bls w g n f) (h0 : 0 < n) : b ≠ g := by
  obtain ⟨L, h1, _⟩ := h
  rintro rfl
  have := hn.c 0 h0
  unfold MapAt at h1
  simp [World.cell?, h1] at this
/-- out[i] = v -/
theorem CtAt.set {w : World} {g0 g1 bm n i : Nat} {o : List Nat} {f f' : Nat → Bool} {R : List Ride} {each : Int} {l : List Nat} (h : CtAt w g0 g1 bm n o f R each l) (hi : i < n) (hne : g0 ≠ g1) (v : Bool) (hv : f' i = v) (ho : ∀ j, j < n → j ≠ i → f' j = f j) : CtAt (w.setCell ⟨g1, i, none⟩ (.bool v)) g0 g1 bm n o f' R each l :=
  ⟨h.ord.setOther _ (fun e => hne e.symm) _, h.out.set hi v hv ho, h.tk.keep (Below.heap_setCell w _ _ bm (tk_ne_bls h.tk h.out (by omega)))⟩
/-- one more is taken -/
theorem CtAt.bump {V w2 : World} {g0 g1 bm n : Nat} {o : List Nat} {f : Nat → Bool} {R : List Ride} {each : Int} {l l' : List Nat} {L : List ((Int × Int) × Value)} {k : Int × Int} {v : Int} (h : CtAt V g0 g1 bm n o f R each l) (h0 : 0 < n)
    (hM : MapAt eturn w2 bm (mput k (.int .i64 (v + 1)) L)) (hG : V.grownBy w2 (some bm)) (hLv : ∀ k, lkV k L (.int .i64 0) = .int .i64 (tkV R each l k)) (hp : ∀ k', tkV R each l' k' = if k' = k then v + 1 else tkV R each l k') : CtAt w2 g0 g1 bm n o f R each l' := by
  have n0 := tk_ne_nums h.tk h.ord h0
  have n1 := tk_ne_bls h.tk h.out h0
  refine ⟨h.ord.keep hG.size (hG.block g0 h.ord.lt (by simpa using Ne.symm n0)), h.out.keep hG.size (hG.block g1 h.out.lt (by simpa using Ne.symm n1)), ⟨_, hM, fun k' => ?_⟩⟩
  rw [lkV_mput, hp k']
  split
  · rfl
  · exact hLv k'
def CtPost (w : World) (R : List Ride) (each : Int) (o : Ending) (w' : World) : Prop :=
  ∃ (g : Nat) (y : Since w), o = .returned (.slice (some ⟨g, 0, none⟩) R.length R.length) ∧ w' = y.w ∧ w.heap.size ≤ g ∧ Bls y.w g R.length (fun i => ctd R each (rAt R i))
end Go.Proofs.YtdkcclngionihaaDoor
/- Trips between zones, the program: which rides are counted, walked. -/
namespace Go.Proofs.YtdkcclngionihaaDoor
open Go.RowKit Go.ChangeMaps Go.Sort Go.Shelf Go.Lib

set_option maxRecDepth 100000 in
set_option maxHeartbeats 16000000 in
theorem counted_calls (w : World) (x : Since w) (a : Option Addr) (R : List Ride) (c : Nat) (each : Int) (h : RideRow w a R) (hl : R.length ≤ 256) (he0 : 0 ≤ each) (he1 : each ≤ 256) (hid : (R.map fun r : Ride => r.id).Nodup) (hs0 : ∀ r ∈ R, 0 ≤ r.s0 ∧ r.s0 ≤ 4294943999) :
    Calls Tryd.prog 44 #[.slice a R.length c, .int .i64 each] x.w (CtPost w R each) := by
  have HR := Lib.hid h
  have Hid := Lib.hid hid
  have Hs0 := Lib.hid hs0
  clear h hid hs0
  go_enter Tryd.func44, Tryd.ntmps44
  go_upto_region 1 with fail
  have hb0_0 : ∀ y : Since (x.w.alloc (.cells #[.slice a R.length c] 23)), y.w.cell? ⟨x.w.heap.size, 0, none⟩ = some (.slice a R.length c) := fun y => Since.cell (by simp [go_sem]) (by first | (simp; done) | (simp; omega)) y
  have hf0 : ∀ (y : Since (x.w.alloc (.cells #[.slice a R.length c] 23))) (o : Nat), y.w.frozen? ⟨x.w.heap.size, o, none⟩ = false := fun y o => Since.free (by simp [go_sem]) (by first | (simp; done) | (simp; omega)) y
  have hWup : ∃ z : Since w, (x.w.alloc (.cells #[.slice a R.length c] 23)) = z.w := x.alloc _
  obtain ⟨y0, hy0⟩ := Since.refl (x.w.alloc (.cells #[.slice a R.length c] 23))
  have Hbx := Lib.hid (And.intro x.b.size (show x.w.heap.size + 1 = (x.w.alloc (.cells #[.slice a R.length c] 23)).heap.size from by simp))
  generalize hW : (x.w.alloc (.cells #[.slice a R.length c] 23)) = W at *
  clear hW
  generalize x.w.heap.size = bx at *
  have Hup := Lib.hid (Since.up hWup)
  rw [hy0]
  clear hy0
  replace HR := Lib.hid (HR.out.to hWup)
  clear hWup
  obtain ⟨i0, hi0, hz0, hsz0, hby0⟩ := info_parts (P := Tryd.prog) (e := 3) (z := .int .i64 0) (size := 1) (bytes := 8) (by kernel_rfl)
  go_wp2_with (at_make; refine wpList_make_full _ rfl _ _ 22 rfl W.heap.size 3 i0 (.int .i64 0) 1 Tryd.underlying22 hi0 hz0 hsz0 .i64 .i64 (R.length : Int) (R.length : Int) R.length rfl rfl rfl rfl (by rw [hby0]; omega) (by unfold maxLen; omega) y0.b.size ?_; intro w1 hown hg1)
  have hrow := own_nums hown (fun j hj => by simp [madeCells, List.getD_eq_getElem?_getD, hj]; show (#[Value.int .i64 0] : Array Value)[j % 1]! = _; rw [Nat.mod_one]; rfl)
  obtain ⟨y1, hy1⟩ := y0.grown hg1 (fun k hk => by cases hk)
  have Hg0 := Lib.hid y0.b.size
  subst hy1
  clear hown hg1 hi0 hz0 hsz0 hby0
  generalize y0.w.heap.size = g0 at *
  have Hrow := Lib.hid hrow
  clear hrow
  go_loopw [18] (fun i wr => ∃ (k : Nat) (y : Since W), k ≤ R.length ∧ i = .int .i64 k ∧ wr = y.w ∧ Nums y.w g0 R.length (fun j => if j < k then (j : Int) else 0)) (fun i _ => R.length - (intOf i).toNat)
  case atStart => exact ⟨0, y1, by omega, rfl, rfl, by simpa using Hrow.out⟩
  case round =>
    clear Hrow
    obtain ⟨k, y, hk, rfl, rfl, hrow⟩ := hrel
    have Hrow := Lib.hid hrow; clear hrow
    by_cases hlt : k < R.length
    · have hc := Hrow.out.c k hlt
      have hf := Hrow.out.f k hlt
      have hk0 : (0 : Int) ≤ (k : Int) := by omega
      have hkl : (k : Int) < (R.length : Int) := by omega
      obtain ⟨y2, h2⟩ := y.set ⟨g0, k, none⟩ Hg0.out (.int .i64 (k : Int))
      have Hset := Lib.hid (Hrow.out.set (f' := fun j => if j < k + 1 then (j : Int) else 0) hlt (k : Int) (by simp) (fun j _ hj => by
        by_cases hjk : j < k
        · rw [if_pos hjk, if_pos (by omega)]
        · rw [if_neg hjk, if_neg (by omega)]))
      have H2 := Lib.hid h2
      clear h2
      go_wp2_with fail
      go_roundw
      case rel => exact ⟨k + 1, y2, by omega, by go_num, H2.out, H2.out ▸ Hset.out⟩
      case measure => simp [intOf] <;> omega
    · obtain rfl : k = R.length := by omega
      have hN : Nums y.w g0 R.length (fun j => (j : Int)) := ⟨Hrow.out.lt, fun j hj => by rw [Hrow.out.c j hj, if_pos hj], Hrow.out.f⟩
      have hsort : Calls Tryd.prog 62 #[.slice (some ⟨g0, 0, none⟩) R.length R.length, .func (.func 63) #[] #[.pointer (some ⟨bx, 0, none⟩)]] y.w (SortPostT y.w g0 R) := by
        by_cases hn : R.length = 0
        · have hc := AnyF.slices_SortFunc_none { Tryd.sortInt with } (some ⟨g0, 0, none⟩) R.length (.func (.func 63) #[] #[.pointer (some ⟨bx, 0, none⟩)]) y.w
          change Calls Tryd.prog 62 _ _ _ at hc
          rw [hn] at hc ⊢
          refine hc.mono ?_
          rintro _ _ ⟨rfl, rfl⟩
          exact ⟨rfl, World.grownBy.refl _ _, [], ⟨by rw [hn]; exact .nil, List.Pairwise.nil⟩, ⟨hN.lt, fun j hj => by omega, fun j hj => by omega⟩⟩
        · refine sortT_calls y.w g0 bx R.length a c R (by omega) (by omega) hN (hb0_0 y) (HR.out.since y).c (by have := Hbx.out; have := Hg0.out; omega) (fun b hb => ?_) Hid.out
          obtain ⟨e, he⟩ : ∃ e, R[0]? = some e := ⟨_, List.getElem?_eq_getElem (by omega)⟩
          obtain ⟨b', off, ha, hlt, _⟩ := HR.out.c 0 e he
          rw [ha] at hb; cases hb
          have := Hg0.out
          show b' ≠ g0
          omega
      have Hsort := Lib.hid hsort
      clear hN hsort Hrow
      go_wp2_with fail
      refine Hsort.out.mono ?_
      rintro _ w2 ⟨rfl, hg, o, hO, hN⟩
      obtain ⟨y2, rfl⟩ := y.grown hg (fun k hk => by cases hk; exact Hg0.out)
      have HO := Lib.hid hO; have HN := Lib.hid hN
      clear hO hN hg Hsort
      have hmm := @run_makeMap Tryd.prog
      obtain ⟨i0, hi0, hz0, hsz0, hby0⟩ := info_parts (P := Tryd.prog) (e := 4) (z := .bool false) (size := 1) (bytes := 1) (by kernel_rfl)
      go_wp2_with (at_make; refine wpList_make_full _ rfl _ _ 32 rfl W.heap.size 4 i0 (.bool false) 1 Tryd.underlying32 hi0 hz0 hsz0 .i64 .i64 (R.length : Int) (R.length : Int) R.length rfl rfl rfl rfl (by rw [hby0]; omega) (by unfold maxLen; omega) y2.b.size ?_; intro w3 hown hg1)
      have hrow := own_bls hown (fun j hj => by simp [madeCells, List.getD_eq_getElem?_getD, hj]; show (#[Value.bool false] : Array Value)[j % 1]! = _; rw [Nat.mod_one]; rfl)
      have Hg10 := Lib.hid (show g0 < y2.w.heap.size from HN.out.lt)
      have hN3 : Nums w3 g0 R.length (fun j => (o.getD j 0 : Nat)) := HN.out.keep hg1.size (hg1.block g0 HN.out.lt (by simp))
      obtain ⟨y3, hy3⟩ := y2.grown hg1 (fun k hk => by cases hk)
      subst hy3
      have hm0 : MapAt eturn (y3.w.alloc (.map #[] 0)) y3.w.heap.size [] := by
        show (y3.w.heap.push _)[y3.w.heap.size]? = _
        simp [entF]
      have Hg1 := Lib.hid (show W.heap.size ≤ y2.w.heap.size from y2.b.size)
      have Hg2 := Lib.hid (show y2.w.heap.size < y3.w.heap.size from hrow.lt)
      have hst : IsSince y3.w (y3.w.alloc (.map #[] 0)) := IsSince.alloc (IsSince.self _) _
      have hrow4 := hrow.to hst
      have hN4 := hN3.to hst
      obtain ⟨y4, hy4⟩ := y3.alloc (.map #[] 0)
      rw [hy4] at hm0 hrow4 hN4 ⊢
      have Hm := Lib.hid hm0; have Hrow := Lib.hid hrow4; replace HN := Lib.hid hN4
      clear hm0 hrow hrow4 hN3 hN4 hst hy4 hown hg1 hmm hi0 hz0 hsz0 hby0
      generalize y3.w.heap.size = bm at *
      generalize y2.w.heap.size = g1 at *
      have hlo := HO.out.len
      have Hne := Lib.hid (show g0 ≠ g1 by have := Hg10.out; omega)
      have hU0 : CtAt y4.w g0 g1 bm R.length o (fun j => if j ∈ o.take 0 then ctd R each (rAt R j) else false) R each (o.take 0) :=
        ⟨HN.out, Hrow.out.congr fun j hj => by simp, [], Hm.out, fun k => by rw [List.take_zero, tkV_start R he0]; rfl⟩
      have HU0 := Lib.hid hU0
      clear HN Hrow Hm hU0
      go_wp2_with fail
      go_loopw [35] (fun s wr => ∃ (m : Nat) (y : Since W), m ≤ R.length ∧ s = .int .i64 m ∧ wr = y.w ∧ CtAt y.w g0 g1 bm R.length o (fun j => if j ∈ o.take m then ctd R each (rAt R j) else false) R each (o.take m)) (fun s _ => R.length - (intOf s).toNat)
      case atStart => exact ⟨0, y4, by omega, rfl, rfl, HU0.out⟩
      case round =>
        clear HU0
        obtain ⟨m, y, hm, rfl, rfl, hU⟩ := hrel
        have HU := Lib.hid hU
        clear hU
        by_cases hlt : m < R.length
        · obtain ⟨i, hi⟩ : ∃ i, o[m]? = some i := ⟨_, List.getElem?_eq_getElem (by omega)⟩
          have hir : i < R.length := HO.out.lt (List.mem_of_getElem? hi)
          obtain ⟨e, he⟩ : ∃ e, R[i]? = some e := ⟨_, List.getElem?_eq_getElem hir⟩
          have He := Lib.hid (rAt_eq he)
          obtain ⟨hs0, hs1⟩ := Hs0.out e (List.mem_of_getElem? he)
          have hci := HU.out.ord.c m hlt
          rw [show (o.getD m 0 : Nat) = i by rw [List.getD_eq_getElem?_getD, hi]; rfl] at hci
          have kci : ∀ q : Since y.w, q.w.cell? ⟨g0, m, none⟩ = some (.int .i64 (i : Int)) := fun q => Since.cell hci HU.out.ord.lt q
          obtain ⟨b1, off1, rfl, h1'⟩ := Els.ride HR.out.c he
          have ra0 := h1'.c0
          have ra1 := h1'.c1
          have ra2 := h1'.c2
          have ra3 := h1'.c3
          have ra4 := h1'.c4
          have ra5 := h1'.c5
          have ra6 := h1'.c6
          have ra7 := h1'.c7
          have ra8 := h1'.c8
          have ra9 := h1'.c9
          have ra10 := h1'.c10
          have ra11 := h1'.c11
          have ra12 := h1'.c12
          have hm0 : (0 : Int) ≤ (m : Int) := by omega
          have hml : (m : Int) < (R.length : Int) := by omega
          have hi0 : (0 : Int) ≤ (i : Int) := by omega
          have hil : (i : Int) < (R.length : Int) := by omega
          have Hi := Lib.hid hi
          have Hnow := Lib.hid (show ctd R each e = (!e.op && decide (tkV R each (o.take m) (key e) < each)) by
            have := ctd_now HO.out Hid.out hi each
            rwa [He.out] at this)
          have Hnx := Lib.hid (show ∀ k, tkV R each (o.take (m + 1)) k = if k = key e ∧ (!e.op && decide (tkV R each (o.take m) (key e) < each)) = true then tkV R each (o.take m) k + 1 else tkV R each (o.take m) k from fun k => by
            have := tkV_next HO.out hi each k
            rwa [He.out] at this)
          have Htn := Lib.hid (HO.out.take_next hi)
          have Hout := Lib.hid (HO.out.notin hi)
          clear h1' he hi
          go_upto_region 13 with fail
          have hx0 : (y.w.alloc (.cells #[.int .i64 e.id, .int .i64 e.rd, .int .i64 e.s0, .int .i64 e.s1, .int .i64 e.e0, .int .i64 e.e1, .bool e.op, .slice e.la e.legs.length e.lc, .slice e.pa e.pauses.length e.pc, .int .i64 e.fw, .int .i64 e.fp, .int .i64 e.wh, .int .i64 e.pl] 73)).cell? ⟨y.w.heap.size, 0, none⟩ = some (.int .i64 e.id) := by simp [go_sem]
          have hx1 : (y.w.alloc (.cells #[.int .i64 e.id, .int .i64 e.rd, .int .i64 e.s0, .int .i64 e.s1, .int .i64 e.e0, .int .i64 e.e1, .bool e.op, .slice e.la e.legs.length e.lc, .slice e.pa e.pauses.length e.pc, .int .i64 e.fw, .int .i64 e.fp, .int .i64 e.wh, .int .i64 e.pl] 73)).cell? ⟨y.w.heap.size, 1, none⟩ = some (.int .i64 e.rd) := by simp [go_sem]
          have hx2 : (y.w.alloc (.cells #[.int .i64 e.id, .int .i64 e.rd, .int .i64 e.s0, .int .i64 e.s1, .int .i64 e.e0, .int .i64 e.e1, .bool e.op, .slice e.la e.legs.length e.lc, .slice e.pa e.pauses.length e.pc, .int .i64 e.fw, .int .i64 e.fp, .int .i64 e.wh, .int .i64 e.pl] 73)).cell? ⟨y.w.heap.size, 2, none⟩ = some (.int .i64 e.s0) := by simp [go_sem]
          have hx3 : (y.w.alloc (.cells #[.int .i64 e.id, .int .i64 e.rd, .int .i64 e.s0, .int .i64 e.s1, .int .i64 e.e0, .int .i64 e.e1, .bool e.op, .slice e.la e.legs.length e.lc, .slice e.pa e.pauses.length e.pc, .int .i64 e.fw, .int .i64 e.fp, .int .i64 e.wh, .int .i64 e.pl] 73)).cell? ⟨y.w.heap.size, 3, none⟩ = some (.int .i64 e.s1) := by simp [go_sem]
          have hx4 : (y.w.alloc (.cells #[.int .i64 e.id, .int .i64 e.rd, .int .i64 e.s0, .int .i64 e.s1, .int .i64 e.e0, .int .i64 e.e1, .bool e.op, .slice e.la e.legs.length e.lc, .slice e.pa e.pauses.length e.pc, .int .i64 e.fw, .int .i64 e.fp, .int .i64 e.wh, .int .i64 e.pl] 73)).cell? ⟨y.w.heap.size, 4, none⟩ = some (.int .i64 e.e0) := by simp [go_sem]
          have hx5 : (y.w.alloc (.cells #[.int .i64 e.id, .int .i64 e.rd, .int .i64 e.s0, .int .i64 e.s1, .int .i64 e.e0, .int .i64 e.e1, .bool e.op, .slice e.la e.legs.length e.lc, .slice e.pa e.pauses.length e.pc, .int .i64 e.fw, .int .i64 e.fp, .int .i64 e.wh, .int .i64 e.pl] 73)).cell? ⟨y.w.heap.size, 5, none⟩ = some (.int .i64 e.e1) := by simp [go_sem]
          have hx6 : (y.w.alloc (.cells #[.int .i64 e.id, .int .i64 e.rd, .int .i64 e.s0, .int .i64 e.s1, .int .i64 e.e0, .int .i64 e.e1, .bool e.op, .slice e.la e.legs.length e.lc, .slice e.pa e.pauses.length e.pc, .int .i64 e.fw, .int .i64 e.fp, .int .i64 e.wh, .int .i64 e.pl] 73)).cell? ⟨y.w.heap.size, 6, none⟩ = some (.bool e.op) := by simp [go_sem]
          have hx7 : (y.w.alloc (.cells #[.int .i64 e.id, .int .i64 e.rd, .int .i64 e.s0, .int .i64 e.s1, .int .i64 e.e0, .int .i64 e.e1, .bool e.op, .slice e.la e.legs.length e.lc, .slice e.pa e.pauses.length e.pc, .int .i64 e.fw, .int .i64 e.fp, .int .i64 e.wh, .int .i64 e.pl] 73)).cell? ⟨y.w.heap.size, 7, none⟩ = some (.slice e.la e.legs.length e.lc) := by simp [go_sem]
          have hx8 : (y.w.alloc (.cells #[.int .i64 e.id, .int .i64 e.rd, .int .i64 e.s0, .int .i64 e.s1, .int .i64 e.e0, .int .i64 e.e1, .bool e.op, .slice e.la e.legs.length e.lc, .slice e.pa e.pauses.length e.pc, .int .i64 e.fw, .int .i64 e.fp, .int .i64 e.wh, .int .i64 e.pl] 73)).cell? ⟨y.w.heap.size, 8, none⟩ = some (.slice e.pa e.pauses.length e.pc) := by simp [go_sem]
          have hx9 : (y.w.alloc (.cells #[.int .i64 e.id, .int .i64 e.rd, .int .i64 e.s0, .int .i64 e.s1, .int .i64 e.e0, .int .i64 e.e1, .bool e.op, .slice e.la e.legs.length e.lc, .slice e.pa e.pauses.length e.pc, .int .i64 e.fw, .int .i64 e.fp, .int .i64 e.wh, .int .i64 e.pl] 73)).cell? ⟨y.w.heap.size, 9, none⟩ = some (.int .i64 e.fw) := by simp [go_sem]
          have hx10 : (y.w.alloc (.cells #[.int .i64 e.id, .int .i64 e.rd, .int .i64 e.s0, .int .i64 e.s1, .int .i64 e.e0, .int .i64 e.e1, .bool e.op, .slice e.la e.legs.length e.lc, .slice e.pa e.pauses.length e.pc, .int .i64 e.fw, .int .i64 e.fp, .int .i64 e.wh, .int .i64 e.pl] 73)).cell? ⟨y.w.heap.size, 10, none⟩ = some (.int .i64 e.fp) := by simp [go_sem]
          have hx11 : (y.w.alloc (.cells #[.int .i64 e.id, .int .i64 e.rd, .int .i64 e.s0, .int .i64 e.s1, .int .i64 e.e0, .int .i64 e.e1, .bool e.op, .slice e.la e.legs.length e.lc, .slice e.pa e.pauses.length e.pc, .int .i64 e.fw, .int .i64 e.fp, .int .i64 e.wh, .int .i64 e.pl] 73)).cell? ⟨y.w.heap.size, 11, none⟩ = some (.int .i64 e.wh) := by simp [go_sem]
          have hx12 : (y.w.alloc (.cells #[.int .i64 e.id, .int .i64 e.rd, .int .i64 e.s0, .int .i64 e.s1, .int .i64 e.e0, .int .i64 e.e1, .bool e.op, .slice e.la e.legs.length e.lc, .slice e.pa e.pauses.length e.pc, .int .i64 e.fw, .int .i64 e.fp, .int .i64 e.wh, .int .i64 e.pl] 73)).cell? ⟨y.w.heap.size, 12, none⟩ = some (.int .i64 e.pl) := by simp [go_sem]
          have hxf : ∀ o, (y.w.alloc (.cells #[.int .i64 e.id, .int .i64 e.rd, .int .i64 e.s0, .int .i64 e.s1, .int .i64 e.e0, .int .i64 e.e1, .bool e.op, .slice e.la e.legs.length e.lc, .slice e.pa e.pauses.length e.pc, .int .i64 e.fw, .int .i64 e.fp, .int .i64 e.wh, .int .i64 e.pl] 73)).frozen? ⟨y.w.heap.size, o, none⟩ = false := fun o => by simp [go_sem]
          have hlt0 : y.w.heap.size < (y.w.alloc (.cells #[.int .i64 e.id, .int .i64 e.rd, .int .i64 e.s0, .int .i64 e.s1, .int .i64 e.e0, .int .i64 e.e1, .bool e.op, .slice e.la e.legs.length e.lc, .slice e.pa e.pauses.length e.pc, .int .i64 e.fw, .int .i64 e.fp, .int .i64 e.wh, .int .i64 e.pl] 73)).heap.size := by simp
          have hst0 : ∃ zz : Since y.w, (y.w.alloc (.cells #[.int .i64 e.id, .int .i64 e.rd, .int .i64 e.s0, .int .i64 e.s1, .int .i64 e.e0, .int .i64 e.e1, .bool e.op, .slice e.la e.legs.length e.lc, .slice e.pa e.pauses.length e.pc, .int .i64 e.fw, .int .i64 e.fp, .int .i64 e.wh, .int .i64 e.pl] 73)) = zz.w := IsSince.alloc (IsSince.self _) _
          have hsz0 := y.b.size
          obtain ⟨y5, e2⟩ := IsSince.alloc (IsSince.of y) (.cells #[.int .i64 e.id, .int .i64 e.rd, .int .i64 e.s0, .int .i64 e.s1, .int .i64 e.e0, .int .i64 e.e1, .bool e.op, .slice e.la e.legs.length e.lc, .slice e.pa e.pauses.length e.pc, .int .i64 e.fw, .int .i64 e.fp, .int .i64 e.wh, .int .i64 e.pl] 73)
          rw [e2] at hx0 hx1 hx2 hx3 hx4 hx5 hx6 hx7 hx8 hx9 hx10 hx11 hx12 hxf hlt0 hst0 ⊢
          (replace HU := Lib.hid (HU.out.to hst0))
          clear e2 hst0
          generalize y.w.heap.size = gr at *
          have Hhx0 : ∀ q : Since y5.w, q.w.cell? ⟨gr, 0, none⟩ = some (.int .i64 e.id) := fun q => Since.cell hx0 (by omega) q
          have Hhx1 : ∀ q : Since y5.w, q.w.cell? ⟨gr, 1, none⟩ = some (.int .i64 e.rd) := fun q => Since.cell hx1 (by omega) q
          have Hhx2 : ∀ q : Since y5.w, q.w.cell? ⟨gr, 2, none⟩ = some (.int .i64 e.s0) := fun q => Since.cell hx2 (by omega) q
          have Hhx3 : ∀ q : Since y5.w, q.w.cell? ⟨gr, 3, none⟩ = some (.int .i64 e.s1) := fun q => Since.cell hx3 (by omega) q
          have Hhx4 : ∀ q : Since y5.w, q.w.cell? ⟨gr, 4, none⟩ = some (.int .i64 e.e0) := fun q => Since.cell hx4 (by omega) q
          have Hhx5 : ∀ q : Since y5.w, q.w.cell? ⟨gr, 5, none⟩ = some (.int .i64 e.e1) := fun q => Since.cell hx5 (by omega) q
          have Hhx6 : ∀ q : Since y5.w, q.w.cell? ⟨gr, 6, none⟩ = some (.bool e.op) := fun q => Since.cell hx6 (by omega) q
          have Hhx7 : ∀ q : Since y5.w, q.w.cell? ⟨gr, 7, none⟩ = some (.slice e.la e.legs.length e.lc) := fun q => Since.cell hx7 (by omega) q
          have Hhx8 : ∀ q : Since y5.w, q.w.cell? ⟨gr, 8, none⟩ = some (.slice e.pa e.pauses.length e.pc) := fun q => Since.cell hx8 (by omega) q
          have Hhx9 : ∀ q : Since y5.w, q.w.cell? ⟨gr, 9, none⟩ = some (.int .i64 e.fw) := fun q => Since.cell hx9 (by omega) q
          have Hhx10 : ∀ q : Since y5.w, q.w.cell? ⟨gr, 10, none⟩ = some (.int .i64 e.fp) := fun q => Since.cell hx10 (by omega) q
          have Hhx11 : ∀ q : Since y5.w, q.w.cell? ⟨gr, 11, none⟩ = some (.int .i64 e.wh) := fun q => Since.cell hx11 (by omega) q
          have Hhx12 : ∀ q : Since y5.w, q.w.cell? ⟨gr, 12, none⟩ = some (.int .i64 e.pl) := fun q => Since.cell hx12 (by omega) q
          have Hhxf : ∀ (q : Since y5.w) (o : Nat), q.w.frozen? ⟨gr, o, none⟩ = false := fun q o => Since.free (hxf o) (by omega) q
          have Hhxg := Lib.hid (And.intro hsz0 hlt0)
          clear hlt0 hsz0
          clear hx0 hx1 hx2 hx3 hx4 hx5 hx6 hx7 hx8 hx9 hx10 hx11 hx12 hxf kci hci ra0 ra1 ra2 ra3 ra4 ra5 ra6 ra7 ra8 ra9 ra10 ra11 ra12
          obtain ⟨q5, hq0⟩ := Since.refl y5.w
          rw [hq0]
          clear hq0
          go_upto_region 14 with fail
          have Hg15 := Lib.hid (show g1 < y5.w.heap.size from HU.out.out.lt)
          have ht0 : (q5.w.alloc (.cells #[.int .i64 e.rd, .int .i64 (e.s0 / 86400)] 109)).cell? ⟨q5.w.heap.size, 0, none⟩ = some (.int .i64 e.rd) := by simp [go_sem]
          have ht1 : (q5.w.alloc (.cells #[.int .i64 e.rd, .int .i64 (e.s0 / 86400)] 109)).cell? ⟨q5.w.heap.size, 1, none⟩ = some (.int .i64 (e.s0 / 86400)) := by simp [go_sem]
          have htf : ∀ o, (q5.w.alloc (.cells #[.int .i64 e.rd, .int .i64 (e.s0 / 86400)] 109)).frozen? ⟨q5.w.heap.size, o, none⟩ = false := fun o => by simp [go_sem]
          have hlt0 : q5.w.heap.size < (q5.w.alloc (.cells #[.int .i64 e.rd, .int .i64 (e.s0 / 86400)] 109)).heap.size := by simp
          have hst0 : ∃ zz : Since q5.w, (q5.w.alloc (.cells #[.int .i64 e.rd, .int .i64 (e.s0 / 86400)] 109)) = zz.w := IsSince.alloc (IsSince.self _) _
          have hsz0 := q5.b.size
          obtain ⟨z10, e2⟩ := IsSince.alloc (IsSince.of q5) (.cells #[.int .i64 e.rd, .int .i64 (e.s0 / 86400)] 109)
          rw [e2] at ht0 ht1 htf hlt0 hst0 ⊢
          (replace HU := Lib.hid ((HU.out.to ⟨q5, rfl⟩).to hst0))
          clear e2 hst0
          generalize q5.w.heap.size = gt at *
          have Hht0 : ∀ q : Since z10.w, q.w.cell? ⟨gt, 0, none⟩ = some (.int .i64 e.rd) := fun q => Since.cell ht0 (by omega) q
          have Hht1 : ∀ q : Since z10.w, q.w.cell? ⟨gt, 1, none⟩ = some (.int .i64 (e.s0 / 86400)) := fun q => Since.cell ht1 (by omega) q
          have Hhtf : ∀ (q : Since z10.w) (o : Nat), q.w.frozen? ⟨gt, o, none⟩ = false := fun q o => Since.free (htf o) (by omega) q
          have Hhtg := Lib.hid (And.intro hsz0 hlt0)
          clear hlt0 hsz0
          replace Hhx6 := Since.cellTo (⟨z10, rfl⟩ : ∃ zz : Since y5.w, z10.w = zz.w) Hhx6
          obtain ⟨y10, h10⟩ := y5.trans z10
          have H10 := Lib.hid h10
          clear h10
          obtain ⟨L, hL, hLv⟩ := HU.out.tk
          have hlk : ∀ q : Since z10.w, (Instr.lookup 108 (.map (some bm)) (.agg #[.int .i64 e.rd, .int .i64 (e.s0 / 86400)]) false).run Tryd.prog q.w = .ok (.int .i64 (tkV R each (o.take m) (key e))) q.w := fun q => by
            have h1 := run_look keyArr (hL.to' ⟨q, rfl⟩) Tryd.underlying108 (zeroInt _) (e.rd, e.s0 / 86400) false
            simp only [Bool.false_eq_true, if_false] at h1
            rw [hLv (e.rd, e.s0 / 86400)] at h1
            exact h1
          clear hL hLv
          obtain ⟨tv, htv⟩ : ∃ tv, tv = tkV R each (o.take m) (key e) := ⟨_, rfl⟩
          rw [← htv] at Hnow Hnx
          simp only [← htv] at hlk
          have Htv := Lib.hid htv
          clear htv
          have hnot : (ctd R each e = false) → CtAt z10.w g0 g1 bm R.length o (fun j => if j ∈ o.take (m + 1) then ctd R each (rAt R j) else false) R each (o.take (m + 1)) := fun hf => by
            refine ⟨HU.out.ord, HU.out.out.congr fun j hj => ?_, ?_⟩
            · rw [Htn.out]
              by_cases hji : j = i
              · subst hji
                rw [if_neg Hout.out, if_pos (by simp), He.out, hf]
              · simp [hji]
            · obtain ⟨L, h1, h2⟩ := HU.out.tk
              refine ⟨L, h1, fun k => ?_⟩
              rw [h2, Hnx.out, if_neg (fun hh => by rw [← Hnow.out, hf] at hh; simp at hh)]
          have Hnot := Lib.hid hnot
          clear hnot
          obtain ⟨q10, hq0⟩ := Since.refl z10.w
          rw [hq0]
          clear hq0
          cases hop : e.op
          case true =>
            rw [hop] at Hhx6 Hnow
            have HU2 := Lib.hid (Hnot.out (by rw [Hnow.out]; rfl))
            clear hop Hnot Hnow Hnx hlk HU
            go_wp2_with fail
            have HU3 := Lib.hid (HU2.out.to ⟨q10, rfl⟩)
            obtain ⟨y12, h12⟩ : ∃ y : Since W, q10.w = y.w := by obtain ⟨z, hz⟩ := y5.trans z10; obtain ⟨v, hv⟩ := z10.trans q10; rw [hv]; exact y5.trans v
            rw [h12] at HU3 ⊢
            go_roundw
            case rel => exact ⟨m + 1, y12, by omega, by go_num, rfl, HU3.out⟩
            case measure => simp [intOf] <;> omega
          case false =>
            rw [hop] at Hhx6 Hnow Hnx
            by_cases hlt2 : tv < each
            case neg =>
              have hb : decide (tv < each) = false := decide_eq_false hlt2
              have HU2 := Lib.hid (Hnot.out (by rw [Hnow.out, hb]; rfl))
              clear hop Hnot Hnow Hnx HU
              go_wp2_with fail
              have HU3 := Lib.hid (HU2.out.to ⟨q10, rfl⟩)
              obtain ⟨y12, h12⟩ : ∃ y : Since W, q10.w = y.w := by obtain ⟨z, hz⟩ := y5.trans z10; obtain ⟨v, hv⟩ := z10.trans q10; rw [hv]; exact y5.trans v
              rw [h12] at HU3 ⊢
              go_roundw
              case rel => exact ⟨m + 1, y12, by omega, by go_num, rfl, HU3.out⟩
              case measure => simp [intOf] <;> omega
            case pos =>
              have hb : decide (tv < each) = true := decide_eq_true hlt2
              rw [hb] at Hnow Hnx
              have hc1 := HU.out.out.c i hir
              rw [if_neg Hout.out] at hc1
              have hf1 := HU.out.out.f i hir
              have kc1 : ∀ q : Since z10.w, q.w.cell? ⟨g1, i, none⟩ = some (.bool false) := fun q => Since.cell hc1 HU.out.out.lt q
              have kf1 : ∀ q : Since z10.w, q.w.frozen? ⟨g1, i, none⟩ = false := fun q => Since.free hf1 HU.out.out.lt q
              clear hop hc1 hf1 Hnot
              go_upto_region 16 with fail
              have Hgg := Lib.hid (show gt ≠ g1 by have := Hg15.out; have := Hhtg.out.1; omega)
              have hset := (HU.out.to ⟨q10, rfl⟩).set (f' := fun j => if j ∈ o.take (m + 1) then ctd R each (rAt R j) else false) hir Hne.out true (by rw [Htn.out, if_pos (by simp), He.out, Hnow.out]; rfl) (fun j _ hj => by rw [Htn.out]; simp [hj])
              have hg0 : (q10.w.setCell ⟨g1, i, none⟩ (.bool true)).cell? ⟨gt, 0, none⟩ = some (.int .i64 e.rd) := by
                rw [World.cell?_of_block (w := q10.w) (a := ⟨gt, 0, none⟩) (Below.heap_setCell q10.w ⟨g1, i, none⟩ (.bool true) gt Hgg.out)]
                exact Hht0 q10
              have hg1 : (q10.w.setCell ⟨g1, i, none⟩ (.bool true)).cell? ⟨gt, 1, none⟩ = some (.int .i64 (e.s0 / 86400)) := by
                rw [World.cell?_of_block (w := q10.w) (a := ⟨gt, 1, none⟩) (Below.heap_setCell q10.w ⟨g1, i, none⟩ (.bool true) gt Hgg.out)]
                exact Hht1 q10
              obtain ⟨yq, hyq⟩ : ∃ y : Since W, q10.w = y.w := by obtain ⟨z, hz⟩ := y5.trans z10; obtain ⟨v, hv⟩ := z10.trans q10; rw [hv]; exact y5.trans v
              obtain ⟨y11, h11⟩ := yq.set ⟨g1, i, none⟩ Hg1.out (.bool true)
              rw [← hyq] at h11
              rw [h11] at hset hg0 hg1 ⊢
              clear hyq h11 kc1 kf1 hlk
              obtain ⟨L, hL, hLv⟩ := hset.tk
              have hLd : MapAt eturn y11.w.drew bm L := hL
              obtain ⟨w1, w2, iE, hE, hK, hS, hM, hG⟩ := bump_run hLd e.rd (e.s0 / 86400) tv (by rw [hLv (e.rd, e.s0 / 86400), Htv.out]; rfl)
              have HM := Lib.hid (And.intro hM hG)
              have HLv := Lib.hid hLv
              have Hset := Lib.hid hset
              have hg0d : y11.w.drew.cell? ⟨gt, 0, none⟩ = some (.int .i64 e.rd) := hg0
              have hg1d : y11.w.drew.cell? ⟨gt, 1, none⟩ = some (.int .i64 (e.s0 / 86400)) := hg1
              have hlkd : (Instr.lookup 108 (.map (some bm)) (.agg #[.int .i64 e.rd, .int .i64 (e.s0 / 86400)]) false).run Tryd.prog y11.w.drew = .ok (.int .i64 tv) y11.w.drew := by
                have h1 := run_look keyArr hLd Tryd.underlying108 (zeroInt _) (e.rd, e.s0 / 86400) false
                simp only [Bool.false_eq_true, if_false] at h1
                rw [hLv (e.rd, e.s0 / 86400), show tkV R each (o.take m) (e.rd, e.s0 / 86400) = tv from Htv.out.symm] at h1
                exact h1
              clear hL hLv hLd hM hG hset hg0 hg1
              have hb0 : 0 ≤ tv := by rw [Htv.out]; unfold tkV; omega
              have hb1 : tv ≤ 256 := by omega
              obtain ⟨y11d, h11d⟩ := y11.drew
              have HG2 := Lib.hid (show y11d.w.grownBy w2 (some bm) by rw [← h11d]; exact HM.out.2)
              obtain ⟨y12, h12⟩ := y11d.grown HG2.out (fun j hj => by cases hj; have := Hg1.out; have := Hg2.out; omega)
              have HU12 := Lib.hid (CtAt.bump (V := y11.w.drew) (l' := o.take (m + 1)) (show CtAt y11.w.drew g0 g1 bm R.length o _ R each (o.take m) from ⟨⟨Hset.out.ord.lt, Hset.out.ord.c, Hset.out.ord.f⟩, ⟨Hset.out.out.lt, Hset.out.out.c, Hset.out.out.f⟩, Hset.out.tk⟩) (by omega) HM.out.1 HM.out.2 HLv.out (fun k' => by
                rw [Hnx.out]
                by_cases hk : k' = key e
                · subst hk
                  rw [if_pos ⟨rfl, rfl⟩, ← Htv.out]
                  exact (if_pos rfl).symm
                · rw [if_neg (fun hh => hk hh.1)]
                  exact (if_neg hk).symm))
              subst h12
              clear Hset HLv HM HG2 Hnx Hnow HU h11d
              go_region
              go_wp2_with fail
              go_roundw
              case rel => exact ⟨m + 1, y12, by omega, by go_num, rfl, HU12.out⟩
              case measure => simp [intOf] <;> omega
        · obtain rfl : m = R.length := by omega
          have HF := Lib.hid (show Bls y.w g1 R.length (fun j => ctd R each (rAt R j)) from HU.out.out.congr fun j hj => by
            rw [if_pos (by rw [List.take_of_length_le (by omega)]; exact HO.out.perm.mem_iff.2 (List.mem_range.2 hj))])
          go_wp2_with fail
          go_ret
          obtain ⟨yy, hyy⟩ := Hup.out y
          exact ⟨g1, yy, rfl, hyy, by have := Hg1.out; have := Hbx.out; omega, hyy ▸ HF.out⟩
end Go.Proofs.YtdkcclngionihaaDoor
