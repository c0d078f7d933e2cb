/- The cells of legs, pauses and rides that lie in lists in memory: no program in sight. -/
import Derived.Test.YtnkmngkinjjbfaaDoorRdSpec
set_option linter.all false
namespace Go.Proofs.YtnkmngkinjjbfaaDoor
open Go.RowKit

structure LegCells (w : World) (b o : Nat) (e : Leg) : Prop where
  c0 : ∀ y : Since w, y.w.cell? ⟨b, o, none⟩ = some (.int .i64 e.b)
  c1 : ∀ y : Since w, y.w.cell? ⟨b, o + 1, none⟩ = some (.int .i64 e.f0)
  c2 : ∀ y : Since w, y.w.cell? ⟨b, o + 2, none⟩ = some (.int .i64 e.f1)
  c3 : ∀ y : Since w, y.w.cell? ⟨b, o + 3, none⟩ = some (.int .i64 e.t0)
  c4 : ∀ y : Since w, y.w.cell? ⟨b, o + 4, none⟩ = some (.int .i64 e.t1)
theorem Els.leg {w : World} {a : Option Addr} {l : List Leg} (h : Els Leg.cs 5 w a l) {k : Nat} {x : Leg} (hk : l[k]? = some x) : ∃ b off, a = some ⟨b, off, none⟩ ∧ LegCells w b (off + k * 5) x := by
  obtain ⟨b, off, ha, hb, hc⟩ := h k x hk
  refine ⟨b, off, ha, ?_⟩
  have hh : ∀ j v, x.cs[j]? = some v → ∀ y : Since w, y.w.cell? ⟨b, off + k * 5 + j, none⟩ = some v := fun j v hv => Since.cell (hc j v hv) hb
  exact ⟨hh 0 _ rfl, hh 1 _ rfl, hh 2 _ rfl, hh 3 _ rfl, hh 4 _ rfl⟩

structure PseCells (w : World) (b o : Nat) (e : Pse) : Prop where
  c0 : ∀ y : Since w, y.w.cell? ⟨b, o, none⟩ = some (.int .i64 e.f0)
  c1 : ∀ y : Since w, y.w.cell? ⟨b, o + 1, none⟩ = some (.int .i64 e.f1)
  c2 : ∀ y : Since w, y.w.cell? ⟨b, o + 2, none⟩ = some (.int .i64 e.t0)
  c3 : ∀ y : Since w, y.w.cell? ⟨b, o + 3, none⟩ = some (.int .i64 e.t1)
theorem Els.pse {w : World} {a : Option Addr} {l : List Pse} (h : Els Pse.cs 4 w a l) {k : Nat} {x : Pse} (hk : l[k]? = some x) : ∃ b off, a = some ⟨b, off, none⟩ ∧ PseCells w b (off + k * 4) x := by
  obtain ⟨b, off, ha, hb, hc⟩ := h k x hk
  refine ⟨b, off, ha, ?_⟩
  have hh : ∀ j v, x.cs[j]? = some v → ∀ y : Since w, y.w.cell? ⟨b, off + k * 4 + j, none⟩ = some v := fun j v hv => Since.cell (hc j v hv) hb
  exact ⟨hh 0 _ rfl, hh 1 _ rfl, hh 2 _ rfl, hh 3 _ rfl⟩

structure RideCells (w : World) (b o : Nat) (e : Ride) : Prop where
  c0 : ∀ y : Since w, y.w.cell? ⟨b, o, none⟩ = some (.int .i64 e.id)
  c1 : ∀ y : Since w, y.w.cell? ⟨b, o + 1, none⟩ = some (.int .i64 e.rd)
  c2 : ∀ y : Since w, y.w.cell? ⟨b, o + 2, none⟩ = some (.int .i64 e.s0)
  c3 : ∀ y : Since w, y.w.cell? ⟨b, o + 3, none⟩ = some (.int .i64 e.s1)
  c4 : ∀ y : Since w, y.w.cell? ⟨b, o + 4, none⟩ = some (.int .i64 e.e0)
  c5 : ∀ y : Since w, y.w.cell? ⟨b, o + 5, none⟩ = some (.int .i64 e.e1)
  c6 : ∀ y : Since w, y.w.cell? ⟨b, o + 6, none⟩ = some (.bool e.op)
  c7 : ∀ y : Since w, y.w.cell? ⟨b, o + 7, none⟩ = some (.slice e.la e.legs.length e.lc)
  c8 : ∀ y : Since w, y.w.cell? ⟨b, o + 8, none⟩ = some (.slice e.pa e.pauses.length e.pc)
  c9 : ∀ y : Since w, y.w.cell? ⟨b, o + 9, none⟩ = some (.int .i64 e.fw)
  c10 : ∀ y : Since w, y.w.cell? ⟨b, o + 10, none⟩ = some (.int .i64 e.fp)
  c11 : ∀ y : Since w, y.w.cell? ⟨b, o + 11, none⟩ = some (.int .i64 e.wh)
  c12 : ∀ y : Since w, y.w.cell? ⟨b, o + 12, none⟩ = some (.int .i64 e.pl)
theorem Els.ride {w : World} {a : Option Addr} {l : List Ride} (h : Els Ride.cs 13 w a l) {k : Nat} {x : Ride} (hk : l[k]? = some x) : ∃ b off, a = some ⟨b, off, none⟩ ∧ RideCells w b (off + k * 13) x := by
  obtain ⟨b, off, ha, hb, hc⟩ := h k x hk
  refine ⟨b, off, ha, ?_⟩
  have hh : ∀ j v, x.cs[j]? = some v → ∀ y : Since w, y.w.cell? ⟨b, off + k * 13 + j, none⟩ = some v := fun j v hv => Since.cell (hc j v hv) hb
  exact ⟨hh 0 _ rfl, hh 1 _ rfl, hh 2 _ rfl, hh 3 _ rfl, hh 4 _ rfl, hh 5 _ rfl, hh 6 _ rfl, hh 7 _ rfl, hh 8 _ rfl, hh 9 _ rfl, hh 10 _ rfl, hh 11 _ rfl, hh 12 _ rfl⟩

theorem all_no {α : Type} {p : α → Bool} {l : List α} {k : Nat} {e : α} (h : l[k]? = some e) (hp : p e = false) : l.all p = false := by
  cases ha : l.all p
  · rfl
  · have := List.all_eq_true.1 ha e (List.mem_of_getElem? h); rw [hp] at this; cases this
theorem all_yes {α : Type} {p : α → Bool} {l : List α} (h : ∀ j, j < l.length → ∀ e, l[j]? = some e → p e = true) : l.all p = true := by
  refine List.all_eq_true.2 fun e he => ?_
  obtain ⟨j, hj⟩ := List.mem_iff_getElem?.1 he
  exact h j (List.getElem?_eq_some_iff.1 hj).1 e hj
theorem upto_next {α : Type} {P : α → Prop} {l : List α} {k : Nat} {e : α} (h : ∀ j, j < k → ∀ e, l[j]? = some e → P e) (he : l[k]? = some e) (hp : P e) : ∀ j, j < k + 1 → ∀ e, l[j]? = some e → P e := by
  intro j hj e' he'
  by_cases hjk : j < k
  · exact h j hjk e' he'
  · obtain rfl : j = k := by omega
    rw [he] at he'; cases he'; exact hp
end Go.Proofs.YtnkmngkinjjbfaaDoor
