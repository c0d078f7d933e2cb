/- The frame of the laws of windows: opening what comes in. -/
import Derived.Test.YtnkmngkinjjbfaaDoorFrameE
import Derived.Test.YtnkmngkinjjbfaaDoorFrame2
import Derived.Test.YtnkmngkinjjbfaaDoorClSpec
import Derived.Test.YtnkmngkinjjbfaaDoorProg
set_option linter.all false
namespace Go.Proofs.YtnkmngkinjjbfaaDoor
open Go.ChangeShapes Go.WideShapes Go.ChangeAt Go.RowKit

theorem own : ownKnob Tryd.prog.godebug = none := by kernel_rfl
theorem laidOut : laidOutB Tryd.prog = true := by kernel_rfl
theorem cInt : Tryd.prog.cellsOf 3 = 1 := by kernel_rfl
theorem cWin : Tryd.prog.cellsOf 30 = 2 := by kernel_rfl
noncomputable def winFields : Array Field := Tryd.prog.fieldsOf 30
theorem uWin : Tryd.prog.underlying 30 = some (.struct winFields) := by kernel_rfl
theorem winFields_size : winFields.size = 2 := by kernel_rfl
theorem winFields_all : (winFields.toList.map fun f => (f.offset, f.type)) = (List.range 2).map fun i => (i, 3) := by kernel_rfl
theorem winFields_at (i : Nat) (h : i < 2) : (winFields[i]?).map (fun f => (f.offset, f.type)) = some (i, 3) := by
  have h1 := congrArg (fun l => l[i]?) winFields_all
  simp only [List.getElem?_map, Array.getElem?_toList] at h1
  rw [h1, List.getElem?_range h]
  rfl
theorem winFields_int : IntFields Tryd.prog winFields := by
  intro i f h
  have hi : i < 2 := by
    rw [← winFields_size]
    exact (Array.getElem?_eq_some_iff.1 h).1
  have := winFields_at i hi
  rw [h] at this
  have h2 := Option.some.inj this
  have h3 : f.offset = i := congrArg Prod.fst h2
  have h4 : f.type = 3 := congrArg Prod.snd h2
  exact ⟨h3, by rw [h4]; exact cInt, by rw [h4]; exact Tryd.underlying3⟩
set_option maxRecDepth 20000 in
theorem open_win {H : Type} {enc : TypeId × Value → H} {w : World} {b0 : Nat} {r : Reach} {held : Bool} {v : Value} {d : DataW H} {p : List MemPlace} (hv : Value.okWide Tryd.prog w r b0 30 v) (h : DataW.Trod enc Tryd.prog w 0 (fun _ => true) held 30 v d p) :
    ∃ e : Win, v = .agg #[.int .i64 e.f, .int .i64 e.t] := by
  obtain ⟨cs, rfl, hsz⟩ := okWide_struct uWin hv
  obtain ⟨l⟩ := cs
  obtain ⟨fuel, hf⟩ := h
  obtain ⟨ns, hns, hlen, _⟩ := trod_ints uWin winFields_int (cWin.trans winFields_size.symm) hf
  rw [winFields_size] at hlen
  have hl : l = ns.map (Value.int .i64) := by simpa [Value.cells] using hns
  subst hl
  match ns, hlen with
  | [a, b], _ => exact ⟨⟨a, b⟩, rfl⟩
def winOf (ns : List Int) : Win := ⟨at0 ns 0, at0 ns 1⟩
theorem winOf_cs (ns : List Int) (h : ns.length = winFields.size) : (winOf ns).cs = ns.map (Value.int .i64) := by
  rw [winFields_size] at h
  match ns, h with
  | [a, b], _ => rfl
set_option maxRecDepth 20000 in
theorem open_wins {H : Type} {enc : TypeId × Value → H} {w : World} {b0 : Nat} {r : Reach} {held : Bool} {v : Value} {d : DataW H} {p : List MemPlace} (hv : Value.okWide Tryd.prog w r b0 35 v) (h : DataW.Trod enc Tryd.prog w 0 (fun _ => true) held 35 v d p) :
    ∃ (a : Option Addr) (l : List Win) (cap : Nat), v = .slice a l.length cap ∧ l.length ≤ cap ∧ cap ≤ 9223372036854775807 ∧ (a = none → cap = 0) ∧ WinRow w a l := by
  obtain ⟨a, l, cap, h1, h2, h3, h4, h5, _⟩ := open_els (encA := Win.cs) (dec := winOf) Tryd.underlying35 uWin winFields_int (cWin.trans winFields_size.symm) (by rw [winFields_size]; decide) winOf_cs hv h
  rw [winFields_size] at h5
  exact ⟨a, l, cap, h1, h2, h3, h4, h5⟩
end Go.Proofs.YtnkmngkinjjbfaaDoor
