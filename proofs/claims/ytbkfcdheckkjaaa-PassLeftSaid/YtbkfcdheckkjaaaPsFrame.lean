/- The frame of the laws of passes: opening passes. -/
import Derived.Test.YtbkfcdheckkjaaaRdFrame
import Derived.Test.YtbkfcdheckkjaaaPsSpec
set_option linter.all false
namespace Go.Proofs.Ytbkfcdheckkjaaa
open Go.ChangeShapes Go.WideShapes Go.ChangeAt Go.RowKit

theorem cWin : Try.prog.cellsOf 47 = 2 := by kernel_rfl
theorem cPass : Try.prog.cellsOf 49 = 6 := by kernel_rfl
noncomputable def winF : Array Field := Try.prog.fieldsOf 47
theorem uWin : Try.prog.underlying 47 = some (.struct winF) := by kernel_rfl
theorem winL : (winF.toList.map fun f => (f.offset, f.type)) = [(0, 3), (1, 3)] := by kernel_rfl
noncomputable def passF : Array Field := Try.prog.fieldsOf 49
theorem uPass : Try.prog.underlying 49 = some (.struct passF) := by kernel_rfl
theorem passFL : (passF.toList.map fun f => (f.offset, f.type)) = [(0, 3), (1, 3), (2, 47), (4, 3), (5, 3)] := by kernel_rfl
section
variable {H : Type} {enc : TypeId × Value → H} {w : World} {base fuel : Nat} {spare : Nat → Bool} {held : Bool} {cs : List Value} {y : DataW H × List MemPlace}
theorem win1 {c d : Value} (h : DataW.trod enc Try.prog w base spare held fuel 47 [c, d] = some y) : ∃ m n : Int, c = .int .i64 m ∧ d = .int .i64 n ∧ I64 m ∧ I64 n := by
  obtain ⟨_, hf⟩ := trod_fields uWin winL h
  obtain ⟨_, _, h0⟩ := hf 0 _ rfl
  obtain ⟨_, _, h1⟩ := hf 1 _ rfl
  simp only [cInt] at h0 h1
  obtain ⟨m, rfl, hm⟩ := int1 h0
  obtain ⟨n, rfl, hn⟩ := int1 h1
  exact ⟨m, n, rfl, rfl, hm, hn⟩
set_option maxRecDepth 20000 in
theorem pass1 (h : DataW.trod enc Try.prog w base spare held fuel 49 cs = some y) : ∃ x : Pass, cs = x.cs ∧ True := by
  obtain ⟨hl, hf⟩ := trod_fields uPass passFL h
  rw [cPass] at hl
  match cs, hl with
  | [c0, c1, c2, c3, c4, c5], _ =>
    obtain ⟨_, _, h0⟩ := hf 0 _ rfl
    obtain ⟨_, _, h1⟩ := hf 1 _ rfl
    obtain ⟨_, _, h2⟩ := hf 2 _ rfl
    obtain ⟨_, _, h3⟩ := hf 3 _ rfl
    obtain ⟨_, _, h4⟩ := hf 4 _ rfl
    simp only [cInt, cWin] at h0 h1 h2 h3 h4
    obtain ⟨id, rfl, i0⟩ := int1 h0
    obtain ⟨rd, rfl, i1⟩ := int1 h1
    obtain ⟨f, t, rfl, rfl, i2, i3⟩ := win1 h2
    obtain ⟨n, rfl, i4⟩ := int1 h3
    obtain ⟨s, rfl, i5⟩ := int1 h4
    exact ⟨⟨id, rd, f, t, n, s⟩, rfl, trivial⟩
end
section
variable {H : Type} {enc : TypeId × Value → H} {w : World} {b0 : Nat} {r : Reach} {held : Bool} {v : Value} {d : DataW H} {p : List MemPlace}
set_option maxRecDepth 20000 in
theorem open_passes (hv : Value.okWide Try.prog w r b0 22 v) (h : DataW.Trod enc Try.prog w 0 (fun _ => true) held 22 v d p) :
    ∃ (a : Option Addr) (l : List Pass) (cap : Nat), v = .slice a l.length cap ∧ l.length ≤ cap ∧ cap ≤ 9223372036854775807 ∧ (a = none → cap = 0) ∧ PassRow w a l := by
  obtain ⟨a0, n0, c0, rfl⟩ := okWide_slice Try.underlying22 hv
  obtain ⟨fuel, hf⟩ := h
  obtain ⟨a, l, cap, hs, h1, h2, h3, h4, _⟩ := open_sliceG (encA := Pass.cs) (Q := fun _ => True) Try.underlying22 cPass (by decide) Pass.len (fun _ _ _ h => pass1 h) (c := .slice a0 n0 c0) hf
  exact ⟨a, l, cap, hs, h1, h2, h3, h4⟩
end
end Go.Proofs.Ytbkfcdheckkjaaa
