/- The frame of the laws of windows: what the rows ask of the library's variables. -/
import Derived.Test.YtnkmngkinjjbfaaDoorClFrame
import Derived.Test.YtnkmngkinjjbfaaDoorClTLay
import Derived.Test.YtnkmngkinjjbfaaDoorFrame
import Derived.Test.YtnkmngkinjjbfaaDoorRows
import Derived.Stop.LaidErr
import Derived.ChangeMaps5
set_option linter.all false
namespace Go.Proofs.YtnkmngkinjjbfaaDoor
open Go.ChangeShapes Go.WideShapes Go.ChangeAt Go.RowKit Go.Shelf Go.ChangeMaps

def laidL : List (String × DataW Unit) := Rows.clockSetsRow.laid
theorem door_met (os : Os) (args : Array Value) : laidMetH Tryd.prog laidL ((World.doorLaid Tryd.prog 400 os).forCall (fun _ _ => 0) ⟨#[], args, []⟩).memory :=
  laidMetH_of_parts3 (fuel := 8) (laidMet_of_run' 8 (by kernel_rfl) (by kernel_rfl)) (by kernel_rfl) (by kernel_rfl)
theorem gSynT : (Tryd.prog.globals[0]?).map (·.type) = some 49 := by kernel_rfl
theorem gRanT : (Tryd.prog.globals[1]?).map (·.type) = some 49 := by kernel_rfl
theorem gPowT : (Tryd.prog.globals[2]?).map (·.type) = some 102 := by kernel_rfl
theorem cErr : Tryd.prog.cellsOf 109 = 1 := by kernel_rfl
theorem cStr : Tryd.prog.cellsOf 9 = 1 := by kernel_rfl
theorem cU64 : Tryd.prog.cellsOf 83 = 1 := by kernel_rfl
theorem cPow : Tryd.prog.cellsOf 102 = 20 := by kernel_rfl
theorem tabs_of_laid {W : World} (h : laidMetH Tryd.prog laidL W) : Tabs W := by
  rw [MakeChecks.laidMetH_plain _ _ _ (by kernel_rfl)] at h
  have h1 : laidMet Tryd.prog (((laidL.map Prod.fst).getD 2 default, Lib.tabData .u64 Lib.pow10Tab) :: laidL.drop 3) W := h.tail.tail
  have h2 : laidMet Tryd.prog (("strconv.ErrRange", Rows.laid_strconv_ErrRange) :: laidL.drop 4) W := h.tail.tail.tail
  have h3 : laidMet Tryd.prog (("strconv.ErrSyntax", Rows.laid_strconv_ErrSyntax) :: laidL.drop 5) W := h.tail.tail.tail.tail
  obtain ⟨a0, s0, hv0, -, -, -⟩ := laid_sentinel h2 gRan gRanT Tryd.underlying49 (fun u hu => typeName_ptr_named (nm := "errors.errorString") (tp := 107) (by kernel_rfl) (by kernel_rfl) (by decide) u (hu.trans (congrArg some (by decide)))) Tryd.underlying107 Tryd.underlying109 rfl rfl Tryd.underlying9 cErr cStr
  obtain ⟨a1, s1, hv1, -, -, -⟩ := laid_sentinel h3 gSyn gSynT Tryd.underlying49 (fun u hu => typeName_ptr_named (nm := "errors.errorString") (tp := 107) (by kernel_rfl) (by kernel_rfl) (by decide) u (hu.trans (congrArg some (by decide)))) Tryd.underlying107 Tryd.underlying109 rfl rfl Tryd.underlying9 cErr cStr
  refine ⟨fun nm h0 => ?_, ⟨_, _, hv1⟩, ⟨_, _, hv0⟩⟩
  have hn : Tryd.prog.globalNamed ((laidL.map Prod.fst).getD 2 default) = some 2 := by kernel_rfl
  have ht := Lib.tabIs_of_head hn gPowT Tryd.underlying102 Tryd.underlying83 cU64 cPow h1
  unfold Lib.TabIs World.var? at ht ⊢
  rw [hn] at ht
  rw [h0]
  exact ht
end Go.Proofs.YtnkmngkinjjbfaaDoor
