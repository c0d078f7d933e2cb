/- Opening the other arguments of the noise laws. -/
import Derived.Test.YtmobdlddfoaocaaDoorNzFrame
import Derived.Test.YtmobdlddfoaocaaDoorFrame2
namespace Go.Proofs.YtmobdlddfoaocaaDoor
open Go.ChangeShapes Go.WideShapes Go.ChangeAt Go.RowKit

theorem cRatio : Tryd.prog.cellsOf 34 = 2 := by kernel_rfl
theorem cMove : Tryd.prog.cellsOf 36 = 3 := by kernel_rfl

theorem open_move {H : Type} {enc : TypeId × Value → H} {w : World} {b0 : Nat} {r : Reach} {held : Bool} {v : Value} {d : DataW H} {p : List MemPlace} (hv : Value.okWide Tryd.prog w r b0 36 v) (h : DataW.Trod enc Tryd.prog w 0 (fun _ => true) held 36 v d p) :
    ∃ x z s, v = .agg #[.int .i64 x, .int .i64 z, .int .i64 s] ∧ I64 x ∧ I64 z ∧ I64 s := by
  obtain ⟨x, z, s, e, h1, h2, h3⟩ := open_pair_int Tryd.underlying36 cMove Tryd.underlying34 Tryd.underlying3 cRatio cInt rfl rfl Tryd.underlying3 Tryd.underlying3 cInt cInt rfl rfl hv h
  exact ⟨x, z, s, e, wf_i64 h1, wf_i64 h2, wf_i64 h3⟩
theorem open_ratio {H : Type} {enc : TypeId × Value → H} {w : World} {b0 : Nat} {r : Reach} {held : Bool} {v : Value} {d : DataW H} {p : List MemPlace} (hv : Value.okWide Tryd.prog w r b0 34 v) (h : DataW.Trod enc Tryd.prog w 0 (fun _ => true) held 34 v d p) :
    ∃ x z, v = .agg #[.int .i64 x, .int .i64 z] ∧ I64 x ∧ I64 z := by
  obtain ⟨x, z, e, h1, h2⟩ := open_pairv Tryd.underlying34 cRatio Tryd.underlying3 Tryd.underlying3 cInt cInt rfl rfl hv h
  exact ⟨x, z, e, wf_i64 h1, wf_i64 h2⟩
end Go.Proofs.YtmobdlddfoaocaaDoor
