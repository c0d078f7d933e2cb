/-
  No cell of these rows narrows 'for every input' (looked for: loops, veiled, ifaces, maps, wideKeys, modest, calm, conditions, laid).
  DERIVED. THE GIVEN ROWS OF THIS SEAT. 3 by the template 'for every input the law returns true; each argument reads behind the call as it read before'; 0 by the template 'total and deterministic' (their statements: YtmmlmhnjjfnpnaaGreatTotals.lean).
  GIVEN WITH THE SEED: the statements are not yours to turn. If you find one false, say at which input.
  Laid BY PROGRAM, IN A SANDBOX (cutbox-rows.mjs): the forced cells as the released guide's own fill.sh prints them over the translation 871583ac90a2dced… (all of the seat's roots in one cut). By AI agents, Wed Nov 11 2026. No macro, syntax, notation, axiom, sorry.
-/
import Derived.Test.YtmmlmhnjjfnpnaaGreatChecked
import GoSem.Claim
import GoSem.ClaimJoined
import GoSem.ClaimMapViews
import Derived.JoinedTies
import Derived.KernelRfl
namespace Go.Proofs.YtmmlmhnjjfnpnaaGreat
/- THE CELL 'sum', in the pinned program and in every row, IS THE sha256 OF THE DUMP (.gsa) THAT YtmmlmhnjjfnpnaaGreatProg.lean LOADS. Nothing in Lean hashes anything: it is a label: what it is worth is what the hold of that sum in a sandbox is worth. -/
noncomputable def Tryz.pinned : Pinned := { name := "ytmmlmhnjjfnpnaagreat", sum := "871583ac90a2dced8faa8fa41fa5f5aa8090619839e476583f2745019e7b3baf", checked := Tryz.checked }
namespace Rows
def none {H : Type} : Left H := { results := [], args := [] }

/-- 'bikesharetop.TopTrueTime': WHATEVER THE INPUT: true; the input reads as it did. -/
def topTrueTimeSpec : ChangeSpec := { name := "topTrueTime", fn := fun _ => fun
  | [d1, d2, d3, d4, d5] => { results := [.lit (.bool true)], args := [d1, d2, d3, d4, d5] }
  | _ => none }
def topTrueTimeRow : OpenClaim := { program := "ytmmlmhnjjfnpnaagreat", sum := "871583ac90a2dced8faa8fa41fa5f5aa8090619839e476583f2745019e7b3baf", func := "bikeshare/bikesharetop.TopTrueTime", spec := "topTrueTime", unfollowed := true, recurses := true, plainKeys := false, apart := false }
def TopTrueTimeSaid : Prop := topTrueTimeRow.holds Tryz.pinned (OpenSpec.ofChange topTrueTimeSpec)

/-- ITS FALSE NEIGHBOUR: 'it returns false'. Refute it at one input. -/
def topTrueTimeWrong : ChangeSpec := { name := "topTrueTime", fn := fun _ => fun
  | [d1, d2, d3, d4, d5] => { results := [.lit (.bool false)], args := [d1, d2, d3, d4, d5] }
  | _ => none }
def TopTrueTimeWrongFalsely : Prop := topTrueTimeRow.holds Tryz.pinned (OpenSpec.ofChange topTrueTimeWrong)

/-- 'bikesharetop.TopFinal': WHATEVER THE INPUT: true; the input reads as it did. -/
def topFinalSpec : ChangeSpec := { name := "topFinal", fn := fun _ => fun
  | [d1, d2, d3] => { results := [.lit (.bool true)], args := [d1, d2, d3] }
  | _ => none }
def topFinalRow : OpenClaim := { program := "ytmmlmhnjjfnpnaagreat", sum := "871583ac90a2dced8faa8fa41fa5f5aa8090619839e476583f2745019e7b3baf", func := "bikeshare/bikesharetop.TopFinal", spec := "topFinal", unfollowed := true, recurses := true, plainKeys := false, apart := false }
def TopFinalSaid : Prop := topFinalRow.holds Tryz.pinned (OpenSpec.ofChange topFinalSpec)

/-- ITS FALSE NEIGHBOUR: 'it returns false'. Refute it at one input. -/
def topFinalWrong : ChangeSpec := { name := "topFinal", fn := fun _ => fun
  | [d1, d2, d3] => { results := [.lit (.bool false)], args := [d1, d2, d3] }
  | _ => none }
def TopFinalWrongFalsely : Prop := topFinalRow.holds Tryz.pinned (OpenSpec.ofChange topFinalWrong)

/-- 'bikesharetop.TopOperators': WHATEVER THE INPUT: true; the input reads as it did. -/
def topOperatorsSpec : ChangeSpec := { name := "topOperators", fn := fun _ => fun
  | [d1, d2, d3, d4] => { results := [.lit (.bool true)], args := [d1, d2, d3, d4] }
  | _ => none }
def topOperatorsRow : OpenClaim := { program := "ytmmlmhnjjfnpnaagreat", sum := "871583ac90a2dced8faa8fa41fa5f5aa8090619839e476583f2745019e7b3baf", func := "bikeshare/bikesharetop.TopOperators", spec := "topOperators", inPlace := ["math/bits.Add64"], unfollowed := true, recurses := true, named := ["math/bits.divideError", "math/bits.overflowError"], plainKeys := false, apart := false }
def TopOperatorsSaid : Prop := topOperatorsRow.holds Tryz.pinned (OpenSpec.ofChange topOperatorsSpec)

/-- ITS FALSE NEIGHBOUR: 'it returns false'. Refute it at one input. -/
def topOperatorsWrong : ChangeSpec := { name := "topOperators", fn := fun _ => fun
  | [d1, d2, d3, d4] => { results := [.lit (.bool false)], args := [d1, d2, d3, d4] }
  | _ => none }
def TopOperatorsWrongFalsely : Prop := topOperatorsRow.holds Tryz.pinned (OpenSpec.ofChange topOperatorsWrong)

/- THE SECOND FORM. 'bulk': how many values and letters a reading holds, each counted each time it is reached (what is shared counts as often as it is met; a slice's spare places count too). A statement '..UptoSaid' is the law's where the arguments, and the package variables that the reading takes, are together of bulk at most 1048576: NARROWER than '..Said'. Prove '..Said' where nothing that the law and all that it calls make is longer than what came in: it says more and counts as full. Else prove '..UptoSaid'. A law counts once. -/
mutual
def uptoBulk {H : Type} : DataW H → Nat
  | .lit (.string bytes) => bytes.length + 1
  | .lit _ => 1
  | .nil => 1
  | .ptr d => uptoBulk d + 1
  | .slice elems spare => uptoBulkAll elems + uptoBulkAll spare + 1
  | .agg parts => uptoBulkAll parts + 1
  | .iface _ d => uptoBulk d + 1
  | .map entries => uptoBulkEntries entries + 1
  | .held _ => 1
def uptoBulkAll {H : Type} : List (DataW H) → Nat
  | [] => 0
  | d :: r => uptoBulk d + uptoBulkAll r
def uptoBulkEntries {H : Type} : List (Lit × DataW H) → Nat
  | [] => 0
  | x :: r => uptoBulkEntry x + uptoBulkEntries r
def uptoBulkEntry {H : Type} : Lit × DataW H → Nat
  | (.string bytes, d) => bytes.length + uptoBulk d + 1
  | (_, d) => uptoBulk d + 1
 end
def uptoSmall : (H : Type) → List (DataW H) → Bool := fun _ ds => decide (uptoBulkAll ds ≤ 1048576)
def OpenSpec.upto (s : _root_.Go.ChangeSpec) : _root_.Go.OpenSpec := { _root_.Go.OpenSpec.ofChange s with cond := some uptoSmall }

/-- 'bikesharetop.TopTrueTime', WHERE WHAT IT READS IS OF BULK AT MOST 1048576: true; the input reads as it did. -/
def topTrueTimeUptoRow : OpenClaim := { program := "ytmmlmhnjjfnpnaagreat", sum := "871583ac90a2dced8faa8fa41fa5f5aa8090619839e476583f2745019e7b3baf", func := "bikeshare/bikesharetop.TopTrueTime", spec := "topTrueTime", unfollowed := true, recurses := true, plainKeys := false, apart := false, narrowed := true }
def TopTrueTimeUptoSaid : Prop := topTrueTimeUptoRow.holds Tryz.pinned (OpenSpec.upto topTrueTimeSpec)

/-- 'bikesharetop.TopFinal', WHERE WHAT IT READS IS OF BULK AT MOST 1048576: true; the input reads as it did. -/
def topFinalUptoRow : OpenClaim := { program := "ytmmlmhnjjfnpnaagreat", sum := "871583ac90a2dced8faa8fa41fa5f5aa8090619839e476583f2745019e7b3baf", func := "bikeshare/bikesharetop.TopFinal", spec := "topFinal", unfollowed := true, recurses := true, plainKeys := false, apart := false, narrowed := true }
def TopFinalUptoSaid : Prop := topFinalUptoRow.holds Tryz.pinned (OpenSpec.upto topFinalSpec)

/-- 'bikesharetop.TopOperators', WHERE WHAT IT READS IS OF BULK AT MOST 1048576: true; the input reads as it did. -/
def topOperatorsUptoRow : OpenClaim := { program := "ytmmlmhnjjfnpnaagreat", sum := "871583ac90a2dced8faa8fa41fa5f5aa8090619839e476583f2745019e7b3baf", func := "bikeshare/bikesharetop.TopOperators", spec := "topOperators", inPlace := ["math/bits.Add64"], unfollowed := true, recurses := true, named := ["math/bits.divideError", "math/bits.overflowError"], plainKeys := false, apart := false, narrowed := true }
def TopOperatorsUptoSaid : Prop := topOperatorsUptoRow.holds Tryz.pinned (OpenSpec.upto topOperatorsSpec)

end Rows
end Go.Proofs.YtmmlmhnjjfnpnaaGreat
