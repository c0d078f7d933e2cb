/-
  No cell of these rows narrows 'for every input' (looked for: loops, veiled, ifaces, maps, wideKeys, modest, calm, conditions, laid).
  DERIVED. THE GIVEN ROWS OF THIS SEAT. 7 by the template 'for every input the law returns true; each argument reads behind the call as it read before'; 0 by the template 'total and deterministic' (their statements: YtefodfpnedcodaaTotals.lean).
  GIVEN WITH THE SEED: the statements are not yours to turn. If you find one false, say at which input.
  Laid BY PROGRAM, IN A SANDBOX (cutbox-rows.mjs): the forced cells as the released guide's own fill.sh prints them over the translation 9db18b19ca4c2b2b… (all of the seat's roots in one cut). By AI agents, Wed Nov 11 2026. No macro, syntax, notation, axiom, sorry.
-/
import Derived.Test.YtefodfpnedcodaaChecked
import GoSem.Claim
import GoSem.ClaimJoined
import GoSem.ClaimMapViews
import Derived.JoinedTies
import Derived.KernelRfl
namespace Go.Proofs.Ytefodfpnedcodaa
/- THE CELL 'sum', in the pinned program and in every row, IS THE sha256 OF THE DUMP (.gsa) THAT YtefodfpnedcodaaProg.lean LOADS. Nothing in Lean hashes anything: it is a label: what it is worth is what the hold of that sum in a sandbox is worth. -/
noncomputable def Try.pinned : Pinned := { name := "ytefodfpnedcodaa", sum := "9db18b19ca4c2b2b8021e5bc5462f40c2303ccb246b0cd560b3ce5e78cc5dc76", checked := Try.checked }
namespace Rows
def none {H : Type} : Left H := { results := [], args := [] }

/-- 'bikesharelaw23.IntervalWindows': WHATEVER THE INPUT: true; the input reads as it did. -/
def intervalWindowsSpec : ChangeSpec := { name := "intervalWindows", fn := fun _ => fun
  | [d] => { results := [.lit (.bool true)], args := [d] }
  | _ => none }
def intervalWindowsRow : OpenClaim := { program := "ytefodfpnedcodaa", sum := "9db18b19ca4c2b2b8021e5bc5462f40c2303ccb246b0cd560b3ce5e78cc5dc76", func := "bikeshare/bikesharelaw23.IntervalWindows", spec := "intervalWindows", unfollowed := true, recurses := true, apart := false }
def IntervalWindowsSaid : Prop := intervalWindowsRow.holds Try.pinned (OpenSpec.ofChange intervalWindowsSpec)

/-- ITS FALSE NEIGHBOUR: 'it returns false'. Refute it at one input. -/
def intervalWindowsWrong : ChangeSpec := { name := "intervalWindows", fn := fun _ => fun
  | [d] => { results := [.lit (.bool false)], args := [d] }
  | _ => none }
def IntervalWindowsWrongFalsely : Prop := intervalWindowsRow.holds Try.pinned (OpenSpec.ofChange intervalWindowsWrong)

/-- 'bikesharelaw23.IntervalSeconds': WHATEVER THE INPUT: true; the input reads as it did. -/
def intervalSecondsSpec : ChangeSpec := { name := "intervalSeconds", fn := fun _ => fun
  | [d] => { results := [.lit (.bool true)], args := [d] }
  | _ => none }
def intervalSecondsRow : OpenClaim := { program := "ytefodfpnedcodaa", sum := "9db18b19ca4c2b2b8021e5bc5462f40c2303ccb246b0cd560b3ce5e78cc5dc76", func := "bikeshare/bikesharelaw23.IntervalSeconds", spec := "intervalSeconds", unfollowed := true, recurses := true, apart := false }
def IntervalSecondsSaid : Prop := intervalSecondsRow.holds Try.pinned (OpenSpec.ofChange intervalSecondsSpec)

/-- ITS FALSE NEIGHBOUR: 'it returns false'. Refute it at one input. -/
def intervalSecondsWrong : ChangeSpec := { name := "intervalSeconds", fn := fun _ => fun
  | [d] => { results := [.lit (.bool false)], args := [d] }
  | _ => none }
def IntervalSecondsWrongFalsely : Prop := intervalSecondsRow.holds Try.pinned (OpenSpec.ofChange intervalSecondsWrong)

/-- 'bikesharelaw23.IntervalFair': WHATEVER THE INPUT: true; the input reads as it did. -/
def intervalFairSpec : ChangeSpec := { name := "intervalFair", fn := fun _ => fun
  | [d1, d2] => { results := [.lit (.bool true)], args := [d1, d2] }
  | _ => none }
def intervalFairRow : OpenClaim := { program := "ytefodfpnedcodaa", sum := "9db18b19ca4c2b2b8021e5bc5462f40c2303ccb246b0cd560b3ce5e78cc5dc76", func := "bikeshare/bikesharelaw23.IntervalFair", spec := "intervalFair", unfollowed := true, recurses := true, apart := false }
def IntervalFairSaid : Prop := intervalFairRow.holds Try.pinned (OpenSpec.ofChange intervalFairSpec)

/-- ITS FALSE NEIGHBOUR: 'it returns false'. Refute it at one input. -/
def intervalFairWrong : ChangeSpec := { name := "intervalFair", fn := fun _ => fun
  | [d1, d2] => { results := [.lit (.bool false)], args := [d1, d2] }
  | _ => none }
def IntervalFairWrongFalsely : Prop := intervalFairRow.holds Try.pinned (OpenSpec.ofChange intervalFairWrong)

/-- 'bikesharelaw23.IntervalParts': WHATEVER THE INPUT: true; the input reads as it did. -/
def intervalPartsSpec : ChangeSpec := { name := "intervalParts", fn := fun _ => fun
  | [d] => { results := [.lit (.bool true)], args := [d] }
  | _ => none }
def intervalPartsRow : OpenClaim := { program := "ytefodfpnedcodaa", sum := "9db18b19ca4c2b2b8021e5bc5462f40c2303ccb246b0cd560b3ce5e78cc5dc76", func := "bikeshare/bikesharelaw23.IntervalParts", spec := "intervalParts", unfollowed := true, recurses := true, apart := false }
def IntervalPartsSaid : Prop := intervalPartsRow.holds Try.pinned (OpenSpec.ofChange intervalPartsSpec)

/-- ITS FALSE NEIGHBOUR: 'it returns false'. Refute it at one input. -/
def intervalPartsWrong : ChangeSpec := { name := "intervalParts", fn := fun _ => fun
  | [d] => { results := [.lit (.bool false)], args := [d] }
  | _ => none }
def IntervalPartsWrongFalsely : Prop := intervalPartsRow.holds Try.pinned (OpenSpec.ofChange intervalPartsWrong)

/-- 'bikesharelaw23.IntervalMoments': WHATEVER THE INPUT: true; the input reads as it did. -/
def intervalMomentsSpec : ChangeSpec := { name := "intervalMoments", fn := fun _ => fun
  | [d1, d2] => { results := [.lit (.bool true)], args := [d1, d2] }
  | _ => none }
def intervalMomentsRow : OpenClaim := { program := "ytefodfpnedcodaa", sum := "9db18b19ca4c2b2b8021e5bc5462f40c2303ccb246b0cd560b3ce5e78cc5dc76", func := "bikeshare/bikesharelaw23.IntervalMoments", spec := "intervalMoments", unfollowed := true, recurses := true, apart := false }
def IntervalMomentsSaid : Prop := intervalMomentsRow.holds Try.pinned (OpenSpec.ofChange intervalMomentsSpec)

/-- ITS FALSE NEIGHBOUR: 'it returns false'. Refute it at one input. -/
def intervalMomentsWrong : ChangeSpec := { name := "intervalMoments", fn := fun _ => fun
  | [d1, d2] => { results := [.lit (.bool false)], args := [d1, d2] }
  | _ => none }
def IntervalMomentsWrongFalsely : Prop := intervalMomentsRow.holds Try.pinned (OpenSpec.ofChange intervalMomentsWrong)

/-- 'bikesharelaw23.IntervalExact': WHATEVER THE INPUT: true; the input reads as it did. -/
def intervalExactSpec : ChangeSpec := { name := "intervalExact", fn := fun _ => fun
  | [d] => { results := [.lit (.bool true)], args := [d] }
  | _ => none }
def intervalExactRow : OpenClaim := { program := "ytefodfpnedcodaa", sum := "9db18b19ca4c2b2b8021e5bc5462f40c2303ccb246b0cd560b3ce5e78cc5dc76", func := "bikeshare/bikesharelaw23.IntervalExact", spec := "intervalExact", unfollowed := true, recurses := true, apart := false }
def IntervalExactSaid : Prop := intervalExactRow.holds Try.pinned (OpenSpec.ofChange intervalExactSpec)

/-- ITS FALSE NEIGHBOUR: 'it returns false'. Refute it at one input. -/
def intervalExactWrong : ChangeSpec := { name := "intervalExact", fn := fun _ => fun
  | [d] => { results := [.lit (.bool false)], args := [d] }
  | _ => none }
def IntervalExactWrongFalsely : Prop := intervalExactRow.holds Try.pinned (OpenSpec.ofChange intervalExactWrong)

/-- 'bikesharelaw23.IntervalNarrows': WHATEVER THE INPUT: true; the input reads as it did. -/
def intervalNarrowsSpec : ChangeSpec := { name := "intervalNarrows", fn := fun _ => fun
  | [d1, d2] => { results := [.lit (.bool true)], args := [d1, d2] }
  | _ => none }
def intervalNarrowsRow : OpenClaim := { program := "ytefodfpnedcodaa", sum := "9db18b19ca4c2b2b8021e5bc5462f40c2303ccb246b0cd560b3ce5e78cc5dc76", func := "bikeshare/bikesharelaw23.IntervalNarrows", spec := "intervalNarrows", unfollowed := true, recurses := true, apart := false }
def IntervalNarrowsSaid : Prop := intervalNarrowsRow.holds Try.pinned (OpenSpec.ofChange intervalNarrowsSpec)

/-- ITS FALSE NEIGHBOUR: 'it returns false'. Refute it at one input. -/
def intervalNarrowsWrong : ChangeSpec := { name := "intervalNarrows", fn := fun _ => fun
  | [d1, d2] => { results := [.lit (.bool false)], args := [d1, d2] }
  | _ => none }
def IntervalNarrowsWrongFalsely : Prop := intervalNarrowsRow.holds Try.pinned (OpenSpec.ofChange intervalNarrowsWrong)

/- THE SECOND FORM. 'bulk': how many values and letters a reading holds, each counted each time it is reached (what is shared counts as often as it is met; a slice's spare places count too). A statement '..UptoSaid' is the law's where the arguments, and the package variables that the reading takes, are together of bulk at most 1048576: NARROWER than '..Said'. Prove '..Said' where nothing that the law and all that it calls make is longer than what came in: it says more and counts as full. Else prove '..UptoSaid'. A law counts once. -/
mutual
def uptoBulk {H : Type} : DataW H → Nat
  | .lit (.string bytes) => bytes.length + 1
  | .lit _ => 1
  | .nil => 1
  | .ptr d => uptoBulk d + 1
  | .slice elems spare => uptoBulkAll elems + uptoBulkAll spare + 1
  | .agg parts => uptoBulkAll parts + 1
  | .iface _ d => uptoBulk d + 1
  | .map entries => uptoBulkEntries entries + 1
  | .held _ => 1
def uptoBulkAll {H : Type} : List (DataW H) → Nat
  | [] => 0
  | d :: r => uptoBulk d + uptoBulkAll r
def uptoBulkEntries {H : Type} : List (Lit × DataW H) → Nat
  | [] => 0
  | x :: r => uptoBulkEntry x + uptoBulkEntries r
def uptoBulkEntry {H : Type} : Lit × DataW H → Nat
  | (.string bytes, d) => bytes.length + uptoBulk d + 1
  | (_, d) => uptoBulk d + 1
 end
def uptoSmall : (H : Type) → List (DataW H) → Bool := fun _ ds => decide (uptoBulkAll ds ≤ 1048576)
def OpenSpec.upto (s : _root_.Go.ChangeSpec) : _root_.Go.OpenSpec := { _root_.Go.OpenSpec.ofChange s with cond := some uptoSmall }

/-- 'bikesharelaw23.IntervalWindows', WHERE WHAT IT READS IS OF BULK AT MOST 1048576: true; the input reads as it did. -/
def intervalWindowsUptoRow : OpenClaim := { program := "ytefodfpnedcodaa", sum := "9db18b19ca4c2b2b8021e5bc5462f40c2303ccb246b0cd560b3ce5e78cc5dc76", func := "bikeshare/bikesharelaw23.IntervalWindows", spec := "intervalWindows", unfollowed := true, recurses := true, apart := false, narrowed := true }
def IntervalWindowsUptoSaid : Prop := intervalWindowsUptoRow.holds Try.pinned (OpenSpec.upto intervalWindowsSpec)

/-- 'bikesharelaw23.IntervalSeconds', WHERE WHAT IT READS IS OF BULK AT MOST 1048576: true; the input reads as it did. -/
def intervalSecondsUptoRow : OpenClaim := { program := "ytefodfpnedcodaa", sum := "9db18b19ca4c2b2b8021e5bc5462f40c2303ccb246b0cd560b3ce5e78cc5dc76", func := "bikeshare/bikesharelaw23.IntervalSeconds", spec := "intervalSeconds", unfollowed := true, recurses := true, apart := false, narrowed := true }
def IntervalSecondsUptoSaid : Prop := intervalSecondsUptoRow.holds Try.pinned (OpenSpec.upto intervalSecondsSpec)

/-- 'bikesharelaw23.IntervalFair', WHERE WHAT IT READS IS OF BULK AT MOST 1048576: true; the input reads as it did. -/
def intervalFairUptoRow : OpenClaim := { program := "ytefodfpnedcodaa", sum := "9db18b19ca4c2b2b8021e5bc5462f40c2303ccb246b0cd560b3ce5e78cc5dc76", func := "bikeshare/bikesharelaw23.IntervalFair", spec := "intervalFair", unfollowed := true, recurses := true, apart := false, narrowed := true }
def IntervalFairUptoSaid : Prop := intervalFairUptoRow.holds Try.pinned (OpenSpec.upto intervalFairSpec)

/-- 'bikesharelaw23.IntervalParts', WHERE WHAT IT READS IS OF BULK AT MOST 1048576: true; the input reads as it did. -/
def intervalPartsUptoRow : OpenClaim := { program := "ytefodfpnedcodaa", sum := "9db18b19ca4c2b2b8021e5bc5462f40c2303ccb246b0cd560b3ce5e78cc5dc76", func := "bikeshare/bikesharelaw23.IntervalParts", spec := "intervalParts", unfollowed := true, recurses := true, apart := false, narrowed := true }
def IntervalPartsUptoSaid : Prop := intervalPartsUptoRow.holds Try.pinned (OpenSpec.upto intervalPartsSpec)

/-- 'bikesharelaw23.IntervalMoments', WHERE WHAT IT READS IS OF BULK AT MOST 1048576: true; the input reads as it did. -/
def intervalMomentsUptoRow : OpenClaim := { program := "ytefodfpnedcodaa", sum := "9db18b19ca4c2b2b8021e5bc5462f40c2303ccb246b0cd560b3ce5e78cc5dc76", func := "bikeshare/bikesharelaw23.IntervalMoments", spec := "intervalMoments", unfollowed := true, recurses := true, apart := false, narrowed := true }
def IntervalMomentsUptoSaid : Prop := intervalMomentsUptoRow.holds Try.pinned (OpenSpec.upto intervalMomentsSpec)

/-- 'bikesharelaw23.IntervalExact', WHERE WHAT IT READS IS OF BULK AT MOST 1048576: true; the input reads as it did. -/
def intervalExactUptoRow : OpenClaim := { program := "ytefodfpnedcodaa", sum := "9db18b19ca4c2b2b8021e5bc5462f40c2303ccb246b0cd560b3ce5e78cc5dc76", func := "bikeshare/bikesharelaw23.IntervalExact", spec := "intervalExact", unfollowed := true, recurses := true, apart := false, narrowed := true }
def IntervalExactUptoSaid : Prop := intervalExactUptoRow.holds Try.pinned (OpenSpec.upto intervalExactSpec)

/-- 'bikesharelaw23.IntervalNarrows', WHERE WHAT IT READS IS OF BULK AT MOST 1048576: true; the input reads as it did. -/
def intervalNarrowsUptoRow : OpenClaim := { program := "ytefodfpnedcodaa", sum := "9db18b19ca4c2b2b8021e5bc5462f40c2303ccb246b0cd560b3ce5e78cc5dc76", func := "bikeshare/bikesharelaw23.IntervalNarrows", spec := "intervalNarrows", unfollowed := true, recurses := true, apart := false, narrowed := true }
def IntervalNarrowsUptoSaid : Prop := intervalNarrowsUptoRow.holds Try.pinned (OpenSpec.upto intervalNarrowsSpec)

end Rows
end Go.Proofs.Ytefodfpnedcodaa
