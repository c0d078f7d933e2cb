/-
  No cell of these rows narrows 'for every input' (looked for: loops, veiled, ifaces, maps, wideKeys, modest, calm, conditions, laid).
  DERIVED. THE GIVEN ROWS OF THIS SEAT. 6 by the template 'for every input the law returns true; each argument reads behind the call as it read before'; 0 by the template 'total and deterministic' (their statements: YtbkfcdheckkjaaaTotals.lean).
  GIVEN WITH THE SEED: the statements are not yours to turn. If you find one false, say at which input.
  Laid BY PROGRAM, IN A SANDBOX (cutbox-rows.mjs): the forced cells as the released guide's own fill.sh prints them over the translation 63bf2d20ae41cfa3… (all of the seat's roots in one cut). By AI agents, Wed Nov 11 2026. No macro, syntax, notation, axiom, sorry.
-/
import Derived.Test.YtbkfcdheckkjaaaChecked
import GoSem.Claim
import GoSem.ClaimJoined
import GoSem.ClaimMapViews
import Derived.JoinedTies
import Derived.KernelRfl
namespace Go.Proofs.Ytbkfcdheckkjaaa
/- THE CELL 'sum', in the pinned program and in every row, IS THE sha256 OF THE DUMP (.gsa) THAT YtbkfcdheckkjaaaProg.lean LOADS. Nothing in Lean hashes anything: it is a label: what it is worth is what the hold of that sum in a sandbox is worth. -/
noncomputable def Try.pinned : Pinned := { name := "ytbkfcdheckkjaaa", sum := "63bf2d20ae41cfa371e6a9af070e935e021622db5686d2812f1f6ee08a8e85e6", checked := Try.checked }
namespace Rows
def none {H : Type} : Left H := { results := [], args := [] }

/-- 'bikesharelaw28.PassChecks': WHATEVER THE INPUT: true; the input reads as it did. -/
def passChecksSpec : ChangeSpec := { name := "passChecks", fn := fun _ => fun
  | [d] => { results := [.lit (.bool true)], args := [d] }
  | _ => none }
def passChecksRow : OpenClaim := { program := "ytbkfcdheckkjaaa", sum := "63bf2d20ae41cfa371e6a9af070e935e021622db5686d2812f1f6ee08a8e85e6", func := "bikeshare/bikesharelaw28.PassChecks", spec := "passChecks", unfollowed := true, recurses := true, plainKeys := false, apart := false }
def PassChecksSaid : Prop := passChecksRow.holds Try.pinned (OpenSpec.ofChange passChecksSpec)

/-- ITS FALSE NEIGHBOUR: 'it returns false'. Refute it at one input. -/
def passChecksWrong : ChangeSpec := { name := "passChecks", fn := fun _ => fun
  | [d] => { results := [.lit (.bool false)], args := [d] }
  | _ => none }
def PassChecksWrongFalsely : Prop := passChecksRow.holds Try.pinned (OpenSpec.ofChange passChecksWrong)

/-- 'bikesharelaw28.PassUses': WHATEVER THE INPUT: true; the input reads as it did. -/
def passUsesSpec : ChangeSpec := { name := "passUses", fn := fun _ => fun
  | [d1, d2] => { results := [.lit (.bool true)], args := [d1, d2] }
  | _ => none }
def passUsesRow : OpenClaim := { program := "ytbkfcdheckkjaaa", sum := "63bf2d20ae41cfa371e6a9af070e935e021622db5686d2812f1f6ee08a8e85e6", func := "bikeshare/bikesharelaw28.PassUses", spec := "passUses", unfollowed := true, recurses := true, plainKeys := false, apart := false }
def PassUsesSaid : Prop := passUsesRow.holds Try.pinned (OpenSpec.ofChange passUsesSpec)

/-- ITS FALSE NEIGHBOUR: 'it returns false'. Refute it at one input. -/
def passUsesWrong : ChangeSpec := { name := "passUses", fn := fun _ => fun
  | [d1, d2] => { results := [.lit (.bool false)], args := [d1, d2] }
  | _ => none }
def PassUsesWrongFalsely : Prop := passUsesRow.holds Try.pinned (OpenSpec.ofChange passUsesWrong)

/-- 'bikesharelaw28.PassLeft': WHATEVER THE INPUT: true; the input reads as it did. -/
def passLeftSpec : ChangeSpec := { name := "passLeft", fn := fun _ => fun
  | [d1, d2, d3, d4] => { results := [.lit (.bool true)], args := [d1, d2, d3, d4] }
  | _ => none }
def passLeftRow : OpenClaim := { program := "ytbkfcdheckkjaaa", sum := "63bf2d20ae41cfa371e6a9af070e935e021622db5686d2812f1f6ee08a8e85e6", func := "bikeshare/bikesharelaw28.PassLeft", spec := "passLeft", unfollowed := true, recurses := true, plainKeys := false, apart := false }
def PassLeftSaid : Prop := passLeftRow.holds Try.pinned (OpenSpec.ofChange passLeftSpec)

/-- ITS FALSE NEIGHBOUR: 'it returns false'. Refute it at one input. -/
def passLeftWrong : ChangeSpec := { name := "passLeft", fn := fun _ => fun
  | [d1, d2, d3, d4] => { results := [.lit (.bool false)], args := [d1, d2, d3, d4] }
  | _ => none }
def PassLeftWrongFalsely : Prop := passLeftRow.holds Try.pinned (OpenSpec.ofChange passLeftWrong)

/-- 'bikesharelaw28.PassQuota': WHATEVER THE INPUT: true; the input reads as it did. -/
def passQuotaSpec : ChangeSpec := { name := "passQuota", fn := fun _ => fun
  | [d1, d2] => { results := [.lit (.bool true)], args := [d1, d2] }
  | _ => none }
def passQuotaRow : OpenClaim := { program := "ytbkfcdheckkjaaa", sum := "63bf2d20ae41cfa371e6a9af070e935e021622db5686d2812f1f6ee08a8e85e6", func := "bikeshare/bikesharelaw28.PassQuota", spec := "passQuota", unfollowed := true, recurses := true, plainKeys := false, apart := false }
def PassQuotaSaid : Prop := passQuotaRow.holds Try.pinned (OpenSpec.ofChange passQuotaSpec)

/-- ITS FALSE NEIGHBOUR: 'it returns false'. Refute it at one input. -/
def passQuotaWrong : ChangeSpec := { name := "passQuota", fn := fun _ => fun
  | [d1, d2] => { results := [.lit (.bool false)], args := [d1, d2] }
  | _ => none }
def PassQuotaWrongFalsely : Prop := passQuotaRow.holds Try.pinned (OpenSpec.ofChange passQuotaWrong)

/-- 'bikesharelaw28.PassLater': WHATEVER THE INPUT: true; the input reads as it did. -/
def passLaterSpec : ChangeSpec := { name := "passLater", fn := fun _ => fun
  | [d1, d2, d3] => { results := [.lit (.bool true)], args := [d1, d2, d3] }
  | _ => none }
def passLaterRow : OpenClaim := { program := "ytbkfcdheckkjaaa", sum := "63bf2d20ae41cfa371e6a9af070e935e021622db5686d2812f1f6ee08a8e85e6", func := "bikeshare/bikesharelaw28.PassLater", spec := "passLater", unfollowed := true, recurses := true, plainKeys := false, apart := false }
def PassLaterSaid : Prop := passLaterRow.holds Try.pinned (OpenSpec.ofChange passLaterSpec)

/-- ITS FALSE NEIGHBOUR: 'it returns false'. Refute it at one input. -/
def passLaterWrong : ChangeSpec := { name := "passLater", fn := fun _ => fun
  | [d1, d2, d3] => { results := [.lit (.bool false)], args := [d1, d2, d3] }
  | _ => none }
def PassLaterWrongFalsely : Prop := passLaterRow.holds Try.pinned (OpenSpec.ofChange passLaterWrong)

/-- 'bikesharelaw28.PassRiders': WHATEVER THE INPUT: true; the input reads as it did. -/
def passRidersSpec : ChangeSpec := { name := "passRiders", fn := fun _ => fun
  | [d1, d2, d3] => { results := [.lit (.bool true)], args := [d1, d2, d3] }
  | _ => none }
def passRidersRow : OpenClaim := { program := "ytbkfcdheckkjaaa", sum := "63bf2d20ae41cfa371e6a9af070e935e021622db5686d2812f1f6ee08a8e85e6", func := "bikeshare/bikesharelaw28.PassRiders", spec := "passRiders", unfollowed := true, recurses := true, plainKeys := false, apart := false }
def PassRidersSaid : Prop := passRidersRow.holds Try.pinned (OpenSpec.ofChange passRidersSpec)

/-- ITS FALSE NEIGHBOUR: 'it returns false'. Refute it at one input. -/
def passRidersWrong : ChangeSpec := { name := "passRiders", fn := fun _ => fun
  | [d1, d2, d3] => { results := [.lit (.bool false)], args := [d1, d2, d3] }
  | _ => none }
def PassRidersWrongFalsely : Prop := passRidersRow.holds Try.pinned (OpenSpec.ofChange passRidersWrong)

/- THE SECOND FORM. 'bulk': how many values and letters a reading holds, each counted each time it is reached (what is shared counts as often as it is met; a slice's spare places count too). A statement '..UptoSaid' is the law's where the arguments, and the package variables that the reading takes, are together of bulk at most 1048576: NARROWER than '..Said'. Prove '..Said' where nothing that the law and all that it calls make is longer than what came in: it says more and counts as full. Else prove '..UptoSaid'. A law counts once. -/
mutual
def uptoBulk {H : Type} : DataW H → Nat
  | .lit (.string bytes) => bytes.length + 1
  | .lit _ => 1
  | .nil => 1
  | .ptr d => uptoBulk d + 1
  | .slice elems spare => uptoBulkAll elems + uptoBulkAll spare + 1
  | .agg parts => uptoBulkAll parts + 1
  | .iface _ d => uptoBulk d + 1
  | .map entries => uptoBulkEntries entries + 1
  | .held _ => 1
def uptoBulkAll {H : Type} : List (DataW H) → Nat
  | [] => 0
  | d :: r => uptoBulk d + uptoBulkAll r
def uptoBulkEntries {H : Type} : List (Lit × DataW H) → Nat
  | [] => 0
  | x :: r => uptoBulkEntry x + uptoBulkEntries r
def uptoBulkEntry {H : Type} : Lit × DataW H → Nat
  | (.string bytes, d) => bytes.length + uptoBulk d + 1
  | (_, d) => uptoBulk d + 1
 end
def uptoSmall : (H : Type) → List (DataW H) → Bool := fun _ ds => decide (uptoBulkAll ds ≤ 1048576)
def OpenSpec.upto (s : _root_.Go.ChangeSpec) : _root_.Go.OpenSpec := { _root_.Go.OpenSpec.ofChange s with cond := some uptoSmall }

/-- 'bikesharelaw28.PassChecks', WHERE WHAT IT READS IS OF BULK AT MOST 1048576: true; the input reads as it did. -/
def passChecksUptoRow : OpenClaim := { program := "ytbkfcdheckkjaaa", sum := "63bf2d20ae41cfa371e6a9af070e935e021622db5686d2812f1f6ee08a8e85e6", func := "bikeshare/bikesharelaw28.PassChecks", spec := "passChecks", unfollowed := true, recurses := true, plainKeys := false, apart := false, narrowed := true }
def PassChecksUptoSaid : Prop := passChecksUptoRow.holds Try.pinned (OpenSpec.upto passChecksSpec)

/-- 'bikesharelaw28.PassUses', WHERE WHAT IT READS IS OF BULK AT MOST 1048576: true; the input reads as it did. -/
def passUsesUptoRow : OpenClaim := { program := "ytbkfcdheckkjaaa", sum := "63bf2d20ae41cfa371e6a9af070e935e021622db5686d2812f1f6ee08a8e85e6", func := "bikeshare/bikesharelaw28.PassUses", spec := "passUses", unfollowed := true, recurses := true, plainKeys := false, apart := false, narrowed := true }
def PassUsesUptoSaid : Prop := passUsesUptoRow.holds Try.pinned (OpenSpec.upto passUsesSpec)

/-- 'bikesharelaw28.PassLeft', WHERE WHAT IT READS IS OF BULK AT MOST 1048576: true; the input reads as it did. -/
def passLeftUptoRow : OpenClaim := { program := "ytbkfcdheckkjaaa", sum := "63bf2d20ae41cfa371e6a9af070e935e021622db5686d2812f1f6ee08a8e85e6", func := "bikeshare/bikesharelaw28.PassLeft", spec := "passLeft", unfollowed := true, recurses := true, plainKeys := false, apart := false, narrowed := true }
def PassLeftUptoSaid : Prop := passLeftUptoRow.holds Try.pinned (OpenSpec.upto passLeftSpec)

/-- 'bikesharelaw28.PassQuota', WHERE WHAT IT READS IS OF BULK AT MOST 1048576: true; the input reads as it did. -/
def passQuotaUptoRow : OpenClaim := { program := "ytbkfcdheckkjaaa", sum := "63bf2d20ae41cfa371e6a9af070e935e021622db5686d2812f1f6ee08a8e85e6", func := "bikeshare/bikesharelaw28.PassQuota", spec := "passQuota", unfollowed := true, recurses := true, plainKeys := false, apart := false, narrowed := true }
def PassQuotaUptoSaid : Prop := passQuotaUptoRow.holds Try.pinned (OpenSpec.upto passQuotaSpec)

/-- 'bikesharelaw28.PassLater', WHERE WHAT IT READS IS OF BULK AT MOST 1048576: true; the input reads as it did. -/
def passLaterUptoRow : OpenClaim := { program := "ytbkfcdheckkjaaa", sum := "63bf2d20ae41cfa371e6a9af070e935e021622db5686d2812f1f6ee08a8e85e6", func := "bikeshare/bikesharelaw28.PassLater", spec := "passLater", unfollowed := true, recurses := true, plainKeys := false, apart := false, narrowed := true }
def PassLaterUptoSaid : Prop := passLaterUptoRow.holds Try.pinned (OpenSpec.upto passLaterSpec)

/-- 'bikesharelaw28.PassRiders', WHERE WHAT IT READS IS OF BULK AT MOST 1048576: true; the input reads as it did. -/
def passRidersUptoRow : OpenClaim := { program := "ytbkfcdheckkjaaa", sum := "63bf2d20ae41cfa371e6a9af070e935e021622db5686d2812f1f6ee08a8e85e6", func := "bikeshare/bikesharelaw28.PassRiders", spec := "passRiders", unfollowed := true, recurses := true, plainKeys := false, apart := false, narrowed := true }
def PassRidersUptoSaid : Prop := passRidersUptoRow.holds Try.pinned (OpenSpec.upto passRidersSpec)

end Rows
end Go.Proofs.Ytbkfcdheckkjaaa
