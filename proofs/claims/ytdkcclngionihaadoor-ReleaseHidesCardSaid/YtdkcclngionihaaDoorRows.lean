/-
  NARROWER THAN 'FOR EVERY INPUT', by the rows' own cells (each row's printed sentence says how): ReleaseHides: laid · ReleaseChances: laid · ReleaseCompares: laid · ReleaseHidden: laid · ReleasePrivate: laid · ReleaseDisturbs: laid · ReleaseNear: laid.
  DERIVED. THE GIVEN ROWS OF THIS SEAT. 7 by the template 'for every input the law returns true; each argument reads behind the call as it read before'; 0 by the template 'total and deterministic' (their statements: YtdkcclngionihaaDoorTotals.lean).
  GIVEN WITH THE SEED: the statements are not yours to turn. If you find one false, say at which input.
  Laid BY PROGRAM, IN A SANDBOX (cutbox-rows.mjs): the forced cells as the released guide's own fill.sh prints them over the translation 09e1fc8bd10e61bf… (all of the seat's roots in one cut). By AI agents, Wed Nov 11 2026. No macro, syntax, notation, axiom, sorry.
-/
import Derived.Test.YtdkcclngionihaaDoorChecked
import GoSem.Claim
import GoSem.ClaimJoined
import GoSem.ClaimMapViews
import Derived.JoinedTies
import Derived.KernelRfl
namespace Go.Proofs.YtdkcclngionihaaDoor
/- THE CELL 'sum', in the pinned program and in every row, IS THE sha256 OF THE DUMP (.gsa) THAT YtdkcclngionihaaDoorProg.lean LOADS. Nothing in Lean hashes anything: it is a label: what it is worth is what the hold of that sum in a sandbox is worth. -/
noncomputable def Tryd.pinned : Pinned := { name := "ytdkcclngionihaadoor", sum := "09e1fc8bd10e61bf2aefa585733ff45abfcb3148f85cdf3e875e8919eb7fed27", checked := Tryd.checked }
namespace Rows
def none {H : Type} : Left H := { results := [], args := [] }

/- WHAT THE LISTED PACKAGE-LEVEL VARIABLES READ AS WHEN THE CALL BEGINS. Each datum BY PROGRAM (the guide's laid-datum.mjs) off the statement by which the dump's own 'gosem.cut.vars' lays the variable. In a bare row this is a premise. The card (YtdkcclngionihaaDoorCards.lean) ties it to the program's text. -/
def laid_bikeshare_noise_signs {H : Type} : DataW H := .agg [.lit (.int .i64 (-1)), .lit (.int .i64 1)]

/-- 'bikesharelaw56.ReleaseHides': WHATEVER THE INPUT: true; the input reads as it did. -/
def releaseHidesSpec : ChangeSpec := { name := "releaseHides", fn := fun _ => fun
  | [d1, d2, d3] => { results := [.lit (.bool true)], args := [d1, d2, d3] }
  | _ => none }
def releaseHidesRow : OpenClaim := { program := "ytdkcclngionihaadoor", sum := "09e1fc8bd10e61bf2aefa585733ff45abfcb3148f85cdf3e875e8919eb7fed27", func := "bikeshare/bikesharelaw56.ReleaseHides", spec := "releaseHides", unfollowed := true, recurses := true, named := ["bikeshare/noise.signs"], plainKeys := false, apart := false, laid := [("bikeshare/noise.signs", laid_bikeshare_noise_signs)] }
def ReleaseHidesSaid : Prop := releaseHidesRow.holds Tryd.pinned (OpenSpec.ofChange releaseHidesSpec)

/-- ITS FALSE NEIGHBOUR: 'it returns false'. Refute it at one input. -/
def releaseHidesWrong : ChangeSpec := { name := "releaseHides", fn := fun _ => fun
  | [d1, d2, d3] => { results := [.lit (.bool false)], args := [d1, d2, d3] }
  | _ => none }
def ReleaseHidesWrongFalsely : Prop := releaseHidesRow.holds Tryd.pinned (OpenSpec.ofChange releaseHidesWrong)

/-- 'bikesharelaw56.ReleaseChances': WHATEVER THE INPUT: true; the input reads as it did. -/
def releaseChancesSpec : ChangeSpec := { name := "releaseChances", fn := fun _ => fun
  | [d1, d2] => { results := [.lit (.bool true)], args := [d1, d2] }
  | _ => none }
def releaseChancesRow : OpenClaim := { program := "ytdkcclngionihaadoor", sum := "09e1fc8bd10e61bf2aefa585733ff45abfcb3148f85cdf3e875e8919eb7fed27", func := "bikeshare/bikesharelaw56.ReleaseChances", spec := "releaseChances", unfollowed := true, recurses := true, named := ["bikeshare/noise.signs"], plainKeys := false, apart := false, laid := [("bikeshare/noise.signs", laid_bikeshare_noise_signs)] }
def ReleaseChancesSaid : Prop := releaseChancesRow.holds Tryd.pinned (OpenSpec.ofChange releaseChancesSpec)

/-- ITS FALSE NEIGHBOUR: 'it returns false'. Refute it at one input. -/
def releaseChancesWrong : ChangeSpec := { name := "releaseChances", fn := fun _ => fun
  | [d1, d2] => { results := [.lit (.bool false)], args := [d1, d2] }
  | _ => none }
def ReleaseChancesWrongFalsely : Prop := releaseChancesRow.holds Tryd.pinned (OpenSpec.ofChange releaseChancesWrong)

/-- 'bikesharelaw56.ReleaseCompares': WHATEVER THE INPUT: true; the input reads as it did. -/
def releaseComparesSpec : ChangeSpec := { name := "releaseCompares", fn := fun _ => fun
  | [d1, d2, d3] => { results := [.lit (.bool true)], args := [d1, d2, d3] }
  | _ => none }
def releaseComparesRow : OpenClaim := { program := "ytdkcclngionihaadoor", sum := "09e1fc8bd10e61bf2aefa585733ff45abfcb3148f85cdf3e875e8919eb7fed27", func := "bikeshare/bikesharelaw56.ReleaseCompares", spec := "releaseCompares", unfollowed := true, recurses := true, named := ["bikeshare/noise.signs"], plainKeys := false, apart := false, laid := [("bikeshare/noise.signs", laid_bikeshare_noise_signs)] }
def ReleaseComparesSaid : Prop := releaseComparesRow.holds Tryd.pinned (OpenSpec.ofChange releaseComparesSpec)

/-- ITS FALSE NEIGHBOUR: 'it returns false'. Refute it at one input. -/
def releaseComparesWrong : ChangeSpec := { name := "releaseCompares", fn := fun _ => fun
  | [d1, d2, d3] => { results := [.lit (.bool false)], args := [d1, d2, d3] }
  | _ => none }
def ReleaseComparesWrongFalsely : Prop := releaseComparesRow.holds Tryd.pinned (OpenSpec.ofChange releaseComparesWrong)

/-- 'bikesharelaw56.ReleaseHidden': WHATEVER THE INPUT: true; the input reads as it did. -/
def releaseHiddenSpec : ChangeSpec := { name := "releaseHidden", fn := fun _ => fun
  | [d1, d2, d3] => { results := [.lit (.bool true)], args := [d1, d2, d3] }
  | _ => none }
def releaseHiddenRow : OpenClaim := { program := "ytdkcclngionihaadoor", sum := "09e1fc8bd10e61bf2aefa585733ff45abfcb3148f85cdf3e875e8919eb7fed27", func := "bikeshare/bikesharelaw56.ReleaseHidden", spec := "releaseHidden", unfollowed := true, recurses := true, named := ["bikeshare/noise.signs"], plainKeys := false, apart := false, laid := [("bikeshare/noise.signs", laid_bikeshare_noise_signs)] }
def ReleaseHiddenSaid : Prop := releaseHiddenRow.holds Tryd.pinned (OpenSpec.ofChange releaseHiddenSpec)

/-- ITS FALSE NEIGHBOUR: 'it returns false'. Refute it at one input. -/
def releaseHiddenWrong : ChangeSpec := { name := "releaseHidden", fn := fun _ => fun
  | [d1, d2, d3] => { results := [.lit (.bool false)], args := [d1, d2, d3] }
  | _ => none }
def ReleaseHiddenWrongFalsely : Prop := releaseHiddenRow.holds Tryd.pinned (OpenSpec.ofChange releaseHiddenWrong)

/-- 'bikesharelaw56.ReleasePrivate': WHATEVER THE INPUT: true; the input reads as it did. -/
def releasePrivateSpec : ChangeSpec := { name := "releasePrivate", fn := fun _ => fun
  | [d1, d2, d3, d4] => { results := [.lit (.bool true)], args := [d1, d2, d3, d4] }
  | _ => none }
def releasePrivateRow : OpenClaim := { program := "ytdkcclngionihaadoor", sum := "09e1fc8bd10e61bf2aefa585733ff45abfcb3148f85cdf3e875e8919eb7fed27", func := "bikeshare/bikesharelaw56.ReleasePrivate", spec := "releasePrivate", unfollowed := true, recurses := true, named := ["bikeshare/noise.signs"], plainKeys := false, apart := false, laid := [("bikeshare/noise.signs", laid_bikeshare_noise_signs)] }
def ReleasePrivateSaid : Prop := releasePrivateRow.holds Tryd.pinned (OpenSpec.ofChange releasePrivateSpec)

/-- ITS FALSE NEIGHBOUR: 'it returns false'. Refute it at one input. -/
def releasePrivateWrong : ChangeSpec := { name := "releasePrivate", fn := fun _ => fun
  | [d1, d2, d3, d4] => { results := [.lit (.bool false)], args := [d1, d2, d3, d4] }
  | _ => none }
def ReleasePrivateWrongFalsely : Prop := releasePrivateRow.holds Tryd.pinned (OpenSpec.ofChange releasePrivateWrong)

/-- 'bikesharelaw56.ReleaseDisturbs': WHATEVER THE INPUT: true; the input reads as it did. -/
def releaseDisturbsSpec : ChangeSpec := { name := "releaseDisturbs", fn := fun _ => fun
  | [d1, d2, d3] => { results := [.lit (.bool true)], args := [d1, d2, d3] }
  | _ => none }
def releaseDisturbsRow : OpenClaim := { program := "ytdkcclngionihaadoor", sum := "09e1fc8bd10e61bf2aefa585733ff45abfcb3148f85cdf3e875e8919eb7fed27", func := "bikeshare/bikesharelaw56.ReleaseDisturbs", spec := "releaseDisturbs", unfollowed := true, recurses := true, named := ["bikeshare/noise.signs"], plainKeys := false, apart := false, laid := [("bikeshare/noise.signs", laid_bikeshare_noise_signs)] }
def ReleaseDisturbsSaid : Prop := releaseDisturbsRow.holds Tryd.pinned (OpenSpec.ofChange releaseDisturbsSpec)

/-- ITS FALSE NEIGHBOUR: 'it returns false'. Refute it at one input. -/
def releaseDisturbsWrong : ChangeSpec := { name := "releaseDisturbs", fn := fun _ => fun
  | [d1, d2, d3] => { results := [.lit (.bool false)], args := [d1, d2, d3] }
  | _ => none }
def ReleaseDisturbsWrongFalsely : Prop := releaseDisturbsRow.holds Tryd.pinned (OpenSpec.ofChange releaseDisturbsWrong)

/-- 'bikesharelaw56.ReleaseNear': WHATEVER THE INPUT: true; the input reads as it did. -/
def releaseNearSpec : ChangeSpec := { name := "releaseNear", fn := fun _ => fun
  | [d1, d2, d3] => { results := [.lit (.bool true)], args := [d1, d2, d3] }
  | _ => none }
def releaseNearRow : OpenClaim := { program := "ytdkcclngionihaadoor", sum := "09e1fc8bd10e61bf2aefa585733ff45abfcb3148f85cdf3e875e8919eb7fed27", func := "bikeshare/bikesharelaw56.ReleaseNear", spec := "releaseNear", unfollowed := true, recurses := true, named := ["bikeshare/noise.signs"], plainKeys := false, apart := false, laid := [("bikeshare/noise.signs", laid_bikeshare_noise_signs)] }
def ReleaseNearSaid : Prop := releaseNearRow.holds Tryd.pinned (OpenSpec.ofChange releaseNearSpec)

/-- ITS FALSE NEIGHBOUR: 'it returns false'. Refute it at one input. -/
def releaseNearWrong : ChangeSpec := { name := "releaseNear", fn := fun _ => fun
  | [d1, d2, d3] => { results := [.lit (.bool false)], args := [d1, d2, d3] }
  | _ => none }
def ReleaseNearWrongFalsely : Prop := releaseNearRow.holds Tryd.pinned (OpenSpec.ofChange releaseNearWrong)

/- THE SECOND FORM. 'bulk': how many values and letters a reading holds, each counted each time it is reached (what is shared counts as often as it is met; a slice's spare places count too). A statement '..UptoSaid' is the law's where the arguments, and the package variables that the reading takes, are together of bulk at most 1048576: NARROWER than '..Said'. Prove '..Said' where nothing that the law and all that it calls make is longer than what came in: it says more and counts as full. Else prove '..UptoSaid'. A law counts once. -/
mutual
def uptoBulk {H : Type} : DataW H → Nat
  | .lit (.string bytes) => bytes.length + 1
  | .lit _ => 1
  | .nil => 1
  | .ptr d => uptoBulk d + 1
  | .slice elems spare => uptoBulkAll elems + uptoBulkAll spare + 1
  | .agg parts => uptoBulkAll parts + 1
  | .iface _ d => uptoBulk d + 1
  | .map entries => uptoBulkEntries entries + 1
  | .held _ => 1
def uptoBulkAll {H : Type} : List (DataW H) → Nat
  | [] => 0
  | d :: r => uptoBulk d + uptoBulkAll r
def uptoBulkEntries {H : Type} : List (Lit × DataW H) → Nat
  | [] => 0
  | x :: r => uptoBulkEntry x + uptoBulkEntries r
def uptoBulkEntry {H : Type} : Lit × DataW H → Nat
  | (.string bytes, d) => bytes.length + uptoBulk d + 1
  | (_, d) => uptoBulk d + 1
 end
def uptoSmall : (H : Type) → List (DataW H) → Bool := fun _ ds => decide (uptoBulkAll ds ≤ 1048576)
def OpenSpec.upto (s : _root_.Go.ChangeSpec) : _root_.Go.OpenSpec := { _root_.Go.OpenSpec.ofChange s with cond := some uptoSmall }

/-- 'bikesharelaw56.ReleaseHides', WHERE WHAT IT READS IS OF BULK AT MOST 1048576: true; the input reads as it did. -/
def releaseHidesUptoRow : OpenClaim := { program := "ytdkcclngionihaadoor", sum := "09e1fc8bd10e61bf2aefa585733ff45abfcb3148f85cdf3e875e8919eb7fed27", func := "bikeshare/bikesharelaw56.ReleaseHides", spec := "releaseHides", unfollowed := true, recurses := true, named := ["bikeshare/noise.signs"], plainKeys := false, apart := false, laid := [("bikeshare/noise.signs", laid_bikeshare_noise_signs)], narrowed := true }
def ReleaseHidesUptoSaid : Prop := releaseHidesUptoRow.holds Tryd.pinned (OpenSpec.upto releaseHidesSpec)

/-- 'bikesharelaw56.ReleaseChances', WHERE WHAT IT READS IS OF BULK AT MOST 1048576: true; the input reads as it did. -/
def releaseChancesUptoRow : OpenClaim := { program := "ytdkcclngionihaadoor", sum := "09e1fc8bd10e61bf2aefa585733ff45abfcb3148f85cdf3e875e8919eb7fed27", func := "bikeshare/bikesharelaw56.ReleaseChances", spec := "releaseChances", unfollowed := true, recurses := true, named := ["bikeshare/noise.signs"], plainKeys := false, apart := false, laid := [("bikeshare/noise.signs", laid_bikeshare_noise_signs)], narrowed := true }
def ReleaseChancesUptoSaid : Prop := releaseChancesUptoRow.holds Tryd.pinned (OpenSpec.upto releaseChancesSpec)

/-- 'bikesharelaw56.ReleaseCompares', WHERE WHAT IT READS IS OF BULK AT MOST 1048576: true; the input reads as it did. -/
def releaseComparesUptoRow : OpenClaim := { program := "ytdkcclngionihaadoor", sum := "09e1fc8bd10e61bf2aefa585733ff45abfcb3148f85cdf3e875e8919eb7fed27", func := "bikeshare/bikesharelaw56.ReleaseCompares", spec := "releaseCompares", unfollowed := true, recurses := true, named := ["bikeshare/noise.signs"], plainKeys := false, apart := false, laid := [("bikeshare/noise.signs", laid_bikeshare_noise_signs)], narrowed := true }
def ReleaseComparesUptoSaid : Prop := releaseComparesUptoRow.holds Tryd.pinned (OpenSpec.upto releaseComparesSpec)

/-- 'bikesharelaw56.ReleaseHidden', WHERE WHAT IT READS IS OF BULK AT MOST 1048576: true; the input reads as it did. -/
def releaseHiddenUptoRow : OpenClaim := { program := "ytdkcclngionihaadoor", sum := "09e1fc8bd10e61bf2aefa585733ff45abfcb3148f85cdf3e875e8919eb7fed27", func := "bikeshare/bikesharelaw56.ReleaseHidden", spec := "releaseHidden", unfollowed := true, recurses := true, named := ["bikeshare/noise.signs"], plainKeys := false, apart := false, laid := [("bikeshare/noise.signs", laid_bikeshare_noise_signs)], narrowed := true }
def ReleaseHiddenUptoSaid : Prop := releaseHiddenUptoRow.holds Tryd.pinned (OpenSpec.upto releaseHiddenSpec)

/-- 'bikesharelaw56.ReleasePrivate', WHERE WHAT IT READS IS OF BULK AT MOST 1048576: true; the input reads as it did. -/
def releasePrivateUptoRow : OpenClaim := { program := "ytdkcclngionihaadoor", sum := "09e1fc8bd10e61bf2aefa585733ff45abfcb3148f85cdf3e875e8919eb7fed27", func := "bikeshare/bikesharelaw56.ReleasePrivate", spec := "releasePrivate", unfollowed := true, recurses := true, named := ["bikeshare/noise.signs"], plainKeys := false, apart := false, laid := [("bikeshare/noise.signs", laid_bikeshare_noise_signs)], narrowed := true }
def ReleasePrivateUptoSaid : Prop := releasePrivateUptoRow.holds Tryd.pinned (OpenSpec.upto releasePrivateSpec)

/-- 'bikesharelaw56.ReleaseDisturbs', WHERE WHAT IT READS IS OF BULK AT MOST 1048576: true; the input reads as it did. -/
def releaseDisturbsUptoRow : OpenClaim := { program := "ytdkcclngionihaadoor", sum := "09e1fc8bd10e61bf2aefa585733ff45abfcb3148f85cdf3e875e8919eb7fed27", func := "bikeshare/bikesharelaw56.ReleaseDisturbs", spec := "releaseDisturbs", unfollowed := true, recurses := true, named := ["bikeshare/noise.signs"], plainKeys := false, apart := false, laid := [("bikeshare/noise.signs", laid_bikeshare_noise_signs)], narrowed := true }
def ReleaseDisturbsUptoSaid : Prop := releaseDisturbsUptoRow.holds Tryd.pinned (OpenSpec.upto releaseDisturbsSpec)

/-- 'bikesharelaw56.ReleaseNear', WHERE WHAT IT READS IS OF BULK AT MOST 1048576: true; the input reads as it did. -/
def releaseNearUptoRow : OpenClaim := { program := "ytdkcclngionihaadoor", sum := "09e1fc8bd10e61bf2aefa585733ff45abfcb3148f85cdf3e875e8919eb7fed27", func := "bikeshare/bikesharelaw56.ReleaseNear", spec := "releaseNear", unfollowed := true, recurses := true, named := ["bikeshare/noise.signs"], plainKeys := false, apart := false, laid := [("bikeshare/noise.signs", laid_bikeshare_noise_signs)], narrowed := true }
def ReleaseNearUptoSaid : Prop := releaseNearUptoRow.holds Tryd.pinned (OpenSpec.upto releaseNearSpec)

end Rows
end Go.Proofs.YtdkcclngionihaaDoor
