/-
  NARROWER THAN 'FOR EVERY INPUT', by the rows' own cells (each row's printed sentence says how): NoiseChecks: laid · NoiseAts: laid · NoiseExcesses: laid · NoiseAdds: laid · NoiseExact: laid · NoiseCounts: laid · NoiseMirrors: laid · NoiseMakes: laid · NoiseKeeps: laid.
  DERIVED. THE GIVEN ROWS OF THIS SEAT. 9 by the template 'for every input the law returns true; each argument reads behind the call as it read before'; 0 by the template 'total and deterministic' (their statements: YtmobdlddfoaocaaDoorTotals.lean).
  GIVEN WITH THE SEED: the statements are not yours to turn. If you find one false, say at which input.
  Laid BY PROGRAM, IN A SANDBOX (cutbox-rows.mjs): the forced cells as the released guide's own fill.sh prints them over the translation 6838fd5fc2a9d301… (all of the seat's roots in one cut). By AI agents, Wed Nov 11 2026. No macro, syntax, notation, axiom, sorry.
-/
import Derived.Test.YtmobdlddfoaocaaDoorChecked
import GoSem.Claim
import GoSem.ClaimJoined
import GoSem.ClaimMapViews
import Derived.JoinedTies
import Derived.KernelRfl
namespace Go.Proofs.YtmobdlddfoaocaaDoor
/- THE CELL 'sum', in the pinned program and in every row, IS THE sha256 OF THE DUMP (.gsa) THAT YtmobdlddfoaocaaDoorProg.lean LOADS. Nothing in Lean hashes anything: it is a label: what it is worth is what the hold of that sum in a sandbox is worth. -/
noncomputable def Tryd.pinned : Pinned := { name := "ytmobdlddfoaocaadoor", sum := "6838fd5fc2a9d30182d6c42a51a550cb5e9de150f5f9d59ebe5578d6fb55ae38", checked := Tryd.checked }
namespace Rows
def none {H : Type} : Left H := { results := [], args := [] }

/- WHAT THE LISTED PACKAGE-LEVEL VARIABLES READ AS WHEN THE CALL BEGINS. Each datum BY PROGRAM (the guide's laid-datum.mjs) off the statement by which the dump's own 'gosem.cut.vars' lays the variable. In a bare row this is a premise. The card (YtmobdlddfoaocaaDoorCards.lean) ties it to the program's text. -/
def laid_bikeshare_noise_signs {H : Type} : DataW H := .agg [.lit (.int .i64 (-1)), .lit (.int .i64 1)]

/-- 'bikesharelaw53.NoiseChecks': WHATEVER THE INPUT: true; the input reads as it did. -/
def noiseChecksSpec : ChangeSpec := { name := "noiseChecks", fn := fun _ => fun
  | [d1, d2] => { results := [.lit (.bool true)], args := [d1, d2] }
  | _ => none }
def noiseChecksRow : OpenClaim := { program := "ytmobdlddfoaocaadoor", sum := "6838fd5fc2a9d30182d6c42a51a550cb5e9de150f5f9d59ebe5578d6fb55ae38", func := "bikeshare/bikesharelaw53.NoiseChecks", spec := "noiseChecks", named := ["bikeshare/noise.signs"], apart := false, laid := [("bikeshare/noise.signs", laid_bikeshare_noise_signs)] }
def NoiseChecksSaid : Prop := noiseChecksRow.holds Tryd.pinned (OpenSpec.ofChange noiseChecksSpec)

/-- ITS FALSE NEIGHBOUR: 'it returns false'. Refute it at one input. -/
def noiseChecksWrong : ChangeSpec := { name := "noiseChecks", fn := fun _ => fun
  | [d1, d2] => { results := [.lit (.bool false)], args := [d1, d2] }
  | _ => none }
def NoiseChecksWrongFalsely : Prop := noiseChecksRow.holds Tryd.pinned (OpenSpec.ofChange noiseChecksWrong)

/-- 'bikesharelaw53.NoiseAts': WHATEVER THE INPUT: true; the input reads as it did. -/
def noiseAtsSpec : ChangeSpec := { name := "noiseAts", fn := fun _ => fun
  | [d1, d2, d3] => { results := [.lit (.bool true)], args := [d1, d2, d3] }
  | _ => none }
def noiseAtsRow : OpenClaim := { program := "ytmobdlddfoaocaadoor", sum := "6838fd5fc2a9d30182d6c42a51a550cb5e9de150f5f9d59ebe5578d6fb55ae38", func := "bikeshare/bikesharelaw53.NoiseAts", spec := "noiseAts", named := ["bikeshare/noise.signs"], apart := false, laid := [("bikeshare/noise.signs", laid_bikeshare_noise_signs)] }
def NoiseAtsSaid : Prop := noiseAtsRow.holds Tryd.pinned (OpenSpec.ofChange noiseAtsSpec)

/-- ITS FALSE NEIGHBOUR: 'it returns false'. Refute it at one input. -/
def noiseAtsWrong : ChangeSpec := { name := "noiseAts", fn := fun _ => fun
  | [d1, d2, d3] => { results := [.lit (.bool false)], args := [d1, d2, d3] }
  | _ => none }
def NoiseAtsWrongFalsely : Prop := noiseAtsRow.holds Tryd.pinned (OpenSpec.ofChange noiseAtsWrong)

/-- 'bikesharelaw53.NoiseExcesses': WHATEVER THE INPUT: true; the input reads as it did. -/
def noiseExcessesSpec : ChangeSpec := { name := "noiseExcesses", fn := fun _ => fun
  | [d1, d2] => { results := [.lit (.bool true)], args := [d1, d2] }
  | _ => none }
def noiseExcessesRow : OpenClaim := { program := "ytmobdlddfoaocaadoor", sum := "6838fd5fc2a9d30182d6c42a51a550cb5e9de150f5f9d59ebe5578d6fb55ae38", func := "bikeshare/bikesharelaw53.NoiseExcesses", spec := "noiseExcesses", named := ["bikeshare/noise.signs"], apart := false, laid := [("bikeshare/noise.signs", laid_bikeshare_noise_signs)] }
def NoiseExcessesSaid : Prop := noiseExcessesRow.holds Tryd.pinned (OpenSpec.ofChange noiseExcessesSpec)

/-- ITS FALSE NEIGHBOUR: 'it returns false'. Refute it at one input. -/
def noiseExcessesWrong : ChangeSpec := { name := "noiseExcesses", fn := fun _ => fun
  | [d1, d2] => { results := [.lit (.bool false)], args := [d1, d2] }
  | _ => none }
def NoiseExcessesWrongFalsely : Prop := noiseExcessesRow.holds Tryd.pinned (OpenSpec.ofChange noiseExcessesWrong)

/-- 'bikesharelaw53.NoiseAdds': WHATEVER THE INPUT: true; the input reads as it did. -/
def noiseAddsSpec : ChangeSpec := { name := "noiseAdds", fn := fun _ => fun
  | [d1, d2, d3] => { results := [.lit (.bool true)], args := [d1, d2, d3] }
  | _ => none }
def noiseAddsRow : OpenClaim := { program := "ytmobdlddfoaocaadoor", sum := "6838fd5fc2a9d30182d6c42a51a550cb5e9de150f5f9d59ebe5578d6fb55ae38", func := "bikeshare/bikesharelaw53.NoiseAdds", spec := "noiseAdds", named := ["bikeshare/noise.signs"], apart := false, laid := [("bikeshare/noise.signs", laid_bikeshare_noise_signs)] }
def NoiseAddsSaid : Prop := noiseAddsRow.holds Tryd.pinned (OpenSpec.ofChange noiseAddsSpec)

/-- ITS FALSE NEIGHBOUR: 'it returns false'. Refute it at one input. -/
def noiseAddsWrong : ChangeSpec := { name := "noiseAdds", fn := fun _ => fun
  | [d1, d2, d3] => { results := [.lit (.bool false)], args := [d1, d2, d3] }
  | _ => none }
def NoiseAddsWrongFalsely : Prop := noiseAddsRow.holds Tryd.pinned (OpenSpec.ofChange noiseAddsWrong)

/-- 'bikesharelaw53.NoiseExact': WHATEVER THE INPUT: true; the input reads as it did. -/
def noiseExactSpec : ChangeSpec := { name := "noiseExact", fn := fun _ => fun
  | [d1, d2, d3] => { results := [.lit (.bool true)], args := [d1, d2, d3] }
  | _ => none }
def noiseExactRow : OpenClaim := { program := "ytmobdlddfoaocaadoor", sum := "6838fd5fc2a9d30182d6c42a51a550cb5e9de150f5f9d59ebe5578d6fb55ae38", func := "bikeshare/bikesharelaw53.NoiseExact", spec := "noiseExact", named := ["bikeshare/noise.signs"], apart := false, laid := [("bikeshare/noise.signs", laid_bikeshare_noise_signs)] }
def NoiseExactSaid : Prop := noiseExactRow.holds Tryd.pinned (OpenSpec.ofChange noiseExactSpec)

/-- ITS FALSE NEIGHBOUR: 'it returns false'. Refute it at one input. -/
def noiseExactWrong : ChangeSpec := { name := "noiseExact", fn := fun _ => fun
  | [d1, d2, d3] => { results := [.lit (.bool false)], args := [d1, d2, d3] }
  | _ => none }
def NoiseExactWrongFalsely : Prop := noiseExactRow.holds Tryd.pinned (OpenSpec.ofChange noiseExactWrong)

/-- 'bikesharelaw53.NoiseCounts': WHATEVER THE INPUT: true; the input reads as it did. -/
def noiseCountsSpec : ChangeSpec := { name := "noiseCounts", fn := fun _ => fun
  | [d] => { results := [.lit (.bool true)], args := [d] }
  | _ => none }
def noiseCountsRow : OpenClaim := { program := "ytmobdlddfoaocaadoor", sum := "6838fd5fc2a9d30182d6c42a51a550cb5e9de150f5f9d59ebe5578d6fb55ae38", func := "bikeshare/bikesharelaw53.NoiseCounts", spec := "noiseCounts", named := ["bikeshare/noise.signs"], apart := false, laid := [("bikeshare/noise.signs", laid_bikeshare_noise_signs)] }
def NoiseCountsSaid : Prop := noiseCountsRow.holds Tryd.pinned (OpenSpec.ofChange noiseCountsSpec)

/-- ITS FALSE NEIGHBOUR: 'it returns false'. Refute it at one input. -/
def noiseCountsWrong : ChangeSpec := { name := "noiseCounts", fn := fun _ => fun
  | [d] => { results := [.lit (.bool false)], args := [d] }
  | _ => none }
def NoiseCountsWrongFalsely : Prop := noiseCountsRow.holds Tryd.pinned (OpenSpec.ofChange noiseCountsWrong)

/-- 'bikesharelaw53.NoiseMirrors': WHATEVER THE INPUT: true; the input reads as it did. -/
def noiseMirrorsSpec : ChangeSpec := { name := "noiseMirrors", fn := fun _ => fun
  | [d1, d2, d3] => { results := [.lit (.bool true)], args := [d1, d2, d3] }
  | _ => none }
def noiseMirrorsRow : OpenClaim := { program := "ytmobdlddfoaocaadoor", sum := "6838fd5fc2a9d30182d6c42a51a550cb5e9de150f5f9d59ebe5578d6fb55ae38", func := "bikeshare/bikesharelaw53.NoiseMirrors", spec := "noiseMirrors", named := ["bikeshare/noise.signs"], apart := false, laid := [("bikeshare/noise.signs", laid_bikeshare_noise_signs)] }
def NoiseMirrorsSaid : Prop := noiseMirrorsRow.holds Tryd.pinned (OpenSpec.ofChange noiseMirrorsSpec)

/-- ITS FALSE NEIGHBOUR: 'it returns false'. Refute it at one input. -/
def noiseMirrorsWrong : ChangeSpec := { name := "noiseMirrors", fn := fun _ => fun
  | [d1, d2, d3] => { results := [.lit (.bool false)], args := [d1, d2, d3] }
  | _ => none }
def NoiseMirrorsWrongFalsely : Prop := noiseMirrorsRow.holds Tryd.pinned (OpenSpec.ofChange noiseMirrorsWrong)

/-- 'bikesharelaw53.NoiseMakes': WHATEVER THE INPUT: true; the input reads as it did. -/
def noiseMakesSpec : ChangeSpec := { name := "noiseMakes", fn := fun _ => fun
  | [d1, d2] => { results := [.lit (.bool true)], args := [d1, d2] }
  | _ => none }
def noiseMakesRow : OpenClaim := { program := "ytmobdlddfoaocaadoor", sum := "6838fd5fc2a9d30182d6c42a51a550cb5e9de150f5f9d59ebe5578d6fb55ae38", func := "bikeshare/bikesharelaw53.NoiseMakes", spec := "noiseMakes", named := ["bikeshare/noise.signs"], apart := false, laid := [("bikeshare/noise.signs", laid_bikeshare_noise_signs)] }
def NoiseMakesSaid : Prop := noiseMakesRow.holds Tryd.pinned (OpenSpec.ofChange noiseMakesSpec)

/-- ITS FALSE NEIGHBOUR: 'it returns false'. Refute it at one input. -/
def noiseMakesWrong : ChangeSpec := { name := "noiseMakes", fn := fun _ => fun
  | [d1, d2] => { results := [.lit (.bool false)], args := [d1, d2] }
  | _ => none }
def NoiseMakesWrongFalsely : Prop := noiseMakesRow.holds Tryd.pinned (OpenSpec.ofChange noiseMakesWrong)

/-- 'bikesharelaw53.NoiseKeeps': WHATEVER THE INPUT: true; the input reads as it did. -/
def noiseKeepsSpec : ChangeSpec := { name := "noiseKeeps", fn := fun _ => fun
  | [d1, d2, d3] => { results := [.lit (.bool true)], args := [d1, d2, d3] }
  | _ => none }
def noiseKeepsRow : OpenClaim := { program := "ytmobdlddfoaocaadoor", sum := "6838fd5fc2a9d30182d6c42a51a550cb5e9de150f5f9d59ebe5578d6fb55ae38", func := "bikeshare/bikesharelaw53.NoiseKeeps", spec := "noiseKeeps", named := ["bikeshare/noise.signs"], apart := false, laid := [("bikeshare/noise.signs", laid_bikeshare_noise_signs)] }
def NoiseKeepsSaid : Prop := noiseKeepsRow.holds Tryd.pinned (OpenSpec.ofChange noiseKeepsSpec)

/-- ITS FALSE NEIGHBOUR: 'it returns false'. Refute it at one input. -/
def noiseKeepsWrong : ChangeSpec := { name := "noiseKeeps", fn := fun _ => fun
  | [d1, d2, d3] => { results := [.lit (.bool false)], args := [d1, d2, d3] }
  | _ => none }
def NoiseKeepsWrongFalsely : Prop := noiseKeepsRow.holds Tryd.pinned (OpenSpec.ofChange noiseKeepsWrong)

/- THE SECOND FORM. 'bulk': how many values and letters a reading holds, each counted each time it is reached (what is shared counts as often as it is met; a slice's spare places count too). A statement '..UptoSaid' is the law's where the arguments, and the package variables that the reading takes, are together of bulk at most 1048576: NARROWER than '..Said'. Prove '..Said' where nothing that the law and all that it calls make is longer than what came in: it says more and counts as full. Else prove '..UptoSaid'. A law counts once. -/
mutual
def uptoBulk {H : Type} : DataW H → Nat
  | .lit (.string bytes) => bytes.length + 1
  | .lit _ => 1
  | .nil => 1
  | .ptr d => uptoBulk d + 1
  | .slice elems spare => uptoBulkAll elems + uptoBulkAll spare + 1
  | .agg parts => uptoBulkAll parts + 1
  | .iface _ d => uptoBulk d + 1
  | .map entries => uptoBulkEntries entries + 1
  | .held _ => 1
def uptoBulkAll {H : Type} : List (DataW H) → Nat
  | [] => 0
  | d :: r => uptoBulk d + uptoBulkAll r
def uptoBulkEntries {H : Type} : List (Lit × DataW H) → Nat
  | [] => 0
  | x :: r => uptoBulkEntry x + uptoBulkEntries r
def uptoBulkEntry {H : Type} : Lit × DataW H → Nat
  | (.string bytes, d) => bytes.length + uptoBulk d + 1
  | (_, d) => uptoBulk d + 1
 end
def uptoSmall : (H : Type) → List (DataW H) → Bool := fun _ ds => decide (uptoBulkAll ds ≤ 1048576)
def OpenSpec.upto (s : _root_.Go.ChangeSpec) : _root_.Go.OpenSpec := { _root_.Go.OpenSpec.ofChange s with cond := some uptoSmall }

/-- 'bikesharelaw53.NoiseChecks', WHERE WHAT IT READS IS OF BULK AT MOST 1048576: true; the input reads as it did. -/
def noiseChecksUptoRow : OpenClaim := { program := "ytmobdlddfoaocaadoor", sum := "6838fd5fc2a9d30182d6c42a51a550cb5e9de150f5f9d59ebe5578d6fb55ae38", func := "bikeshare/bikesharelaw53.NoiseChecks", spec := "noiseChecks", named := ["bikeshare/noise.signs"], apart := false, laid := [("bikeshare/noise.signs", laid_bikeshare_noise_signs)], narrowed := true }
def NoiseChecksUptoSaid : Prop := noiseChecksUptoRow.holds Tryd.pinned (OpenSpec.upto noiseChecksSpec)

/-- 'bikesharelaw53.NoiseAts', WHERE WHAT IT READS IS OF BULK AT MOST 1048576: true; the input reads as it did. -/
def noiseAtsUptoRow : OpenClaim := { program := "ytmobdlddfoaocaadoor", sum := "6838fd5fc2a9d30182d6c42a51a550cb5e9de150f5f9d59ebe5578d6fb55ae38", func := "bikeshare/bikesharelaw53.NoiseAts", spec := "noiseAts", named := ["bikeshare/noise.signs"], apart := false, laid := [("bikeshare/noise.signs", laid_bikeshare_noise_signs)], narrowed := true }
def NoiseAtsUptoSaid : Prop := noiseAtsUptoRow.holds Tryd.pinned (OpenSpec.upto noiseAtsSpec)

/-- 'bikesharelaw53.NoiseExcesses', WHERE WHAT IT READS IS OF BULK AT MOST 1048576: true; the input reads as it did. -/
def noiseExcessesUptoRow : OpenClaim := { program := "ytmobdlddfoaocaadoor", sum := "6838fd5fc2a9d30182d6c42a51a550cb5e9de150f5f9d59ebe5578d6fb55ae38", func := "bikeshare/bikesharelaw53.NoiseExcesses", spec := "noiseExcesses", named := ["bikeshare/noise.signs"], apart := false, laid := [("bikeshare/noise.signs", laid_bikeshare_noise_signs)], narrowed := true }
def NoiseExcessesUptoSaid : Prop := noiseExcessesUptoRow.holds Tryd.pinned (OpenSpec.upto noiseExcessesSpec)

/-- 'bikesharelaw53.NoiseAdds', WHERE WHAT IT READS IS OF BULK AT MOST 1048576: true; the input reads as it did. -/
def noiseAddsUptoRow : OpenClaim := { program := "ytmobdlddfoaocaadoor", sum := "6838fd5fc2a9d30182d6c42a51a550cb5e9de150f5f9d59ebe5578d6fb55ae38", func := "bikeshare/bikesharelaw53.NoiseAdds", spec := "noiseAdds", named := ["bikeshare/noise.signs"], apart := false, laid := [("bikeshare/noise.signs", laid_bikeshare_noise_signs)], narrowed := true }
def NoiseAddsUptoSaid : Prop := noiseAddsUptoRow.holds Tryd.pinned (OpenSpec.upto noiseAddsSpec)

/-- 'bikesharelaw53.NoiseExact', WHERE WHAT IT READS IS OF BULK AT MOST 1048576: true; the input reads as it did. -/
def noiseExactUptoRow : OpenClaim := { program := "ytmobdlddfoaocaadoor", sum := "6838fd5fc2a9d30182d6c42a51a550cb5e9de150f5f9d59ebe5578d6fb55ae38", func := "bikeshare/bikesharelaw53.NoiseExact", spec := "noiseExact", named := ["bikeshare/noise.signs"], apart := false, laid := [("bikeshare/noise.signs", laid_bikeshare_noise_signs)], narrowed := true }
def NoiseExactUptoSaid : Prop := noiseExactUptoRow.holds Tryd.pinned (OpenSpec.upto noiseExactSpec)

/-- 'bikesharelaw53.NoiseCounts', WHERE WHAT IT READS IS OF BULK AT MOST 1048576: true; the input reads as it did. -/
def noiseCountsUptoRow : OpenClaim := { program := "ytmobdlddfoaocaadoor", sum := "6838fd5fc2a9d30182d6c42a51a550cb5e9de150f5f9d59ebe5578d6fb55ae38", func := "bikeshare/bikesharelaw53.NoiseCounts", spec := "noiseCounts", named := ["bikeshare/noise.signs"], apart := false, laid := [("bikeshare/noise.signs", laid_bikeshare_noise_signs)], narrowed := true }
def NoiseCountsUptoSaid : Prop := noiseCountsUptoRow.holds Tryd.pinned (OpenSpec.upto noiseCountsSpec)

/-- 'bikesharelaw53.NoiseMirrors', WHERE WHAT IT READS IS OF BULK AT MOST 1048576: true; the input reads as it did. -/
def noiseMirrorsUptoRow : OpenClaim := { program := "ytmobdlddfoaocaadoor", sum := "6838fd5fc2a9d30182d6c42a51a550cb5e9de150f5f9d59ebe5578d6fb55ae38", func := "bikeshare/bikesharelaw53.NoiseMirrors", spec := "noiseMirrors", named := ["bikeshare/noise.signs"], apart := false, laid := [("bikeshare/noise.signs", laid_bikeshare_noise_signs)], narrowed := true }
def NoiseMirrorsUptoSaid : Prop := noiseMirrorsUptoRow.holds Tryd.pinned (OpenSpec.upto noiseMirrorsSpec)

/-- 'bikesharelaw53.NoiseMakes', WHERE WHAT IT READS IS OF BULK AT MOST 1048576: true; the input reads as it did. -/
def noiseMakesUptoRow : OpenClaim := { program := "ytmobdlddfoaocaadoor", sum := "6838fd5fc2a9d30182d6c42a51a550cb5e9de150f5f9d59ebe5578d6fb55ae38", func := "bikeshare/bikesharelaw53.NoiseMakes", spec := "noiseMakes", named := ["bikeshare/noise.signs"], apart := false, laid := [("bikeshare/noise.signs", laid_bikeshare_noise_signs)], narrowed := true }
def NoiseMakesUptoSaid : Prop := noiseMakesUptoRow.holds Tryd.pinned (OpenSpec.upto noiseMakesSpec)

/-- 'bikesharelaw53.NoiseKeeps', WHERE WHAT IT READS IS OF BULK AT MOST 1048576: true; the input reads as it did. -/
def noiseKeepsUptoRow : OpenClaim := { program := "ytmobdlddfoaocaadoor", sum := "6838fd5fc2a9d30182d6c42a51a550cb5e9de150f5f9d59ebe5578d6fb55ae38", func := "bikeshare/bikesharelaw53.NoiseKeeps", spec := "noiseKeeps", named := ["bikeshare/noise.signs"], apart := false, laid := [("bikeshare/noise.signs", laid_bikeshare_noise_signs)], narrowed := true }
def NoiseKeepsUptoSaid : Prop := noiseKeepsUptoRow.holds Tryd.pinned (OpenSpec.upto noiseKeepsSpec)

end Rows
end Go.Proofs.YtmobdlddfoaocaaDoor
