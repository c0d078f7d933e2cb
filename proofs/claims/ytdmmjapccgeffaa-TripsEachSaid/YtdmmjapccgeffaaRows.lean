/-
  No cell of these rows narrows 'for every input' (looked for: loops, veiled, ifaces, maps, wideKeys, modest, calm, conditions, laid).
  DERIVED. THE GIVEN ROWS OF THIS SEAT. 8 by the template 'for every input the law returns true; each argument reads behind the call as it read before'; 0 by the template 'total and deterministic' (their statements: YtdmmjapccgeffaaTotals.lean).
  GIVEN WITH THE SEED: the statements are not yours to turn. If you find one false, say at which input.
  Laid BY PROGRAM, IN A SANDBOX (cutbox-rows.mjs): the forced cells as the released guide's own fill.sh prints them over the translation 8d07998258092f3f… (all of the seat's roots in one cut). By AI agents, Wed Nov 11 2026. No macro, syntax, notation, axiom, sorry.
-/
import Derived.Test.YtdmmjapccgeffaaChecked
import GoSem.Claim
import GoSem.ClaimJoined
import GoSem.ClaimMapViews
import Derived.JoinedTies
import Derived.KernelRfl
namespace Go.Proofs.Ytdmmjapccgeffaa
/- THE CELL 'sum', in the pinned program and in every row, IS THE sha256 OF THE DUMP (.gsa) THAT YtdmmjapccgeffaaProg.lean LOADS. Nothing in Lean hashes anything: it is a label: what it is worth is what the hold of that sum in a sandbox is worth. -/
noncomputable def Try.pinned : Pinned := { name := "ytdmmjapccgeffaa", sum := "8d07998258092f3f299658579274f1593a13ab514616cb40409c34c08929cf50", checked := Try.checked }
namespace Rows
def none {H : Type} : Left H := { results := [], args := [] }

/-- 'bikesharelaw51.TripsEach': WHATEVER THE INPUT: true; the input reads as it did. -/
def tripsEachSpec : ChangeSpec := { name := "tripsEach", fn := fun _ => fun
  | [d1, d2] => { results := [.lit (.bool true)], args := [d1, d2] }
  | _ => none }
def tripsEachRow : OpenClaim := { program := "ytdmmjapccgeffaa", sum := "8d07998258092f3f299658579274f1593a13ab514616cb40409c34c08929cf50", func := "bikeshare/bikesharelaw51.TripsEach", spec := "tripsEach", unfollowed := true, recurses := true, plainKeys := false, apart := false }
def TripsEachSaid : Prop := tripsEachRow.holds Try.pinned (OpenSpec.ofChange tripsEachSpec)

/-- ITS FALSE NEIGHBOUR: 'it returns false'. Refute it at one input. -/
def tripsEachWrong : ChangeSpec := { name := "tripsEach", fn := fun _ => fun
  | [d1, d2] => { results := [.lit (.bool false)], args := [d1, d2] }
  | _ => none }
def TripsEachWrongFalsely : Prop := tripsEachRow.holds Try.pinned (OpenSpec.ofChange tripsEachWrong)

/-- 'bikesharelaw51.TripsZones': WHATEVER THE INPUT: true; the input reads as it did. -/
def tripsZonesSpec : ChangeSpec := { name := "tripsZones", fn := fun _ => fun
  | [d1, d2, d3] => { results := [.lit (.bool true)], args := [d1, d2, d3] }
  | _ => none }
def tripsZonesRow : OpenClaim := { program := "ytdmmjapccgeffaa", sum := "8d07998258092f3f299658579274f1593a13ab514616cb40409c34c08929cf50", func := "bikeshare/bikesharelaw51.TripsZones", spec := "tripsZones", unfollowed := true, recurses := true, plainKeys := false, apart := false }
def TripsZonesSaid : Prop := tripsZonesRow.holds Try.pinned (OpenSpec.ofChange tripsZonesSpec)

/-- ITS FALSE NEIGHBOUR: 'it returns false'. Refute it at one input. -/
def tripsZonesWrong : ChangeSpec := { name := "tripsZones", fn := fun _ => fun
  | [d1, d2, d3] => { results := [.lit (.bool false)], args := [d1, d2, d3] }
  | _ => none }
def TripsZonesWrongFalsely : Prop := tripsZonesRow.holds Try.pinned (OpenSpec.ofChange tripsZonesWrong)

/-- 'bikesharelaw51.TripsTables': WHATEVER THE INPUT: true; the input reads as it did. -/
def tripsTablesSpec : ChangeSpec := { name := "tripsTables", fn := fun _ => fun
  | [d] => { results := [.lit (.bool true)], args := [d] }
  | _ => none }
def tripsTablesRow : OpenClaim := { program := "ytdmmjapccgeffaa", sum := "8d07998258092f3f299658579274f1593a13ab514616cb40409c34c08929cf50", func := "bikeshare/bikesharelaw51.TripsTables", spec := "tripsTables", unfollowed := true, recurses := true, plainKeys := false, apart := false }
def TripsTablesSaid : Prop := tripsTablesRow.holds Try.pinned (OpenSpec.ofChange tripsTablesSpec)

/-- ITS FALSE NEIGHBOUR: 'it returns false'. Refute it at one input. -/
def tripsTablesWrong : ChangeSpec := { name := "tripsTables", fn := fun _ => fun
  | [d] => { results := [.lit (.bool false)], args := [d] }
  | _ => none }
def TripsTablesWrongFalsely : Prop := tripsTablesRow.holds Try.pinned (OpenSpec.ofChange tripsTablesWrong)

/-- 'bikesharelaw51.TripsApart': WHATEVER THE INPUT: true; the input reads as it did. -/
def tripsApartSpec : ChangeSpec := { name := "tripsApart", fn := fun _ => fun
  | [d1, d2, d3] => { results := [.lit (.bool true)], args := [d1, d2, d3] }
  | _ => none }
def tripsApartRow : OpenClaim := { program := "ytdmmjapccgeffaa", sum := "8d07998258092f3f299658579274f1593a13ab514616cb40409c34c08929cf50", func := "bikeshare/bikesharelaw51.TripsApart", spec := "tripsApart", unfollowed := true, recurses := true, plainKeys := false, apart := false }
def TripsApartSaid : Prop := tripsApartRow.holds Try.pinned (OpenSpec.ofChange tripsApartSpec)

/-- ITS FALSE NEIGHBOUR: 'it returns false'. Refute it at one input. -/
def tripsApartWrong : ChangeSpec := { name := "tripsApart", fn := fun _ => fun
  | [d1, d2, d3] => { results := [.lit (.bool false)], args := [d1, d2, d3] }
  | _ => none }
def TripsApartWrongFalsely : Prop := tripsApartRow.holds Try.pinned (OpenSpec.ofChange tripsApartWrong)

/-- 'bikesharelaw51.TripsBound': WHATEVER THE INPUT: true; the input reads as it did. -/
def tripsBoundSpec : ChangeSpec := { name := "tripsBound", fn := fun _ => fun
  | [d1, d2, d3] => { results := [.lit (.bool true)], args := [d1, d2, d3] }
  | _ => none }
def tripsBoundRow : OpenClaim := { program := "ytdmmjapccgeffaa", sum := "8d07998258092f3f299658579274f1593a13ab514616cb40409c34c08929cf50", func := "bikeshare/bikesharelaw51.TripsBound", spec := "tripsBound", unfollowed := true, recurses := true, plainKeys := false, apart := false }
def TripsBoundSaid : Prop := tripsBoundRow.holds Try.pinned (OpenSpec.ofChange tripsBoundSpec)

/-- ITS FALSE NEIGHBOUR: 'it returns false'. Refute it at one input. -/
def tripsBoundWrong : ChangeSpec := { name := "tripsBound", fn := fun _ => fun
  | [d1, d2, d3] => { results := [.lit (.bool false)], args := [d1, d2, d3] }
  | _ => none }
def TripsBoundWrongFalsely : Prop := tripsBoundRow.holds Try.pinned (OpenSpec.ofChange tripsBoundWrong)

/-- 'bikesharelaw51.TripsCounts': WHATEVER THE INPUT: true; the input reads as it did. -/
def tripsCountsSpec : ChangeSpec := { name := "tripsCounts", fn := fun _ => fun
  | [d] => { results := [.lit (.bool true)], args := [d] }
  | _ => none }
def tripsCountsRow : OpenClaim := { program := "ytdmmjapccgeffaa", sum := "8d07998258092f3f299658579274f1593a13ab514616cb40409c34c08929cf50", func := "bikeshare/bikesharelaw51.TripsCounts", spec := "tripsCounts", unfollowed := true, recurses := true, plainKeys := false, apart := false }
def TripsCountsSaid : Prop := tripsCountsRow.holds Try.pinned (OpenSpec.ofChange tripsCountsSpec)

/-- ITS FALSE NEIGHBOUR: 'it returns false'. Refute it at one input. -/
def tripsCountsWrong : ChangeSpec := { name := "tripsCounts", fn := fun _ => fun
  | [d] => { results := [.lit (.bool false)], args := [d] }
  | _ => none }
def TripsCountsWrongFalsely : Prop := tripsCountsRow.holds Try.pinned (OpenSpec.ofChange tripsCountsWrong)

/-- 'bikesharelaw51.TripsSorts': WHATEVER THE INPUT: true; the input reads as it did. -/
def tripsSortsSpec : ChangeSpec := { name := "tripsSorts", fn := fun _ => fun
  | [d] => { results := [.lit (.bool true)], args := [d] }
  | _ => none }
def tripsSortsRow : OpenClaim := { program := "ytdmmjapccgeffaa", sum := "8d07998258092f3f299658579274f1593a13ab514616cb40409c34c08929cf50", func := "bikeshare/bikesharelaw51.TripsSorts", spec := "tripsSorts", unfollowed := true, recurses := true, plainKeys := false, apart := false }
def TripsSortsSaid : Prop := tripsSortsRow.holds Try.pinned (OpenSpec.ofChange tripsSortsSpec)

/-- ITS FALSE NEIGHBOUR: 'it returns false'. Refute it at one input. -/
def tripsSortsWrong : ChangeSpec := { name := "tripsSorts", fn := fun _ => fun
  | [d] => { results := [.lit (.bool false)], args := [d] }
  | _ => none }
def TripsSortsWrongFalsely : Prop := tripsSortsRow.holds Try.pinned (OpenSpec.ofChange tripsSortsWrong)

/-- 'bikesharelaw51.TripsParts': WHATEVER THE INPUT: true; the input reads as it did. -/
def tripsPartsSpec : ChangeSpec := { name := "tripsParts", fn := fun _ => fun
  | [d1, d2] => { results := [.lit (.bool true)], args := [d1, d2] }
  | _ => none }
def tripsPartsRow : OpenClaim := { program := "ytdmmjapccgeffaa", sum := "8d07998258092f3f299658579274f1593a13ab514616cb40409c34c08929cf50", func := "bikeshare/bikesharelaw51.TripsParts", spec := "tripsParts", unfollowed := true, recurses := true, plainKeys := false, apart := false }
def TripsPartsSaid : Prop := tripsPartsRow.holds Try.pinned (OpenSpec.ofChange tripsPartsSpec)

/-- ITS FALSE NEIGHBOUR: 'it returns false'. Refute it at one input. -/
def tripsPartsWrong : ChangeSpec := { name := "tripsParts", fn := fun _ => fun
  | [d1, d2] => { results := [.lit (.bool false)], args := [d1, d2] }
  | _ => none }
def TripsPartsWrongFalsely : Prop := tripsPartsRow.holds Try.pinned (OpenSpec.ofChange tripsPartsWrong)

/- THE SECOND FORM. 'bulk': how many values and letters a reading holds, each counted each time it is reached (what is shared counts as often as it is met; a slice's spare places count too). A statement '..UptoSaid' is the law's where the arguments, and the package variables that the reading takes, are together of bulk at most 1048576: NARROWER than '..Said'. Prove '..Said' where nothing that the law and all that it calls make is longer than what came in: it says more and counts as full. Else prove '..UptoSaid'. A law counts once. -/
mutual
def uptoBulk {H : Type} : DataW H → Nat
  | .lit (.string bytes) => bytes.length + 1
  | .lit _ => 1
  | .nil => 1
  | .ptr d => uptoBulk d + 1
  | .slice elems spare => uptoBulkAll elems + uptoBulkAll spare + 1
  | .agg parts => uptoBulkAll parts + 1
  | .iface _ d => uptoBulk d + 1
  | .map entries => uptoBulkEntries entries + 1
  | .held _ => 1
def uptoBulkAll {H : Type} : List (DataW H) → Nat
  | [] => 0
  | d :: r => uptoBulk d + uptoBulkAll r
def uptoBulkEntries {H : Type} : List (Lit × DataW H) → Nat
  | [] => 0
  | x :: r => uptoBulkEntry x + uptoBulkEntries r
def uptoBulkEntry {H : Type} : Lit × DataW H → Nat
  | (.string bytes, d) => bytes.length + uptoBulk d + 1
  | (_, d) => uptoBulk d + 1
 end
def uptoSmall : (H : Type) → List (DataW H) → Bool := fun _ ds => decide (uptoBulkAll ds ≤ 1048576)
def OpenSpec.upto (s : _root_.Go.ChangeSpec) : _root_.Go.OpenSpec := { _root_.Go.OpenSpec.ofChange s with cond := some uptoSmall }

/-- 'bikesharelaw51.TripsEach', WHERE WHAT IT READS IS OF BULK AT MOST 1048576: true; the input reads as it did. -/
def tripsEachUptoRow : OpenClaim := { program := "ytdmmjapccgeffaa", sum := "8d07998258092f3f299658579274f1593a13ab514616cb40409c34c08929cf50", func := "bikeshare/bikesharelaw51.TripsEach", spec := "tripsEach", unfollowed := true, recurses := true, plainKeys := false, apart := false, narrowed := true }
def TripsEachUptoSaid : Prop := tripsEachUptoRow.holds Try.pinned (OpenSpec.upto tripsEachSpec)

/-- 'bikesharelaw51.TripsZones', WHERE WHAT IT READS IS OF BULK AT MOST 1048576: true; the input reads as it did. -/
def tripsZonesUptoRow : OpenClaim := { program := "ytdmmjapccgeffaa", sum := "8d07998258092f3f299658579274f1593a13ab514616cb40409c34c08929cf50", func := "bikeshare/bikesharelaw51.TripsZones", spec := "tripsZones", unfollowed := true, recurses := true, plainKeys := false, apart := false, narrowed := true }
def TripsZonesUptoSaid : Prop := tripsZonesUptoRow.holds Try.pinned (OpenSpec.upto tripsZonesSpec)

/-- 'bikesharelaw51.TripsTables', WHERE WHAT IT READS IS OF BULK AT MOST 1048576: true; the input reads as it did. -/
def tripsTablesUptoRow : OpenClaim := { program := "ytdmmjapccgeffaa", sum := "8d07998258092f3f299658579274f1593a13ab514616cb40409c34c08929cf50", func := "bikeshare/bikesharelaw51.TripsTables", spec := "tripsTables", unfollowed := true, recurses := true, plainKeys := false, apart := false, narrowed := true }
def TripsTablesUptoSaid : Prop := tripsTablesUptoRow.holds Try.pinned (OpenSpec.upto tripsTablesSpec)

/-- 'bikesharelaw51.TripsApart', WHERE WHAT IT READS IS OF BULK AT MOST 1048576: true; the input reads as it did. -/
def tripsApartUptoRow : OpenClaim := { program := "ytdmmjapccgeffaa", sum := "8d07998258092f3f299658579274f1593a13ab514616cb40409c34c08929cf50", func := "bikeshare/bikesharelaw51.TripsApart", spec := "tripsApart", unfollowed := true, recurses := true, plainKeys := false, apart := false, narrowed := true }
def TripsApartUptoSaid : Prop := tripsApartUptoRow.holds Try.pinned (OpenSpec.upto tripsApartSpec)

/-- 'bikesharelaw51.TripsBound', WHERE WHAT IT READS IS OF BULK AT MOST 1048576: true; the input reads as it did. -/
def tripsBoundUptoRow : OpenClaim := { program := "ytdmmjapccgeffaa", sum := "8d07998258092f3f299658579274f1593a13ab514616cb40409c34c08929cf50", func := "bikeshare/bikesharelaw51.TripsBound", spec := "tripsBound", unfollowed := true, recurses := true, plainKeys := false, apart := false, narrowed := true }
def TripsBoundUptoSaid : Prop := tripsBoundUptoRow.holds Try.pinned (OpenSpec.upto tripsBoundSpec)

/-- 'bikesharelaw51.TripsCounts', WHERE WHAT IT READS IS OF BULK AT MOST 1048576: true; the input reads as it did. -/
def tripsCountsUptoRow : OpenClaim := { program := "ytdmmjapccgeffaa", sum := "8d07998258092f3f299658579274f1593a13ab514616cb40409c34c08929cf50", func := "bikeshare/bikesharelaw51.TripsCounts", spec := "tripsCounts", unfollowed := true, recurses := true, plainKeys := false, apart := false, narrowed := true }
def TripsCountsUptoSaid : Prop := tripsCountsUptoRow.holds Try.pinned (OpenSpec.upto tripsCountsSpec)

/-- 'bikesharelaw51.TripsSorts', WHERE WHAT IT READS IS OF BULK AT MOST 1048576: true; the input reads as it did. -/
def tripsSortsUptoRow : OpenClaim := { program := "ytdmmjapccgeffaa", sum := "8d07998258092f3f299658579274f1593a13ab514616cb40409c34c08929cf50", func := "bikeshare/bikesharelaw51.TripsSorts", spec := "tripsSorts", unfollowed := true, recurses := true, plainKeys := false, apart := false, narrowed := true }
def TripsSortsUptoSaid : Prop := tripsSortsUptoRow.holds Try.pinned (OpenSpec.upto tripsSortsSpec)

/-- 'bikesharelaw51.TripsParts', WHERE WHAT IT READS IS OF BULK AT MOST 1048576: true; the input reads as it did. -/
def tripsPartsUptoRow : OpenClaim := { program := "ytdmmjapccgeffaa", sum := "8d07998258092f3f299658579274f1593a13ab514616cb40409c34c08929cf50", func := "bikeshare/bikesharelaw51.TripsParts", spec := "tripsParts", unfollowed := true, recurses := true, plainKeys := false, apart := false, narrowed := true }
def TripsPartsUptoSaid : Prop := tripsPartsUptoRow.holds Try.pinned (OpenSpec.upto tripsPartsSpec)

end Rows
end Go.Proofs.Ytdmmjapccgeffaa
