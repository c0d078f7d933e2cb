/-
  No cell of these rows narrows 'for every input' (looked for: loops, veiled, ifaces, maps, wideKeys, modest, calm, conditions, laid).
  DERIVED. THE GIVEN ROWS OF THIS SEAT. 9 by the template 'for every input the law returns true; each argument reads behind the call as it read before'; 0 by the template 'total and deterministic' (their statements: YtcpfogbjbinjcaaTotals.lean).
  GIVEN WITH THE SEED: the statements are not yours to turn. If you find one false, say at which input.
  Laid BY PROGRAM, IN A SANDBOX (cutbox-rows.mjs): the forced cells as the released guide's own fill.sh prints them over the translation 43793b34030595f0… (all of the seat's roots in one cut). By AI agents, Wed Nov 11 2026. No macro, syntax, notation, axiom, sorry.
-/
import Derived.Test.YtcpfogbjbinjcaaChecked
import GoSem.Claim
import GoSem.ClaimJoined
import GoSem.ClaimMapViews
import Derived.JoinedTies
import Derived.KernelRfl
namespace Go.Proofs.Ytcpfogbjbinjcaa
/- THE CELL 'sum', in the pinned program and in every row, IS THE sha256 OF THE DUMP (.gsa) THAT YtcpfogbjbinjcaaProg.lean LOADS. Nothing in Lean hashes anything: it is a label: what it is worth is what the hold of that sum in a sandbox is worth. -/
noncomputable def Try.pinned : Pinned := { name := "ytcpfogbjbinjcaa", sum := "43793b34030595f0e9b8c8cff92ecafed856b2e02fdfece6d3ff746c6ae955fa", checked := Try.checked }
namespace Rows
def none {H : Type} : Left H := { results := [], args := [] }

/-- 'bikesharelaw19.GossipAdds': WHATEVER THE INPUT: true; the input reads as it did. -/
def gossipAddsSpec : ChangeSpec := { name := "gossipAdds", fn := fun _ => fun
  | [d1, d2, d3] => { results := [.lit (.bool true)], args := [d1, d2, d3] }
  | _ => none }
def gossipAddsRow : OpenClaim := { program := "ytcpfogbjbinjcaa", sum := "43793b34030595f0e9b8c8cff92ecafed856b2e02fdfece6d3ff746c6ae955fa", func := "bikeshare/bikesharelaw19.GossipAdds", spec := "gossipAdds", unfollowed := true, recurses := true, plainKeys := false, apart := false }
def GossipAddsSaid : Prop := gossipAddsRow.holds Try.pinned (OpenSpec.ofChange gossipAddsSpec)

/-- ITS FALSE NEIGHBOUR: 'it returns false'. Refute it at one input. -/
def gossipAddsWrong : ChangeSpec := { name := "gossipAdds", fn := fun _ => fun
  | [d1, d2, d3] => { results := [.lit (.bool false)], args := [d1, d2, d3] }
  | _ => none }
def GossipAddsWrongFalsely : Prop := gossipAddsRow.holds Try.pinned (OpenSpec.ofChange gossipAddsWrong)

/-- 'bikesharelaw19.GossipArrives': WHATEVER THE INPUT: true; the input reads as it did. -/
def gossipArrivesSpec : ChangeSpec := { name := "gossipArrives", fn := fun _ => fun
  | [d1, d2, d3] => { results := [.lit (.bool true)], args := [d1, d2, d3] }
  | _ => none }
def gossipArrivesRow : OpenClaim := { program := "ytcpfogbjbinjcaa", sum := "43793b34030595f0e9b8c8cff92ecafed856b2e02fdfece6d3ff746c6ae955fa", func := "bikeshare/bikesharelaw19.GossipArrives", spec := "gossipArrives", unfollowed := true, recurses := true, plainKeys := false, apart := false }
def GossipArrivesSaid : Prop := gossipArrivesRow.holds Try.pinned (OpenSpec.ofChange gossipArrivesSpec)

/-- ITS FALSE NEIGHBOUR: 'it returns false'. Refute it at one input. -/
def gossipArrivesWrong : ChangeSpec := { name := "gossipArrives", fn := fun _ => fun
  | [d1, d2, d3] => { results := [.lit (.bool false)], args := [d1, d2, d3] }
  | _ => none }
def GossipArrivesWrongFalsely : Prop := gossipArrivesRow.holds Try.pinned (OpenSpec.ofChange gossipArrivesWrong)

/-- 'bikesharelaw19.GossipFails': WHATEVER THE INPUT: true; the input reads as it did. -/
def gossipFailsSpec : ChangeSpec := { name := "gossipFails", fn := fun _ => fun
  | [d1, d2, d3] => { results := [.lit (.bool true)], args := [d1, d2, d3] }
  | _ => none }
def gossipFailsRow : OpenClaim := { program := "ytcpfogbjbinjcaa", sum := "43793b34030595f0e9b8c8cff92ecafed856b2e02fdfece6d3ff746c6ae955fa", func := "bikeshare/bikesharelaw19.GossipFails", spec := "gossipFails", unfollowed := true, recurses := true, plainKeys := false, apart := false }
def GossipFailsSaid : Prop := gossipFailsRow.holds Try.pinned (OpenSpec.ofChange gossipFailsSpec)

/-- ITS FALSE NEIGHBOUR: 'it returns false'. Refute it at one input. -/
def gossipFailsWrong : ChangeSpec := { name := "gossipFails", fn := fun _ => fun
  | [d1, d2, d3] => { results := [.lit (.bool false)], args := [d1, d2, d3] }
  | _ => none }
def GossipFailsWrongFalsely : Prop := gossipFailsRow.holds Try.pinned (OpenSpec.ofChange gossipFailsWrong)

/-- 'bikesharelaw19.GossipFull': WHATEVER THE INPUT: true; the input reads as it did. -/
def gossipFullSpec : ChangeSpec := { name := "gossipFull", fn := fun _ => fun
  | [d] => { results := [.lit (.bool true)], args := [d] }
  | _ => none }
def gossipFullRow : OpenClaim := { program := "ytcpfogbjbinjcaa", sum := "43793b34030595f0e9b8c8cff92ecafed856b2e02fdfece6d3ff746c6ae955fa", func := "bikeshare/bikesharelaw19.GossipFull", spec := "gossipFull", unfollowed := true, recurses := true, plainKeys := false, apart := false }
def GossipFullSaid : Prop := gossipFullRow.holds Try.pinned (OpenSpec.ofChange gossipFullSpec)

/-- ITS FALSE NEIGHBOUR: 'it returns false'. Refute it at one input. -/
def gossipFullWrong : ChangeSpec := { name := "gossipFull", fn := fun _ => fun
  | [d] => { results := [.lit (.bool false)], args := [d] }
  | _ => none }
def GossipFullWrongFalsely : Prop := gossipFullRow.holds Try.pinned (OpenSpec.ofChange gossipFullWrong)

/-- 'bikesharelaw19.GossipApart': WHATEVER THE INPUT: true; the input reads as it did. -/
def gossipApartSpec : ChangeSpec := { name := "gossipApart", fn := fun _ => fun
  | [d1, d2, d3] => { results := [.lit (.bool true)], args := [d1, d2, d3] }
  | _ => none }
def gossipApartRow : OpenClaim := { program := "ytcpfogbjbinjcaa", sum := "43793b34030595f0e9b8c8cff92ecafed856b2e02fdfece6d3ff746c6ae955fa", func := "bikeshare/bikesharelaw19.GossipApart", spec := "gossipApart", inPlace := ["maps.clone"], unfollowed := true, recurses := true, plainKeys := false, apart := false }
def GossipApartSaid : Prop := gossipApartRow.holds Try.pinned (OpenSpec.ofChange gossipApartSpec)

/-- ITS FALSE NEIGHBOUR: 'it returns false'. Refute it at one input. -/
def gossipApartWrong : ChangeSpec := { name := "gossipApart", fn := fun _ => fun
  | [d1, d2, d3] => { results := [.lit (.bool false)], args := [d1, d2, d3] }
  | _ => none }
def GossipApartWrongFalsely : Prop := gossipApartRow.holds Try.pinned (OpenSpec.ofChange gossipApartWrong)

/-- 'bikesharelaw19.GossipMergeCalls': WHATEVER THE INPUT: true; the input reads as it did. -/
def gossipMergeCallsSpec : ChangeSpec := { name := "gossipMergeCalls", fn := fun _ => fun
  | [d1, d2, d3, d4] => { results := [.lit (.bool true)], args := [d1, d2, d3, d4] }
  | _ => none }
def gossipMergeCallsRow : OpenClaim := { program := "ytcpfogbjbinjcaa", sum := "43793b34030595f0e9b8c8cff92ecafed856b2e02fdfece6d3ff746c6ae955fa", func := "bikeshare/bikesharelaw19.GossipMergeCalls", spec := "gossipMergeCalls", unfollowed := true, recurses := true, plainKeys := false, apart := false }
def GossipMergeCallsSaid : Prop := gossipMergeCallsRow.holds Try.pinned (OpenSpec.ofChange gossipMergeCallsSpec)

/-- ITS FALSE NEIGHBOUR: 'it returns false'. Refute it at one input. -/
def gossipMergeCallsWrong : ChangeSpec := { name := "gossipMergeCalls", fn := fun _ => fun
  | [d1, d2, d3, d4] => { results := [.lit (.bool false)], args := [d1, d2, d3, d4] }
  | _ => none }
def GossipMergeCallsWrongFalsely : Prop := gossipMergeCallsRow.holds Try.pinned (OpenSpec.ofChange gossipMergeCallsWrong)

/-- 'bikesharelaw19.GossipMerges': WHATEVER THE INPUT: true; the input reads as it did. -/
def gossipMergesSpec : ChangeSpec := { name := "gossipMerges", fn := fun _ => fun
  | [d1, d2, d3] => { results := [.lit (.bool true)], args := [d1, d2, d3] }
  | _ => none }
def gossipMergesRow : OpenClaim := { program := "ytcpfogbjbinjcaa", sum := "43793b34030595f0e9b8c8cff92ecafed856b2e02fdfece6d3ff746c6ae955fa", func := "bikeshare/bikesharelaw19.GossipMerges", spec := "gossipMerges", inPlace := ["maps.clone"], unfollowed := true, recurses := true, plainKeys := false, apart := false }
def GossipMergesSaid : Prop := gossipMergesRow.holds Try.pinned (OpenSpec.ofChange gossipMergesSpec)

/-- ITS FALSE NEIGHBOUR: 'it returns false'. Refute it at one input. -/
def gossipMergesWrong : ChangeSpec := { name := "gossipMerges", fn := fun _ => fun
  | [d1, d2, d3] => { results := [.lit (.bool false)], args := [d1, d2, d3] }
  | _ => none }
def GossipMergesWrongFalsely : Prop := gossipMergesRow.holds Try.pinned (OpenSpec.ofChange gossipMergesWrong)

/-- 'bikesharelaw19.GossipExchanges': WHATEVER THE INPUT: true; the input reads as it did. -/
def gossipExchangesSpec : ChangeSpec := { name := "gossipExchanges", fn := fun _ => fun
  | [d1, d2, d3] => { results := [.lit (.bool true)], args := [d1, d2, d3] }
  | _ => none }
def gossipExchangesRow : OpenClaim := { program := "ytcpfogbjbinjcaa", sum := "43793b34030595f0e9b8c8cff92ecafed856b2e02fdfece6d3ff746c6ae955fa", func := "bikeshare/bikesharelaw19.GossipExchanges", spec := "gossipExchanges", inPlace := ["maps.clone"], unfollowed := true, recurses := true, plainKeys := false, apart := false }
def GossipExchangesSaid : Prop := gossipExchangesRow.holds Try.pinned (OpenSpec.ofChange gossipExchangesSpec)

/-- ITS FALSE NEIGHBOUR: 'it returns false'. Refute it at one input. -/
def gossipExchangesWrong : ChangeSpec := { name := "gossipExchanges", fn := fun _ => fun
  | [d1, d2, d3] => { results := [.lit (.bool false)], args := [d1, d2, d3] }
  | _ => none }
def GossipExchangesWrongFalsely : Prop := gossipExchangesRow.holds Try.pinned (OpenSpec.ofChange gossipExchangesWrong)

/-- 'bikesharelaw19.GossipNil': WHATEVER THE INPUT: true; the input reads as it did. -/
def gossipNilSpec : ChangeSpec := { name := "gossipNil", fn := fun _ => fun
  | [d1, d2] => { results := [.lit (.bool true)], args := [d1, d2] }
  | _ => none }
def gossipNilRow : OpenClaim := { program := "ytcpfogbjbinjcaa", sum := "43793b34030595f0e9b8c8cff92ecafed856b2e02fdfece6d3ff746c6ae955fa", func := "bikeshare/bikesharelaw19.GossipNil", spec := "gossipNil", inPlace := ["maps.clone"], unfollowed := true, recurses := true, plainKeys := false, apart := false }
def GossipNilSaid : Prop := gossipNilRow.holds Try.pinned (OpenSpec.ofChange gossipNilSpec)

/-- ITS FALSE NEIGHBOUR: 'it returns false'. Refute it at one input. -/
def gossipNilWrong : ChangeSpec := { name := "gossipNil", fn := fun _ => fun
  | [d1, d2] => { results := [.lit (.bool false)], args := [d1, d2] }
  | _ => none }
def GossipNilWrongFalsely : Prop := gossipNilRow.holds Try.pinned (OpenSpec.ofChange gossipNilWrong)

/- THE SECOND FORM. 'bulk': how many values and letters a reading holds, each counted each time it is reached (what is shared counts as often as it is met; a slice's spare places count too). A statement '..UptoSaid' is the law's where the arguments, and the package variables that the reading takes, are together of bulk at most 1048576: NARROWER than '..Said'. Prove '..Said' where nothing that the law and all that it calls make is longer than what came in: it says more and counts as full. Else prove '..UptoSaid'. A law counts once. -/
mutual
def uptoBulk {H : Type} : DataW H → Nat
  | .lit (.string bytes) => bytes.length + 1
  | .lit _ => 1
  | .nil => 1
  | .ptr d => uptoBulk d + 1
  | .slice elems spare => uptoBulkAll elems + uptoBulkAll spare + 1
  | .agg parts => uptoBulkAll parts + 1
  | .iface _ d => uptoBulk d + 1
  | .map entries => uptoBulkEntries entries + 1
  | .held _ => 1
def uptoBulkAll {H : Type} : List (DataW H) → Nat
  | [] => 0
  | d :: r => uptoBulk d + uptoBulkAll r
def uptoBulkEntries {H : Type} : List (Lit × DataW H) → Nat
  | [] => 0
  | x :: r => uptoBulkEntry x + uptoBulkEntries r
def uptoBulkEntry {H : Type} : Lit × DataW H → Nat
  | (.string bytes, d) => bytes.length + uptoBulk d + 1
  | (_, d) => uptoBulk d + 1
 end
def uptoSmall : (H : Type) → List (DataW H) → Bool := fun _ ds => decide (uptoBulkAll ds ≤ 1048576)
def OpenSpec.upto (s : _root_.Go.ChangeSpec) : _root_.Go.OpenSpec := { _root_.Go.OpenSpec.ofChange s with cond := some uptoSmall }

/-- 'bikesharelaw19.GossipAdds', WHERE WHAT IT READS IS OF BULK AT MOST 1048576: true; the input reads as it did. -/
def gossipAddsUptoRow : OpenClaim := { program := "ytcpfogbjbinjcaa", sum := "43793b34030595f0e9b8c8cff92ecafed856b2e02fdfece6d3ff746c6ae955fa", func := "bikeshare/bikesharelaw19.GossipAdds", spec := "gossipAdds", unfollowed := true, recurses := true, plainKeys := false, apart := false, narrowed := true }
def GossipAddsUptoSaid : Prop := gossipAddsUptoRow.holds Try.pinned (OpenSpec.upto gossipAddsSpec)

/-- 'bikesharelaw19.GossipArrives', WHERE WHAT IT READS IS OF BULK AT MOST 1048576: true; the input reads as it did. -/
def gossipArrivesUptoRow : OpenClaim := { program := "ytcpfogbjbinjcaa", sum := "43793b34030595f0e9b8c8cff92ecafed856b2e02fdfece6d3ff746c6ae955fa", func := "bikeshare/bikesharelaw19.GossipArrives", spec := "gossipArrives", unfollowed := true, recurses := true, plainKeys := false, apart := false, narrowed := true }
def GossipArrivesUptoSaid : Prop := gossipArrivesUptoRow.holds Try.pinned (OpenSpec.upto gossipArrivesSpec)

/-- 'bikesharelaw19.GossipFails', WHERE WHAT IT READS IS OF BULK AT MOST 1048576: true; the input reads as it did. -/
def gossipFailsUptoRow : OpenClaim := { program := "ytcpfogbjbinjcaa", sum := "43793b34030595f0e9b8c8cff92ecafed856b2e02fdfece6d3ff746c6ae955fa", func := "bikeshare/bikesharelaw19.GossipFails", spec := "gossipFails", unfollowed := true, recurses := true, plainKeys := false, apart := false, narrowed := true }
def GossipFailsUptoSaid : Prop := gossipFailsUptoRow.holds Try.pinned (OpenSpec.upto gossipFailsSpec)

/-- 'bikesharelaw19.GossipFull', WHERE WHAT IT READS IS OF BULK AT MOST 1048576: true; the input reads as it did. -/
def gossipFullUptoRow : OpenClaim := { program := "ytcpfogbjbinjcaa", sum := "43793b34030595f0e9b8c8cff92ecafed856b2e02fdfece6d3ff746c6ae955fa", func := "bikeshare/bikesharelaw19.GossipFull", spec := "gossipFull", unfollowed := true, recurses := true, plainKeys := false, apart := false, narrowed := true }
def GossipFullUptoSaid : Prop := gossipFullUptoRow.holds Try.pinned (OpenSpec.upto gossipFullSpec)

/-- 'bikesharelaw19.GossipApart', WHERE WHAT IT READS IS OF BULK AT MOST 1048576: true; the input reads as it did. -/
def gossipApartUptoRow : OpenClaim := { program := "ytcpfogbjbinjcaa", sum := "43793b34030595f0e9b8c8cff92ecafed856b2e02fdfece6d3ff746c6ae955fa", func := "bikeshare/bikesharelaw19.GossipApart", spec := "gossipApart", inPlace := ["maps.clone"], unfollowed := true, recurses := true, plainKeys := false, apart := false, narrowed := true }
def GossipApartUptoSaid : Prop := gossipApartUptoRow.holds Try.pinned (OpenSpec.upto gossipApartSpec)

/-- 'bikesharelaw19.GossipMergeCalls', WHERE WHAT IT READS IS OF BULK AT MOST 1048576: true; the input reads as it did. -/
def gossipMergeCallsUptoRow : OpenClaim := { program := "ytcpfogbjbinjcaa", sum := "43793b34030595f0e9b8c8cff92ecafed856b2e02fdfece6d3ff746c6ae955fa", func := "bikeshare/bikesharelaw19.GossipMergeCalls", spec := "gossipMergeCalls", unfollowed := true, recurses := true, plainKeys := false, apart := false, narrowed := true }
def GossipMergeCallsUptoSaid : Prop := gossipMergeCallsUptoRow.holds Try.pinned (OpenSpec.upto gossipMergeCallsSpec)

/-- 'bikesharelaw19.GossipMerges', WHERE WHAT IT READS IS OF BULK AT MOST 1048576: true; the input reads as it did. -/
def gossipMergesUptoRow : OpenClaim := { program := "ytcpfogbjbinjcaa", sum := "43793b34030595f0e9b8c8cff92ecafed856b2e02fdfece6d3ff746c6ae955fa", func := "bikeshare/bikesharelaw19.GossipMerges", spec := "gossipMerges", inPlace := ["maps.clone"], unfollowed := true, recurses := true, plainKeys := false, apart := false, narrowed := true }
def GossipMergesUptoSaid : Prop := gossipMergesUptoRow.holds Try.pinned (OpenSpec.upto gossipMergesSpec)

/-- 'bikesharelaw19.GossipExchanges', WHERE WHAT IT READS IS OF BULK AT MOST 1048576: true; the input reads as it did. -/
def gossipExchangesUptoRow : OpenClaim := { program := "ytcpfogbjbinjcaa", sum := "43793b34030595f0e9b8c8cff92ecafed856b2e02fdfece6d3ff746c6ae955fa", func := "bikeshare/bikesharelaw19.GossipExchanges", spec := "gossipExchanges", inPlace := ["maps.clone"], unfollowed := true, recurses := true, plainKeys := false, apart := false, narrowed := true }
def GossipExchangesUptoSaid : Prop := gossipExchangesUptoRow.holds Try.pinned (OpenSpec.upto gossipExchangesSpec)

/-- 'bikesharelaw19.GossipNil', WHERE WHAT IT READS IS OF BULK AT MOST 1048576: true; the input reads as it did. -/
def gossipNilUptoRow : OpenClaim := { program := "ytcpfogbjbinjcaa", sum := "43793b34030595f0e9b8c8cff92ecafed856b2e02fdfece6d3ff746c6ae955fa", func := "bikeshare/bikesharelaw19.GossipNil", spec := "gossipNil", inPlace := ["maps.clone"], unfollowed := true, recurses := true, plainKeys := false, apart := false, narrowed := true }
def GossipNilUptoSaid : Prop := gossipNilUptoRow.holds Try.pinned (OpenSpec.upto gossipNilSpec)

end Rows
end Go.Proofs.Ytcpfogbjbinjcaa
