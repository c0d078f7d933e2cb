/-
  DERIVED. GIVEN WITH THE SEED: THE CARDS: each row of YtdkcclngionihaaDoorRows.lean that lists a variable, with what it lists TIED to the program's text (the seventh form; the later family's looks); each row that meets fmt, with fmt's text TOLD by the authors' own Lean function (tested against real Go, not proved from fmt's source: count such statements apart). THE CARD IS WHAT COUNTS. Prove the row's statement (the work); the ties are given (YtdkcclngionihaaDoorTie.lean); close each card by the builder's one call (the guide's Derived/Test/ToyasCard.lean, 'card_holds'). Laid BY PROGRAM, IN A SANDBOX (cutbox-door.mjs). By AI agents, Wed Nov 11 2026. No macro, syntax, notation, axiom, sorry.
-/
import Derived.Test.YtdkcclngionihaaDoorRows
import GoSem.ClaimSeven
namespace Go.Proofs.YtdkcclngionihaaDoor
namespace Rows

/-- THE TIED CARD OF 'bikesharelaw56.ReleaseHides'. -/
def releaseHidesCard : Claim7 := { stood := { row := releaseHidesRow, standIns := [], harness := (true, "b9da76d8e97a994ffc27f3eb45a366b557758602469b9d440195ab230deb7941"), looks := false }, kinds := [], alts := [], laidByText := true, laidKinds := [.data], laidTests := true, laidLooks := .later }
def ReleaseHidesCardSaid : Prop := Claim7.holds Tryd.pinned (.plain (OpenSpec.ofChange releaseHidesSpec)) releaseHidesCard

/-- THE TIED CARD OF 'bikesharelaw56.ReleaseChances'. -/
def releaseChancesCard : Claim7 := { stood := { row := releaseChancesRow, standIns := [], harness := (true, "b9da76d8e97a994ffc27f3eb45a366b557758602469b9d440195ab230deb7941"), looks := false }, kinds := [], alts := [], laidByText := true, laidKinds := [.data], laidTests := true, laidLooks := .later }
def ReleaseChancesCardSaid : Prop := Claim7.holds Tryd.pinned (.plain (OpenSpec.ofChange releaseChancesSpec)) releaseChancesCard

/-- THE TIED CARD OF 'bikesharelaw56.ReleaseCompares'. -/
def releaseComparesCard : Claim7 := { stood := { row := releaseComparesRow, standIns := [], harness := (true, "b9da76d8e97a994ffc27f3eb45a366b557758602469b9d440195ab230deb7941"), looks := false }, kinds := [], alts := [], laidByText := true, laidKinds := [.data], laidTests := true, laidLooks := .later }
def ReleaseComparesCardSaid : Prop := Claim7.holds Tryd.pinned (.plain (OpenSpec.ofChange releaseComparesSpec)) releaseComparesCard

/-- THE TIED CARD OF 'bikesharelaw56.ReleaseHidden'. -/
def releaseHiddenCard : Claim7 := { stood := { row := releaseHiddenRow, standIns := [], harness := (true, "b9da76d8e97a994ffc27f3eb45a366b557758602469b9d440195ab230deb7941"), looks := false }, kinds := [], alts := [], laidByText := true, laidKinds := [.data], laidTests := true, laidLooks := .later }
def ReleaseHiddenCardSaid : Prop := Claim7.holds Tryd.pinned (.plain (OpenSpec.ofChange releaseHiddenSpec)) releaseHiddenCard

/-- THE TIED CARD OF 'bikesharelaw56.ReleasePrivate'. -/
def releasePrivateCard : Claim7 := { stood := { row := releasePrivateRow, standIns := [], harness := (true, "b9da76d8e97a994ffc27f3eb45a366b557758602469b9d440195ab230deb7941"), looks := false }, kinds := [], alts := [], laidByText := true, laidKinds := [.data], laidTests := true, laidLooks := .later }
def ReleasePrivateCardSaid : Prop := Claim7.holds Tryd.pinned (.plain (OpenSpec.ofChange releasePrivateSpec)) releasePrivateCard

/-- THE TIED CARD OF 'bikesharelaw56.ReleaseDisturbs'. -/
def releaseDisturbsCard : Claim7 := { stood := { row := releaseDisturbsRow, standIns := [], harness := (true, "b9da76d8e97a994ffc27f3eb45a366b557758602469b9d440195ab230deb7941"), looks := false }, kinds := [], alts := [], laidByText := true, laidKinds := [.data], laidTests := true, laidLooks := .later }
def ReleaseDisturbsCardSaid : Prop := Claim7.holds Tryd.pinned (.plain (OpenSpec.ofChange releaseDisturbsSpec)) releaseDisturbsCard

/-- THE TIED CARD OF 'bikesharelaw56.ReleaseNear'. -/
def releaseNearCard : Claim7 := { stood := { row := releaseNearRow, standIns := [], harness := (true, "b9da76d8e97a994ffc27f3eb45a366b557758602469b9d440195ab230deb7941"), looks := false }, kinds := [], alts := [], laidByText := true, laidKinds := [.data], laidTests := true, laidLooks := .later }
def ReleaseNearCardSaid : Prop := Claim7.holds Tryd.pinned (.plain (OpenSpec.ofChange releaseNearSpec)) releaseNearCard

/-- THE SECOND FORM's CARD OF 'bikesharelaw56.ReleaseHides'. -/
def releaseHidesUptoCard : Claim7 := { stood := { row := releaseHidesUptoRow, standIns := [], harness := (true, "b9da76d8e97a994ffc27f3eb45a366b557758602469b9d440195ab230deb7941"), looks := false }, kinds := [], alts := [], laidByText := true, laidKinds := [.data], laidTests := true, laidLooks := .later }
def ReleaseHidesUptoCardSaid : Prop := Claim7.holds Tryd.pinned (.plain (OpenSpec.upto releaseHidesSpec)) releaseHidesUptoCard

/-- THE SECOND FORM's CARD OF 'bikesharelaw56.ReleaseChances'. -/
def releaseChancesUptoCard : Claim7 := { stood := { row := releaseChancesUptoRow, standIns := [], harness := (true, "b9da76d8e97a994ffc27f3eb45a366b557758602469b9d440195ab230deb7941"), looks := false }, kinds := [], alts := [], laidByText := true, laidKinds := [.data], laidTests := true, laidLooks := .later }
def ReleaseChancesUptoCardSaid : Prop := Claim7.holds Tryd.pinned (.plain (OpenSpec.upto releaseChancesSpec)) releaseChancesUptoCard

/-- THE SECOND FORM's CARD OF 'bikesharelaw56.ReleaseCompares'. -/
def releaseComparesUptoCard : Claim7 := { stood := { row := releaseComparesUptoRow, standIns := [], harness := (true, "b9da76d8e97a994ffc27f3eb45a366b557758602469b9d440195ab230deb7941"), looks := false }, kinds := [], alts := [], laidByText := true, laidKinds := [.data], laidTests := true, laidLooks := .later }
def ReleaseComparesUptoCardSaid : Prop := Claim7.holds Tryd.pinned (.plain (OpenSpec.upto releaseComparesSpec)) releaseComparesUptoCard

/-- THE SECOND FORM's CARD OF 'bikesharelaw56.ReleaseHidden'. -/
def releaseHiddenUptoCard : Claim7 := { stood := { row := releaseHiddenUptoRow, standIns := [], harness := (true, "b9da76d8e97a994ffc27f3eb45a366b557758602469b9d440195ab230deb7941"), looks := false }, kinds := [], alts := [], laidByText := true, laidKinds := [.data], laidTests := true, laidLooks := .later }
def ReleaseHiddenUptoCardSaid : Prop := Claim7.holds Tryd.pinned (.plain (OpenSpec.upto releaseHiddenSpec)) releaseHiddenUptoCard

/-- THE SECOND FORM's CARD OF 'bikesharelaw56.ReleasePrivate'. -/
def releasePrivateUptoCard : Claim7 := { stood := { row := releasePrivateUptoRow, standIns := [], harness := (true, "b9da76d8e97a994ffc27f3eb45a366b557758602469b9d440195ab230deb7941"), looks := false }, kinds := [], alts := [], laidByText := true, laidKinds := [.data], laidTests := true, laidLooks := .later }
def ReleasePrivateUptoCardSaid : Prop := Claim7.holds Tryd.pinned (.plain (OpenSpec.upto releasePrivateSpec)) releasePrivateUptoCard

/-- THE SECOND FORM's CARD OF 'bikesharelaw56.ReleaseDisturbs'. -/
def releaseDisturbsUptoCard : Claim7 := { stood := { row := releaseDisturbsUptoRow, standIns := [], harness := (true, "b9da76d8e97a994ffc27f3eb45a366b557758602469b9d440195ab230deb7941"), looks := false }, kinds := [], alts := [], laidByText := true, laidKinds := [.data], laidTests := true, laidLooks := .later }
def ReleaseDisturbsUptoCardSaid : Prop := Claim7.holds Tryd.pinned (.plain (OpenSpec.upto releaseDisturbsSpec)) releaseDisturbsUptoCard

/-- THE SECOND FORM's CARD OF 'bikesharelaw56.ReleaseNear'. -/
def releaseNearUptoCard : Claim7 := { stood := { row := releaseNearUptoRow, standIns := [], harness := (true, "b9da76d8e97a994ffc27f3eb45a366b557758602469b9d440195ab230deb7941"), looks := false }, kinds := [], alts := [], laidByText := true, laidKinds := [.data], laidTests := true, laidLooks := .later }
def ReleaseNearUptoCardSaid : Prop := Claim7.holds Tryd.pinned (.plain (OpenSpec.upto releaseNearSpec)) releaseNearUptoCard
end Rows
end Go.Proofs.YtdkcclngionihaaDoor
