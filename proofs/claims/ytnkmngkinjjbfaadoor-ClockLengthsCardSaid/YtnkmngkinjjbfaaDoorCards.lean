/-
  DERIVED. GIVEN WITH THE SEED: THE CARDS: each row of YtnkmngkinjjbfaaDoorRows.lean that lists a variable, with what it lists TIED to the program's text (the seventh form; the later family's looks); each row that meets fmt, with fmt's text TOLD by the authors' own Lean function (tested against real Go, not proved from fmt's source: count such statements apart). THE CARD IS WHAT COUNTS. Prove the row's statement (the work); the ties are given (YtnkmngkinjjbfaaDoorTie.lean); close each card by the builder's one call (the guide's Derived/Test/ToyasCard.lean, 'card_holds'). Laid BY PROGRAM, IN A SANDBOX (cutbox-door.mjs). By AI agents, Wed Nov 11 2026. No macro, syntax, notation, axiom, sorry.
-/
import Derived.Test.YtnkmngkinjjbfaaDoorRows
import GoSem.ClaimSeven
namespace Go.Proofs.YtnkmngkinjjbfaaDoor
namespace Rows

/-- THE TIED CARD OF 'bikesharelaw02.ClockTexts'. -/
def clockTextsCard : Claim7 := { stood := { row := clockTextsRow, standIns := [], harness := (true, "91005adeb810b71caa1cb0b4d977e7f26d3f19c4d32a5ef47c4530b543351aec"), looks := true }, kinds := [], alts := [], laidByText := true, laidKinds := [.data, .data, .data, .sentinel, .sentinel], laidTests := true, laidLooks := .later }
def ClockTextsCardSaid : Prop := Claim7.holds Tryd.pinned (.plain (OpenSpec.ofChange clockTextsSpec)) clockTextsCard

/-- THE TIED CARD OF 'bikesharelaw02.ClockRoundTrip'. -/
def clockRoundTripCard : Claim7 := { stood := { row := clockRoundTripRow, standIns := [], harness := (true, "91005adeb810b71caa1cb0b4d977e7f26d3f19c4d32a5ef47c4530b543351aec"), looks := true }, kinds := [], alts := [], laidByText := true, laidKinds := [.data, .data, .data, .sentinel, .sentinel], laidTests := true, laidLooks := .later }
def ClockRoundTripCardSaid : Prop := Claim7.holds Tryd.pinned (.plain (OpenSpec.ofChange clockRoundTripSpec)) clockRoundTripCard

/-- THE TIED CARD OF 'bikesharelaw02.ClockDays'. -/
def clockDaysCard : Claim7 := { stood := { row := clockDaysRow, standIns := [], harness := (true, "91005adeb810b71caa1cb0b4d977e7f26d3f19c4d32a5ef47c4530b543351aec"), looks := true }, kinds := [], alts := [], laidByText := true, laidKinds := [.data, .data, .data, .sentinel, .sentinel], laidTests := true, laidLooks := .later }
def ClockDaysCardSaid : Prop := Claim7.holds Tryd.pinned (.plain (OpenSpec.ofChange clockDaysSpec)) clockDaysCard

/-- THE TIED CARD OF 'bikesharelaw02.ClockHours'. -/
def clockHoursCard : Claim7 := { stood := { row := clockHoursRow, standIns := [], harness := (true, "91005adeb810b71caa1cb0b4d977e7f26d3f19c4d32a5ef47c4530b543351aec"), looks := true }, kinds := [], alts := [], laidByText := true, laidKinds := [.data, .data, .data, .sentinel, .sentinel], laidTests := true, laidLooks := .later }
def ClockHoursCardSaid : Prop := Claim7.holds Tryd.pinned (.plain (OpenSpec.ofChange clockHoursSpec)) clockHoursCard

/-- THE TIED CARD OF 'bikesharelaw02.ClockSets'. -/
def clockSetsCard : Claim7 := { stood := { row := clockSetsRow, standIns := [], harness := (true, "91005adeb810b71caa1cb0b4d977e7f26d3f19c4d32a5ef47c4530b543351aec"), looks := true }, kinds := [], alts := [], laidByText := true, laidKinds := [.data, .data, .data, .sentinel, .sentinel], laidTests := true, laidLooks := .later }
def ClockSetsCardSaid : Prop := Claim7.holds Tryd.pinned (.plain (OpenSpec.ofChange clockSetsSpec)) clockSetsCard

/-- THE TIED CARD OF 'bikesharelaw02.ClockMoments'. -/
def clockMomentsCard : Claim7 := { stood := { row := clockMomentsRow, standIns := [], harness := (true, "91005adeb810b71caa1cb0b4d977e7f26d3f19c4d32a5ef47c4530b543351aec"), looks := true }, kinds := [], alts := [], laidByText := true, laidKinds := [.data, .data, .data, .sentinel, .sentinel], laidTests := true, laidLooks := .later }
def ClockMomentsCardSaid : Prop := Claim7.holds Tryd.pinned (.plain (OpenSpec.ofChange clockMomentsSpec)) clockMomentsCard

/-- THE TIED CARD OF 'bikesharelaw02.ClockLengths'. -/
def clockLengthsCard : Claim7 := { stood := { row := clockLengthsRow, standIns := [], harness := (true, "91005adeb810b71caa1cb0b4d977e7f26d3f19c4d32a5ef47c4530b543351aec"), looks := true }, kinds := [], alts := [], laidByText := true, laidKinds := [.data, .data, .data, .sentinel, .sentinel], laidTests := true, laidLooks := .later }
def ClockLengthsCardSaid : Prop := Claim7.holds Tryd.pinned (.plain (OpenSpec.ofChange clockLengthsSpec)) clockLengthsCard

/-- THE TIED CARD OF 'bikesharelaw02.ClockForms'. -/
def clockFormsCard : Claim7 := { stood := { row := clockFormsRow, standIns := [], harness := (true, "91005adeb810b71caa1cb0b4d977e7f26d3f19c4d32a5ef47c4530b543351aec"), looks := true }, kinds := [], alts := [], laidByText := true, laidKinds := [.data, .data, .data, .sentinel, .sentinel], laidTests := true, laidLooks := .later }
def ClockFormsCardSaid : Prop := Claim7.holds Tryd.pinned (.plain (OpenSpec.ofChange clockFormsSpec)) clockFormsCard

/-- THE SECOND FORM's CARD OF 'bikesharelaw02.ClockTexts'. -/
def clockTextsUptoCard : Claim7 := { stood := { row := clockTextsUptoRow, standIns := [], harness := (true, "91005adeb810b71caa1cb0b4d977e7f26d3f19c4d32a5ef47c4530b543351aec"), looks := true }, kinds := [], alts := [], laidByText := true, laidKinds := [.data, .data, .data, .sentinel, .sentinel], laidTests := true, laidLooks := .later }
def ClockTextsUptoCardSaid : Prop := Claim7.holds Tryd.pinned (.plain (OpenSpec.upto clockTextsSpec)) clockTextsUptoCard

/-- THE SECOND FORM's CARD OF 'bikesharelaw02.ClockRoundTrip'. -/
def clockRoundTripUptoCard : Claim7 := { stood := { row := clockRoundTripUptoRow, standIns := [], harness := (true, "91005adeb810b71caa1cb0b4d977e7f26d3f19c4d32a5ef47c4530b543351aec"), looks := true }, kinds := [], alts := [], laidByText := true, laidKinds := [.data, .data, .data, .sentinel, .sentinel], laidTests := true, laidLooks := .later }
def ClockRoundTripUptoCardSaid : Prop := Claim7.holds Tryd.pinned (.plain (OpenSpec.upto clockRoundTripSpec)) clockRoundTripUptoCard

/-- THE SECOND FORM's CARD OF 'bikesharelaw02.ClockDays'. -/
def clockDaysUptoCard : Claim7 := { stood := { row := clockDaysUptoRow, standIns := [], harness := (true, "91005adeb810b71caa1cb0b4d977e7f26d3f19c4d32a5ef47c4530b543351aec"), looks := true }, kinds := [], alts := [], laidByText := true, laidKinds := [.data, .data, .data, .sentinel, .sentinel], laidTests := true, laidLooks := .later }
def ClockDaysUptoCardSaid : Prop := Claim7.holds Tryd.pinned (.plain (OpenSpec.upto clockDaysSpec)) clockDaysUptoCard

/-- THE SECOND FORM's CARD OF 'bikesharelaw02.ClockHours'. -/
def clockHoursUptoCard : Claim7 := { stood := { row := clockHoursUptoRow, standIns := [], harness := (true, "91005adeb810b71caa1cb0b4d977e7f26d3f19c4d32a5ef47c4530b543351aec"), looks := true }, kinds := [], alts := [], laidByText := true, laidKinds := [.data, .data, .data, .sentinel, .sentinel], laidTests := true, laidLooks := .later }
def ClockHoursUptoCardSaid : Prop := Claim7.holds Tryd.pinned (.plain (OpenSpec.upto clockHoursSpec)) clockHoursUptoCard

/-- THE SECOND FORM's CARD OF 'bikesharelaw02.ClockSets'. -/
def clockSetsUptoCard : Claim7 := { stood := { row := clockSetsUptoRow, standIns := [], harness := (true, "91005adeb810b71caa1cb0b4d977e7f26d3f19c4d32a5ef47c4530b543351aec"), looks := true }, kinds := [], alts := [], laidByText := true, laidKinds := [.data, .data, .data, .sentinel, .sentinel], laidTests := true, laidLooks := .later }
def ClockSetsUptoCardSaid : Prop := Claim7.holds Tryd.pinned (.plain (OpenSpec.upto clockSetsSpec)) clockSetsUptoCard

/-- THE SECOND FORM's CARD OF 'bikesharelaw02.ClockMoments'. -/
def clockMomentsUptoCard : Claim7 := { stood := { row := clockMomentsUptoRow, standIns := [], harness := (true, "91005adeb810b71caa1cb0b4d977e7f26d3f19c4d32a5ef47c4530b543351aec"), looks := true }, kinds := [], alts := [], laidByText := true, laidKinds := [.data, .data, .data, .sentinel, .sentinel], laidTests := true, laidLooks := .later }
def ClockMomentsUptoCardSaid : Prop := Claim7.holds Tryd.pinned (.plain (OpenSpec.upto clockMomentsSpec)) clockMomentsUptoCard

/-- THE SECOND FORM's CARD OF 'bikesharelaw02.ClockLengths'. -/
def clockLengthsUptoCard : Claim7 := { stood := { row := clockLengthsUptoRow, standIns := [], harness := (true, "91005adeb810b71caa1cb0b4d977e7f26d3f19c4d32a5ef47c4530b543351aec"), looks := true }, kinds := [], alts := [], laidByText := true, laidKinds := [.data, .data, .data, .sentinel, .sentinel], laidTests := true, laidLooks := .later }
def ClockLengthsUptoCardSaid : Prop := Claim7.holds Tryd.pinned (.plain (OpenSpec.upto clockLengthsSpec)) clockLengthsUptoCard

/-- THE SECOND FORM's CARD OF 'bikesharelaw02.ClockForms'. -/
def clockFormsUptoCard : Claim7 := { stood := { row := clockFormsUptoRow, standIns := [], harness := (true, "91005adeb810b71caa1cb0b4d977e7f26d3f19c4d32a5ef47c4530b543351aec"), looks := true }, kinds := [], alts := [], laidByText := true, laidKinds := [.data, .data, .data, .sentinel, .sentinel], laidTests := true, laidLooks := .later }
def ClockFormsUptoCardSaid : Prop := Claim7.holds Tryd.pinned (.plain (OpenSpec.upto clockFormsSpec)) clockFormsUptoCard
end Rows
end Go.Proofs.YtnkmngkinjjbfaaDoor
