/-
  DERIVED. GIVEN WITH THE SEED: THE CARDS: each row of YtmobdlddfoaocaaDoorRows.lean that lists a variable, with what it lists TIED to the program's text (the seventh form; the later family's looks); each row that meets fmt, with fmt's text TOLD by the authors' own Lean function (tested against real Go, not proved from fmt's source: count such statements apart). THE CARD IS WHAT COUNTS. Prove the row's statement (the work); the ties are given (YtmobdlddfoaocaaDoorTie.lean); close each card by the builder's one call (the guide's Derived/Test/ToyasCard.lean, 'card_holds'). Laid BY PROGRAM, IN A SANDBOX (cutbox-door.mjs). By AI agents, Wed Nov 11 2026. No macro, syntax, notation, axiom, sorry.
-/
import Derived.Test.YtmobdlddfoaocaaDoorRows
import GoSem.ClaimSeven
namespace Go.Proofs.YtmobdlddfoaocaaDoor
namespace Rows

/-- THE TIED CARD OF 'bikesharelaw53.NoiseChecks'. -/
def noiseChecksCard : Claim7 := { stood := { row := noiseChecksRow, standIns := [], harness := (true, "14a82d61d5ca0a7b3b40ddaf74b83786a942c152c7cdb19595cf0558297fccd3"), looks := false }, kinds := [], alts := [], laidByText := true, laidKinds := [.data], laidTests := true, laidLooks := .later }
def NoiseChecksCardSaid : Prop := Claim7.holds Tryd.pinned (.plain (OpenSpec.ofChange noiseChecksSpec)) noiseChecksCard

/-- THE TIED CARD OF 'bikesharelaw53.NoiseAts'. -/
def noiseAtsCard : Claim7 := { stood := { row := noiseAtsRow, standIns := [], harness := (true, "14a82d61d5ca0a7b3b40ddaf74b83786a942c152c7cdb19595cf0558297fccd3"), looks := false }, kinds := [], alts := [], laidByText := true, laidKinds := [.data], laidTests := true, laidLooks := .later }
def NoiseAtsCardSaid : Prop := Claim7.holds Tryd.pinned (.plain (OpenSpec.ofChange noiseAtsSpec)) noiseAtsCard

/-- THE TIED CARD OF 'bikesharelaw53.NoiseExcesses'. -/
def noiseExcessesCard : Claim7 := { stood := { row := noiseExcessesRow, standIns := [], harness := (true, "14a82d61d5ca0a7b3b40ddaf74b83786a942c152c7cdb19595cf0558297fccd3"), looks := false }, kinds := [], alts := [], laidByText := true, laidKinds := [.data], laidTests := true, laidLooks := .later }
def NoiseExcessesCardSaid : Prop := Claim7.holds Tryd.pinned (.plain (OpenSpec.ofChange noiseExcessesSpec)) noiseExcessesCard

/-- THE TIED CARD OF 'bikesharelaw53.NoiseAdds'. -/
def noiseAddsCard : Claim7 := { stood := { row := noiseAddsRow, standIns := [], harness := (true, "14a82d61d5ca0a7b3b40ddaf74b83786a942c152c7cdb19595cf0558297fccd3"), looks := false }, kinds := [], alts := [], laidByText := true, laidKinds := [.data], laidTests := true, laidLooks := .later }
def NoiseAddsCardSaid : Prop := Claim7.holds Tryd.pinned (.plain (OpenSpec.ofChange noiseAddsSpec)) noiseAddsCard

/-- THE TIED CARD OF 'bikesharelaw53.NoiseExact'. -/
def noiseExactCard : Claim7 := { stood := { row := noiseExactRow, standIns := [], harness := (true, "14a82d61d5ca0a7b3b40ddaf74b83786a942c152c7cdb19595cf0558297fccd3"), looks := false }, kinds := [], alts := [], laidByText := true, laidKinds := [.data], laidTests := true, laidLooks := .later }
def NoiseExactCardSaid : Prop := Claim7.holds Tryd.pinned (.plain (OpenSpec.ofChange noiseExactSpec)) noiseExactCard

/-- THE TIED CARD OF 'bikesharelaw53.NoiseCounts'. -/
def noiseCountsCard : Claim7 := { stood := { row := noiseCountsRow, standIns := [], harness := (true, "14a82d61d5ca0a7b3b40ddaf74b83786a942c152c7cdb19595cf0558297fccd3"), looks := false }, kinds := [], alts := [], laidByText := true, laidKinds := [.data], laidTests := true, laidLooks := .later }
def NoiseCountsCardSaid : Prop := Claim7.holds Tryd.pinned (.plain (OpenSpec.ofChange noiseCountsSpec)) noiseCountsCard

/-- THE TIED CARD OF 'bikesharelaw53.NoiseMirrors'. -/
def noiseMirrorsCard : Claim7 := { stood := { row := noiseMirrorsRow, standIns := [], harness := (true, "14a82d61d5ca0a7b3b40ddaf74b83786a942c152c7cdb19595cf0558297fccd3"), looks := false }, kinds := [], alts := [], laidByText := true, laidKinds := [.data], laidTests := true, laidLooks := .later }
def NoiseMirrorsCardSaid : Prop := Claim7.holds Tryd.pinned (.plain (OpenSpec.ofChange noiseMirrorsSpec)) noiseMirrorsCard

/-- THE TIED CARD OF 'bikesharelaw53.NoiseMakes'. -/
def noiseMakesCard : Claim7 := { stood := { row := noiseMakesRow, standIns := [], harness := (true, "14a82d61d5ca0a7b3b40ddaf74b83786a942c152c7cdb19595cf0558297fccd3"), looks := false }, kinds := [], alts := [], laidByText := true, laidKinds := [.data], laidTests := true, laidLooks := .later }
def NoiseMakesCardSaid : Prop := Claim7.holds Tryd.pinned (.plain (OpenSpec.ofChange noiseMakesSpec)) noiseMakesCard

/-- THE TIED CARD OF 'bikesharelaw53.NoiseKeeps'. -/
def noiseKeepsCard : Claim7 := { stood := { row := noiseKeepsRow, standIns := [], harness := (true, "14a82d61d5ca0a7b3b40ddaf74b83786a942c152c7cdb19595cf0558297fccd3"), looks := false }, kinds := [], alts := [], laidByText := true, laidKinds := [.data], laidTests := true, laidLooks := .later }
def NoiseKeepsCardSaid : Prop := Claim7.holds Tryd.pinned (.plain (OpenSpec.ofChange noiseKeepsSpec)) noiseKeepsCard

/-- THE SECOND FORM's CARD OF 'bikesharelaw53.NoiseChecks'. -/
def noiseChecksUptoCard : Claim7 := { stood := { row := noiseChecksUptoRow, standIns := [], harness := (true, "14a82d61d5ca0a7b3b40ddaf74b83786a942c152c7cdb19595cf0558297fccd3"), looks := false }, kinds := [], alts := [], laidByText := true, laidKinds := [.data], laidTests := true, laidLooks := .later }
def NoiseChecksUptoCardSaid : Prop := Claim7.holds Tryd.pinned (.plain (OpenSpec.upto noiseChecksSpec)) noiseChecksUptoCard

/-- THE SECOND FORM's CARD OF 'bikesharelaw53.NoiseAts'. -/
def noiseAtsUptoCard : Claim7 := { stood := { row := noiseAtsUptoRow, standIns := [], harness := (true, "14a82d61d5ca0a7b3b40ddaf74b83786a942c152c7cdb19595cf0558297fccd3"), looks := false }, kinds := [], alts := [], laidByText := true, laidKinds := [.data], laidTests := true, laidLooks := .later }
def NoiseAtsUptoCardSaid : Prop := Claim7.holds Tryd.pinned (.plain (OpenSpec.upto noiseAtsSpec)) noiseAtsUptoCard

/-- THE SECOND FORM's CARD OF 'bikesharelaw53.NoiseExcesses'. -/
def noiseExcessesUptoCard : Claim7 := { stood := { row := noiseExcessesUptoRow, standIns := [], harness := (true, "14a82d61d5ca0a7b3b40ddaf74b83786a942c152c7cdb19595cf0558297fccd3"), looks := false }, kinds := [], alts := [], laidByText := true, laidKinds := [.data], laidTests := true, laidLooks := .later }
def NoiseExcessesUptoCardSaid : Prop := Claim7.holds Tryd.pinned (.plain (OpenSpec.upto noiseExcessesSpec)) noiseExcessesUptoCard

/-- THE SECOND FORM's CARD OF 'bikesharelaw53.NoiseAdds'. -/
def noiseAddsUptoCard : Claim7 := { stood := { row := noiseAddsUptoRow, standIns := [], harness := (true, "14a82d61d5ca0a7b3b40ddaf74b83786a942c152c7cdb19595cf0558297fccd3"), looks := false }, kinds := [], alts := [], laidByText := true, laidKinds := [.data], laidTests := true, laidLooks := .later }
def NoiseAddsUptoCardSaid : Prop := Claim7.holds Tryd.pinned (.plain (OpenSpec.upto noiseAddsSpec)) noiseAddsUptoCard

/-- THE SECOND FORM's CARD OF 'bikesharelaw53.NoiseExact'. -/
def noiseExactUptoCard : Claim7 := { stood := { row := noiseExactUptoRow, standIns := [], harness := (true, "14a82d61d5ca0a7b3b40ddaf74b83786a942c152c7cdb19595cf0558297fccd3"), looks := false }, kinds := [], alts := [], laidByText := true, laidKinds := [.data], laidTests := true, laidLooks := .later }
def NoiseExactUptoCardSaid : Prop := Claim7.holds Tryd.pinned (.plain (OpenSpec.upto noiseExactSpec)) noiseExactUptoCard

/-- THE SECOND FORM's CARD OF 'bikesharelaw53.NoiseCounts'. -/
def noiseCountsUptoCard : Claim7 := { stood := { row := noiseCountsUptoRow, standIns := [], harness := (true, "14a82d61d5ca0a7b3b40ddaf74b83786a942c152c7cdb19595cf0558297fccd3"), looks := false }, kinds := [], alts := [], laidByText := true, laidKinds := [.data], laidTests := true, laidLooks := .later }
def NoiseCountsUptoCardSaid : Prop := Claim7.holds Tryd.pinned (.plain (OpenSpec.upto noiseCountsSpec)) noiseCountsUptoCard

/-- THE SECOND FORM's CARD OF 'bikesharelaw53.NoiseMirrors'. -/
def noiseMirrorsUptoCard : Claim7 := { stood := { row := noiseMirrorsUptoRow, standIns := [], harness := (true, "14a82d61d5ca0a7b3b40ddaf74b83786a942c152c7cdb19595cf0558297fccd3"), looks := false }, kinds := [], alts := [], laidByText := true, laidKinds := [.data], laidTests := true, laidLooks := .later }
def NoiseMirrorsUptoCardSaid : Prop := Claim7.holds Tryd.pinned (.plain (OpenSpec.upto noiseMirrorsSpec)) noiseMirrorsUptoCard

/-- THE SECOND FORM's CARD OF 'bikesharelaw53.NoiseMakes'. -/
def noiseMakesUptoCard : Claim7 := { stood := { row := noiseMakesUptoRow, standIns := [], harness := (true, "14a82d61d5ca0a7b3b40ddaf74b83786a942c152c7cdb19595cf0558297fccd3"), looks := false }, kinds := [], alts := [], laidByText := true, laidKinds := [.data], laidTests := true, laidLooks := .later }
def NoiseMakesUptoCardSaid : Prop := Claim7.holds Tryd.pinned (.plain (OpenSpec.upto noiseMakesSpec)) noiseMakesUptoCard

/-- THE SECOND FORM's CARD OF 'bikesharelaw53.NoiseKeeps'. -/
def noiseKeepsUptoCard : Claim7 := { stood := { row := noiseKeepsUptoRow, standIns := [], harness := (true, "14a82d61d5ca0a7b3b40ddaf74b83786a942c152c7cdb19595cf0558297fccd3"), looks := false }, kinds := [], alts := [], laidByText := true, laidKinds := [.data], laidTests := true, laidLooks := .later }
def NoiseKeepsUptoCardSaid : Prop := Claim7.holds Tryd.pinned (.plain (OpenSpec.upto noiseKeepsSpec)) noiseKeepsUptoCard
end Rows
end Go.Proofs.YtmobdlddfoaocaaDoor
