/-
  DERIVED. GIVEN WITH THE SEED: THE CARDS: each row of YtdfpfiecpcgffaaDoorRows.lean that lists a variable, with what it lists TIED to the program's text (the seventh form; the later family's looks); each row that meets fmt, with fmt's text TOLD by the authors' own Lean function (tested against real Go, not proved from fmt's source: count such statements apart). THE CARD IS WHAT COUNTS. Prove the row's statement (the work); the ties are given (YtdfpfiecpcgffaaDoorTie.lean); close each card by the builder's one call (the guide's Derived/Test/ToyasCard.lean, 'card_holds'). Laid BY PROGRAM, IN A SANDBOX (cutbox-door.mjs). By AI agents, Wed Nov 11 2026. No macro, syntax, notation, axiom, sorry.
-/
import Derived.Test.YtdfpfiecpcgffaaDoorRows
import GoSem.ClaimSeven
namespace Go.Proofs.YtdfpfiecpcgffaaDoor
namespace Rows

/-- THE TIED CARD OF 'laws.FnExactSoundsText'. -/
def fnExactSoundsTextCard : Claim7 := { stood := { row := fnExactSoundsTextRow, standIns := [], harness := (true, "8015b0875cdba522df86d1f7b4d5ab8cf1ec17e611c3ce5cf2e28a5ded97aab1"), looks := true }, kinds := [], alts := [], laidByText := true, laidKinds := [.data, .data, .data], laidTests := true, laidLooks := .later }
def FnExactSoundsTextCardSaid : Prop := Claim7.holds Tryd.pinned (.plain (OpenSpec.ofChange fnExactSoundsTextSpec)) fnExactSoundsTextCard

/-- THE TIED CARD OF 'laws.FnExactReadThroat'. -/
def fnExactReadThroatCard : Claim7 := { stood := { row := fnExactReadThroatRow, standIns := [], harness := (true, "8015b0875cdba522df86d1f7b4d5ab8cf1ec17e611c3ce5cf2e28a5ded97aab1"), looks := true }, kinds := [], alts := [], laidByText := true, laidKinds := [.data, .data, .data, .data, .sentinel, .sentinel, .pinned], laidTests := true, laidLooks := .later }
def FnExactReadThroatCardSaid : Prop := Claim7.holds Tryd.pinned (.plain (OpenSpec.ofChange fnExactReadThroatSpec)) fnExactReadThroatCard

/-- THE TIED CARD OF 'laws.FnExactReadPredictor'. -/
def fnExactReadPredictorCard : Claim7 := { stood := { row := fnExactReadPredictorRow, standIns := [], harness := (true, "8015b0875cdba522df86d1f7b4d5ab8cf1ec17e611c3ce5cf2e28a5ded97aab1"), looks := true }, kinds := [], alts := [], laidByText := true, laidKinds := [.data, .data, .data, .data, .sentinel, .sentinel, .pinned], laidTests := true, laidLooks := .later }
def FnExactReadPredictorCardSaid : Prop := Claim7.holds Tryd.pinned (.plain (OpenSpec.ofChange fnExactReadPredictorSpec)) fnExactReadPredictorCard

/-- THE TIED CARD OF 'laws.FnExactReadTube'. -/
def fnExactReadTubeCard : Claim7 := { stood := { row := fnExactReadTubeRow, standIns := [], harness := (true, "8015b0875cdba522df86d1f7b4d5ab8cf1ec17e611c3ce5cf2e28a5ded97aab1"), looks := true }, kinds := [], alts := [], laidByText := true, laidKinds := [.data, .data, .data, .data, .sentinel, .sentinel, .pinned], laidTests := true, laidLooks := .later }
def FnExactReadTubeCardSaid : Prop := Claim7.holds Tryd.pinned (.plain (OpenSpec.ofChange fnExactReadTubeSpec)) fnExactReadTubeCard

/-- THE TIED CARD OF 'laws.FnExactReadSounds'. -/
def fnExactReadSoundsCard : Claim7 := { stood := { row := fnExactReadSoundsRow, standIns := [], harness := (true, "8015b0875cdba522df86d1f7b4d5ab8cf1ec17e611c3ce5cf2e28a5ded97aab1"), looks := true }, kinds := [], alts := [], laidByText := true, laidKinds := [.data, .data, .data, .data, .sentinel, .sentinel, .pinned], laidTests := true, laidLooks := .later }
def FnExactReadSoundsCardSaid : Prop := Claim7.holds Tryd.pinned (.plain (OpenSpec.ofChange fnExactReadSoundsSpec)) fnExactReadSoundsCard

/-- THE SECOND FORM's CARD OF 'laws.FnExactSoundsText'. -/
def fnExactSoundsTextUptoCard : Claim7 := { stood := { row := fnExactSoundsTextUptoRow, standIns := [], harness := (true, "8015b0875cdba522df86d1f7b4d5ab8cf1ec17e611c3ce5cf2e28a5ded97aab1"), looks := true }, kinds := [], alts := [], laidByText := true, laidKinds := [.data, .data, .data], laidTests := true, laidLooks := .later }
def FnExactSoundsTextUptoCardSaid : Prop := Claim7.holds Tryd.pinned (.plain (OpenSpec.upto fnExactSoundsTextSpec)) fnExactSoundsTextUptoCard

/-- THE SECOND FORM's CARD OF 'laws.FnExactReadThroat'. -/
def fnExactReadThroatUptoCard : Claim7 := { stood := { row := fnExactReadThroatUptoRow, standIns := [], harness := (true, "8015b0875cdba522df86d1f7b4d5ab8cf1ec17e611c3ce5cf2e28a5ded97aab1"), looks := true }, kinds := [], alts := [], laidByText := true, laidKinds := [.data, .data, .data, .data, .sentinel, .sentinel, .pinned], laidTests := true, laidLooks := .later }
def FnExactReadThroatUptoCardSaid : Prop := Claim7.holds Tryd.pinned (.plain (OpenSpec.upto fnExactReadThroatSpec)) fnExactReadThroatUptoCard

/-- THE SECOND FORM's CARD OF 'laws.FnExactReadPredictor'. -/
def fnExactReadPredictorUptoCard : Claim7 := { stood := { row := fnExactReadPredictorUptoRow, standIns := [], harness := (true, "8015b0875cdba522df86d1f7b4d5ab8cf1ec17e611c3ce5cf2e28a5ded97aab1"), looks := true }, kinds := [], alts := [], laidByText := true, laidKinds := [.data, .data, .data, .data, .sentinel, .sentinel, .pinned], laidTests := true, laidLooks := .later }
def FnExactReadPredictorUptoCardSaid : Prop := Claim7.holds Tryd.pinned (.plain (OpenSpec.upto fnExactReadPredictorSpec)) fnExactReadPredictorUptoCard

/-- THE SECOND FORM's CARD OF 'laws.FnExactReadTube'. -/
def fnExactReadTubeUptoCard : Claim7 := { stood := { row := fnExactReadTubeUptoRow, standIns := [], harness := (true, "8015b0875cdba522df86d1f7b4d5ab8cf1ec17e611c3ce5cf2e28a5ded97aab1"), looks := true }, kinds := [], alts := [], laidByText := true, laidKinds := [.data, .data, .data, .data, .sentinel, .sentinel, .pinned], laidTests := true, laidLooks := .later }
def FnExactReadTubeUptoCardSaid : Prop := Claim7.holds Tryd.pinned (.plain (OpenSpec.upto fnExactReadTubeSpec)) fnExactReadTubeUptoCard

/-- THE SECOND FORM's CARD OF 'laws.FnExactReadSounds'. -/
def fnExactReadSoundsUptoCard : Claim7 := { stood := { row := fnExactReadSoundsUptoRow, standIns := [], harness := (true, "8015b0875cdba522df86d1f7b4d5ab8cf1ec17e611c3ce5cf2e28a5ded97aab1"), looks := true }, kinds := [], alts := [], laidByText := true, laidKinds := [.data, .data, .data, .data, .sentinel, .sentinel, .pinned], laidTests := true, laidLooks := .later }
def FnExactReadSoundsUptoCardSaid : Prop := Claim7.holds Tryd.pinned (.plain (OpenSpec.upto fnExactReadSoundsSpec)) fnExactReadSoundsUptoCard
end Rows
end Go.Proofs.YtdfpfiecpcgffaaDoor
