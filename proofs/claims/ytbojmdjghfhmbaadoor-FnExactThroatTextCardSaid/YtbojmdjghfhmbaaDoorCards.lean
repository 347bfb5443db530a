/-
  DERIVED. GIVEN WITH THE SEED: THE CARDS: each row of YtbojmdjghfhmbaaDoorRows.lean that lists a variable, with what it lists TIED to the program's text (the seventh form; the later family's looks); each row that meets fmt, with fmt's text TOLD by the authors' own Lean function (tested against real Go, not proved from fmt's source: count such statements apart). THE CARD IS WHAT COUNTS. Prove the row's statement (the work); the ties are given (YtbojmdjghfhmbaaDoorTie.lean); close each card by the builder's one call (the guide's Derived/Test/ToyasCard.lean, 'card_holds'). Laid BY PROGRAM, IN A SANDBOX (cutbox-door.mjs). By AI agents, Wed Nov 11 2026. No macro, syntax, notation, axiom, sorry.
-/
import Derived.Test.YtbojmdjghfhmbaaDoorRows
import GoSem.ClaimSeven
namespace Go.Proofs.YtbojmdjghfhmbaaDoor
namespace Rows

/-- THE TIED CARD OF 'laws.FnExactThroatText'. -/
def fnExactThroatTextCard : Claim7 := { stood := { row := fnExactThroatTextRow, standIns := [], harness := (true, "78721936d39902bdcc1e236b521de5db617f8ec3bba5665452dd1374de24a20e"), looks := true }, kinds := [], alts := [], laidByText := true, laidKinds := [.data, .data, .data], laidTests := true, laidLooks := .later }
def FnExactThroatTextCardSaid : Prop := Claim7.holds Tryd.pinned (.plain (OpenSpec.ofChange fnExactThroatTextSpec)) fnExactThroatTextCard

/-- THE TIED CARD OF 'laws.FnExactPredictorText'. -/
def fnExactPredictorTextCard : Claim7 := { stood := { row := fnExactPredictorTextRow, standIns := [], harness := (true, "78721936d39902bdcc1e236b521de5db617f8ec3bba5665452dd1374de24a20e"), looks := true }, kinds := [], alts := [], laidByText := true, laidKinds := [.data, .data, .data], laidTests := true, laidLooks := .later }
def FnExactPredictorTextCardSaid : Prop := Claim7.holds Tryd.pinned (.plain (OpenSpec.ofChange fnExactPredictorTextSpec)) fnExactPredictorTextCard

/-- THE TIED CARD OF 'laws.FnExactTubeText'. -/
def fnExactTubeTextCard : Claim7 := { stood := { row := fnExactTubeTextRow, standIns := [], harness := (true, "78721936d39902bdcc1e236b521de5db617f8ec3bba5665452dd1374de24a20e"), looks := true }, kinds := [], alts := [], laidByText := true, laidKinds := [.data, .data, .data], laidTests := true, laidLooks := .later }
def FnExactTubeTextCardSaid : Prop := Claim7.holds Tryd.pinned (.plain (OpenSpec.ofChange fnExactTubeTextSpec)) fnExactTubeTextCard

/-- THE TIED CARD OF 'laws.FnExactSoundsText'. -/
def fnExactSoundsTextCard : Claim7 := { stood := { row := fnExactSoundsTextRow, standIns := [], harness := (true, "78721936d39902bdcc1e236b521de5db617f8ec3bba5665452dd1374de24a20e"), looks := true }, kinds := [], alts := [], laidByText := true, laidKinds := [.data, .data, .data], laidTests := true, laidLooks := .later }
def FnExactSoundsTextCardSaid : Prop := Claim7.holds Tryd.pinned (.plain (OpenSpec.ofChange fnExactSoundsTextSpec)) fnExactSoundsTextCard

/-- THE TIED CARD OF 'laws.FnExactReadThroat'. -/
def fnExactReadThroatCard : Claim7 := { stood := { row := fnExactReadThroatRow, standIns := [], harness := (true, "78721936d39902bdcc1e236b521de5db617f8ec3bba5665452dd1374de24a20e"), looks := true }, kinds := [], alts := [], laidByText := true, laidKinds := [.data, .data, .data, .data, .sentinel, .sentinel, .pinned], laidTests := true, laidLooks := .later }
def FnExactReadThroatCardSaid : Prop := Claim7.holds Tryd.pinned (.plain (OpenSpec.ofChange fnExactReadThroatSpec)) fnExactReadThroatCard

/-- THE TIED CARD OF 'laws.FnExactReadPredictor'. -/
def fnExactReadPredictorCard : Claim7 := { stood := { row := fnExactReadPredictorRow, standIns := [], harness := (true, "78721936d39902bdcc1e236b521de5db617f8ec3bba5665452dd1374de24a20e"), looks := true }, kinds := [], alts := [], laidByText := true, laidKinds := [.data, .data, .data, .data, .sentinel, .sentinel, .pinned], laidTests := true, laidLooks := .later }
def FnExactReadPredictorCardSaid : Prop := Claim7.holds Tryd.pinned (.plain (OpenSpec.ofChange fnExactReadPredictorSpec)) fnExactReadPredictorCard

/-- THE TIED CARD OF 'laws.FnExactReadTube'. -/
def fnExactReadTubeCard : Claim7 := { stood := { row := fnExactReadTubeRow, standIns := [], harness := (true, "78721936d39902bdcc1e236b521de5db617f8ec3bba5665452dd1374de24a20e"), looks := true }, kinds := [], alts := [], laidByText := true, laidKinds := [.data, .data, .data, .data, .sentinel, .sentinel, .pinned], laidTests := true, laidLooks := .later }
def FnExactReadTubeCardSaid : Prop := Claim7.holds Tryd.pinned (.plain (OpenSpec.ofChange fnExactReadTubeSpec)) fnExactReadTubeCard

/-- THE TIED CARD OF 'laws.FnExactReadSounds'. -/
def fnExactReadSoundsCard : Claim7 := { stood := { row := fnExactReadSoundsRow, standIns := [], harness := (true, "78721936d39902bdcc1e236b521de5db617f8ec3bba5665452dd1374de24a20e"), looks := true }, kinds := [], alts := [], laidByText := true, laidKinds := [.data, .data, .data, .data, .sentinel, .sentinel, .pinned], laidTests := true, laidLooks := .later }
def FnExactReadSoundsCardSaid : Prop := Claim7.holds Tryd.pinned (.plain (OpenSpec.ofChange fnExactReadSoundsSpec)) fnExactReadSoundsCard

/-- THE TIED CARD OF 'laws.FnExactCountOutputs'. -/
def fnExactCountOutputsCard : Claim7 := { stood := { row := fnExactCountOutputsRow, standIns := [], harness := (true, "78721936d39902bdcc1e236b521de5db617f8ec3bba5665452dd1374de24a20e"), looks := true }, kinds := [], alts := [], laidByText := true, laidKinds := [.data, .pinned], laidTests := true, laidLooks := .later }
def FnExactCountOutputsCardSaid : Prop := Claim7.holds Tryd.pinned (.plain (OpenSpec.ofChange fnExactCountOutputsSpec)) fnExactCountOutputsCard

/-- THE TIED CARD OF 'laws.FnExactJournalOf'. -/
def fnExactJournalOfCard : Claim7 := { stood := { row := fnExactJournalOfRow, standIns := [], harness := (true, "78721936d39902bdcc1e236b521de5db617f8ec3bba5665452dd1374de24a20e"), looks := true }, kinds := [], alts := [], laidByText := true, laidKinds := [.data, .data, .data], laidTests := true, laidLooks := .later }
def FnExactJournalOfCardSaid : Prop := Claim7.holds Tryd.pinned (.plain (OpenSpec.ofChange fnExactJournalOfSpec)) fnExactJournalOfCard

/-- THE TIED CARD OF 'laws.FnExactRecoverJournal'. -/
def fnExactRecoverJournalCard : Claim7 := { stood := { row := fnExactRecoverJournalRow, standIns := [], harness := (true, "78721936d39902bdcc1e236b521de5db617f8ec3bba5665452dd1374de24a20e"), looks := true }, kinds := [], alts := [], laidByText := true, laidKinds := [.data, .data, .data], laidTests := true, laidLooks := .later }
def FnExactRecoverJournalCardSaid : Prop := Claim7.holds Tryd.pinned (.plain (OpenSpec.ofChange fnExactRecoverJournalSpec)) fnExactRecoverJournalCard

/-- THE SECOND FORM's CARD OF 'laws.FnExactThroatText'. -/
def fnExactThroatTextUptoCard : Claim7 := { stood := { row := fnExactThroatTextUptoRow, standIns := [], harness := (true, "78721936d39902bdcc1e236b521de5db617f8ec3bba5665452dd1374de24a20e"), looks := true }, kinds := [], alts := [], laidByText := true, laidKinds := [.data, .data, .data], laidTests := true, laidLooks := .later }
def FnExactThroatTextUptoCardSaid : Prop := Claim7.holds Tryd.pinned (.plain (OpenSpec.upto fnExactThroatTextSpec)) fnExactThroatTextUptoCard

/-- THE SECOND FORM's CARD OF 'laws.FnExactPredictorText'. -/
def fnExactPredictorTextUptoCard : Claim7 := { stood := { row := fnExactPredictorTextUptoRow, standIns := [], harness := (true, "78721936d39902bdcc1e236b521de5db617f8ec3bba5665452dd1374de24a20e"), looks := true }, kinds := [], alts := [], laidByText := true, laidKinds := [.data, .data, .data], laidTests := true, laidLooks := .later }
def FnExactPredictorTextUptoCardSaid : Prop := Claim7.holds Tryd.pinned (.plain (OpenSpec.upto fnExactPredictorTextSpec)) fnExactPredictorTextUptoCard

/-- THE SECOND FORM's CARD OF 'laws.FnExactTubeText'. -/
def fnExactTubeTextUptoCard : Claim7 := { stood := { row := fnExactTubeTextUptoRow, standIns := [], harness := (true, "78721936d39902bdcc1e236b521de5db617f8ec3bba5665452dd1374de24a20e"), looks := true }, kinds := [], alts := [], laidByText := true, laidKinds := [.data, .data, .data], laidTests := true, laidLooks := .later }
def FnExactTubeTextUptoCardSaid : Prop := Claim7.holds Tryd.pinned (.plain (OpenSpec.upto fnExactTubeTextSpec)) fnExactTubeTextUptoCard

/-- THE SECOND FORM's CARD OF 'laws.FnExactSoundsText'. -/
def fnExactSoundsTextUptoCard : Claim7 := { stood := { row := fnExactSoundsTextUptoRow, standIns := [], harness := (true, "78721936d39902bdcc1e236b521de5db617f8ec3bba5665452dd1374de24a20e"), looks := true }, kinds := [], alts := [], laidByText := true, laidKinds := [.data, .data, .data], laidTests := true, laidLooks := .later }
def FnExactSoundsTextUptoCardSaid : Prop := Claim7.holds Tryd.pinned (.plain (OpenSpec.upto fnExactSoundsTextSpec)) fnExactSoundsTextUptoCard

/-- THE SECOND FORM's CARD OF 'laws.FnExactReadThroat'. -/
def fnExactReadThroatUptoCard : Claim7 := { stood := { row := fnExactReadThroatUptoRow, standIns := [], harness := (true, "78721936d39902bdcc1e236b521de5db617f8ec3bba5665452dd1374de24a20e"), looks := true }, kinds := [], alts := [], laidByText := true, laidKinds := [.data, .data, .data, .data, .sentinel, .sentinel, .pinned], laidTests := true, laidLooks := .later }
def FnExactReadThroatUptoCardSaid : Prop := Claim7.holds Tryd.pinned (.plain (OpenSpec.upto fnExactReadThroatSpec)) fnExactReadThroatUptoCard

/-- THE SECOND FORM's CARD OF 'laws.FnExactReadPredictor'. -/
def fnExactReadPredictorUptoCard : Claim7 := { stood := { row := fnExactReadPredictorUptoRow, standIns := [], harness := (true, "78721936d39902bdcc1e236b521de5db617f8ec3bba5665452dd1374de24a20e"), looks := true }, kinds := [], alts := [], laidByText := true, laidKinds := [.data, .data, .data, .data, .sentinel, .sentinel, .pinned], laidTests := true, laidLooks := .later }
def FnExactReadPredictorUptoCardSaid : Prop := Claim7.holds Tryd.pinned (.plain (OpenSpec.upto fnExactReadPredictorSpec)) fnExactReadPredictorUptoCard

/-- THE SECOND FORM's CARD OF 'laws.FnExactReadTube'. -/
def fnExactReadTubeUptoCard : Claim7 := { stood := { row := fnExactReadTubeUptoRow, standIns := [], harness := (true, "78721936d39902bdcc1e236b521de5db617f8ec3bba5665452dd1374de24a20e"), looks := true }, kinds := [], alts := [], laidByText := true, laidKinds := [.data, .data, .data, .data, .sentinel, .sentinel, .pinned], laidTests := true, laidLooks := .later }
def FnExactReadTubeUptoCardSaid : Prop := Claim7.holds Tryd.pinned (.plain (OpenSpec.upto fnExactReadTubeSpec)) fnExactReadTubeUptoCard

/-- THE SECOND FORM's CARD OF 'laws.FnExactReadSounds'. -/
def fnExactReadSoundsUptoCard : Claim7 := { stood := { row := fnExactReadSoundsUptoRow, standIns := [], harness := (true, "78721936d39902bdcc1e236b521de5db617f8ec3bba5665452dd1374de24a20e"), looks := true }, kinds := [], alts := [], laidByText := true, laidKinds := [.data, .data, .data, .data, .sentinel, .sentinel, .pinned], laidTests := true, laidLooks := .later }
def FnExactReadSoundsUptoCardSaid : Prop := Claim7.holds Tryd.pinned (.plain (OpenSpec.upto fnExactReadSoundsSpec)) fnExactReadSoundsUptoCard

/-- THE SECOND FORM's CARD OF 'laws.FnExactCountOutputs'. -/
def fnExactCountOutputsUptoCard : Claim7 := { stood := { row := fnExactCountOutputsUptoRow, standIns := [], harness := (true, "78721936d39902bdcc1e236b521de5db617f8ec3bba5665452dd1374de24a20e"), looks := true }, kinds := [], alts := [], laidByText := true, laidKinds := [.data, .pinned], laidTests := true, laidLooks := .later }
def FnExactCountOutputsUptoCardSaid : Prop := Claim7.holds Tryd.pinned (.plain (OpenSpec.upto fnExactCountOutputsSpec)) fnExactCountOutputsUptoCard

/-- THE SECOND FORM's CARD OF 'laws.FnExactJournalOf'. -/
def fnExactJournalOfUptoCard : Claim7 := { stood := { row := fnExactJournalOfUptoRow, standIns := [], harness := (true, "78721936d39902bdcc1e236b521de5db617f8ec3bba5665452dd1374de24a20e"), looks := true }, kinds := [], alts := [], laidByText := true, laidKinds := [.data, .data, .data], laidTests := true, laidLooks := .later }
def FnExactJournalOfUptoCardSaid : Prop := Claim7.holds Tryd.pinned (.plain (OpenSpec.upto fnExactJournalOfSpec)) fnExactJournalOfUptoCard

/-- THE SECOND FORM's CARD OF 'laws.FnExactRecoverJournal'. -/
def fnExactRecoverJournalUptoCard : Claim7 := { stood := { row := fnExactRecoverJournalUptoRow, standIns := [], harness := (true, "78721936d39902bdcc1e236b521de5db617f8ec3bba5665452dd1374de24a20e"), looks := true }, kinds := [], alts := [], laidByText := true, laidKinds := [.data, .data, .data], laidTests := true, laidLooks := .later }
def FnExactRecoverJournalUptoCardSaid : Prop := Claim7.holds Tryd.pinned (.plain (OpenSpec.upto fnExactRecoverJournalSpec)) fnExactRecoverJournalUptoCard
end Rows
end Go.Proofs.YtbojmdjghfhmbaaDoor
