/-
  DERIVED. GIVEN WITH THE SEED: THE CARDS: each row of YtiebjnppmcpffaaDoorRows.lean that lists a variable, with what it lists TIED to the program's text (the seventh form; the later family's looks); each row that meets fmt, with fmt's text TOLD by the authors' own Lean function (tested against real Go, not proved from fmt's source: count such statements apart). THE CARD IS WHAT COUNTS. Prove the row's statement (the work); the ties are given (YtiebjnppmcpffaaDoorTie.lean); close each card by the builder's one call (the guide's Derived/Test/ToyasCard.lean, 'card_holds'). Laid BY PROGRAM, IN A SANDBOX (cutbox-door.mjs). By AI agents, Wed Nov 11 2026. No macro, syntax, notation, axiom, sorry.
-/
import Derived.Test.YtiebjnppmcpffaaDoorRows
import GoSem.ClaimSeven
namespace Go.Proofs.YtiebjnppmcpffaaDoor
namespace Rows

/-- THE TIED CARD OF 'laws.FnExactNumberWords'. -/
def fnExactNumberWordsCard : Claim7 := { stood := { row := fnExactNumberWordsRow, standIns := [], harness := (true, "5a4b3744878a1a5955c285d3432d66b303d3b4bef24eea04895ac41e1603120b"), looks := true }, kinds := [], alts := [], laidByText := true, laidKinds := [.data, .data], laidTests := true, laidLooks := .later }
def FnExactNumberWordsCardSaid : Prop := Claim7.holds Tryd.pinned (.plain (OpenSpec.ofChange fnExactNumberWordsSpec)) fnExactNumberWordsCard

/-- THE TIED CARD OF 'laws.FnExactReadNumberWords'. -/
def fnExactReadNumberWordsCard : Claim7 := { stood := { row := fnExactReadNumberWordsRow, standIns := [], harness := (true, "5a4b3744878a1a5955c285d3432d66b303d3b4bef24eea04895ac41e1603120b"), looks := true }, kinds := [], alts := [], laidByText := true, laidKinds := [.data, .data], laidTests := true, laidLooks := .later }
def FnExactReadNumberWordsCardSaid : Prop := Claim7.holds Tryd.pinned (.plain (OpenSpec.ofChange fnExactReadNumberWordsSpec)) fnExactReadNumberWordsCard

/-- THE TIED CARD OF 'laws.FnSpoken'. -/
def fnSpokenCard : Claim7 := { stood := { row := fnSpokenRow, standIns := [], harness := (true, "5a4b3744878a1a5955c285d3432d66b303d3b4bef24eea04895ac41e1603120b"), looks := true }, kinds := [], alts := [], laidByText := true, laidKinds := [.data, .data, .data, .data, .sentinel, .sentinel, .data, .data, .pinned], laidTests := true, laidLooks := .later }
def FnSpokenCardSaid : Prop := Claim7.holds Tryd.pinned (.plain (OpenSpec.ofChange fnSpokenSpec)) fnSpokenCard

/-- THE TIED CARD OF 'laws.FnExactSpeakNumbers'. -/
def fnExactSpeakNumbersCard : Claim7 := { stood := { row := fnExactSpeakNumbersRow, standIns := [], harness := (true, "5a4b3744878a1a5955c285d3432d66b303d3b4bef24eea04895ac41e1603120b"), looks := true }, kinds := [], alts := [], laidByText := true, laidKinds := [.data, .data, .data, .data, .sentinel, .sentinel, .data, .data, .pinned], laidTests := true, laidLooks := .later }
def FnExactSpeakNumbersCardSaid : Prop := Claim7.holds Tryd.pinned (.plain (OpenSpec.ofChange fnExactSpeakNumbersSpec)) fnExactSpeakNumbersCard

/-- THE SECOND FORM's CARD OF 'laws.FnExactNumberWords'. -/
def fnExactNumberWordsUptoCard : Claim7 := { stood := { row := fnExactNumberWordsUptoRow, standIns := [], harness := (true, "5a4b3744878a1a5955c285d3432d66b303d3b4bef24eea04895ac41e1603120b"), looks := true }, kinds := [], alts := [], laidByText := true, laidKinds := [.data, .data], laidTests := true, laidLooks := .later }
def FnExactNumberWordsUptoCardSaid : Prop := Claim7.holds Tryd.pinned (.plain (OpenSpec.upto fnExactNumberWordsSpec)) fnExactNumberWordsUptoCard

/-- THE SECOND FORM's CARD OF 'laws.FnExactReadNumberWords'. -/
def fnExactReadNumberWordsUptoCard : Claim7 := { stood := { row := fnExactReadNumberWordsUptoRow, standIns := [], harness := (true, "5a4b3744878a1a5955c285d3432d66b303d3b4bef24eea04895ac41e1603120b"), looks := true }, kinds := [], alts := [], laidByText := true, laidKinds := [.data, .data], laidTests := true, laidLooks := .later }
def FnExactReadNumberWordsUptoCardSaid : Prop := Claim7.holds Tryd.pinned (.plain (OpenSpec.upto fnExactReadNumberWordsSpec)) fnExactReadNumberWordsUptoCard

/-- THE SECOND FORM's CARD OF 'laws.FnSpoken'. -/
def fnSpokenUptoCard : Claim7 := { stood := { row := fnSpokenUptoRow, standIns := [], harness := (true, "5a4b3744878a1a5955c285d3432d66b303d3b4bef24eea04895ac41e1603120b"), looks := true }, kinds := [], alts := [], laidByText := true, laidKinds := [.data, .data, .data, .data, .sentinel, .sentinel, .data, .data, .pinned], laidTests := true, laidLooks := .later }
def FnSpokenUptoCardSaid : Prop := Claim7.holds Tryd.pinned (.plain (OpenSpec.upto fnSpokenSpec)) fnSpokenUptoCard

/-- THE SECOND FORM's CARD OF 'laws.FnExactSpeakNumbers'. -/
def fnExactSpeakNumbersUptoCard : Claim7 := { stood := { row := fnExactSpeakNumbersUptoRow, standIns := [], harness := (true, "5a4b3744878a1a5955c285d3432d66b303d3b4bef24eea04895ac41e1603120b"), looks := true }, kinds := [], alts := [], laidByText := true, laidKinds := [.data, .data, .data, .data, .sentinel, .sentinel, .data, .data, .pinned], laidTests := true, laidLooks := .later }
def FnExactSpeakNumbersUptoCardSaid : Prop := Claim7.holds Tryd.pinned (.plain (OpenSpec.upto fnExactSpeakNumbersSpec)) fnExactSpeakNumbersUptoCard
end Rows
end Go.Proofs.YtiebjnppmcpffaaDoor
