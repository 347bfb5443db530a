/-
  DERIVED. GIVEN WITH THE SEED: THE CARDS: each row of YtmmcdpijpdjnoaaDoorRows.lean that lists a variable, with what it lists TIED to the program's text (the seventh form; the later family's looks); each row that meets fmt, with fmt's text TOLD by the authors' own Lean function (tested against real Go, not proved from fmt's source: count such statements apart). THE CARD IS WHAT COUNTS. Prove the row's statement (the work); the ties are given (YtmmcdpijpdjnoaaDoorTie.lean); close each card by the builder's one call (the guide's Derived/Test/ToyasCard.lean, 'card_holds'). Laid BY PROGRAM, IN A SANDBOX (cutbox-door.mjs). By AI agents, Wed Nov 11 2026. No macro, syntax, notation, axiom, sorry.
-/
import Derived.Test.YtmmcdpijpdjnoaaDoorRows
import GoSem.ClaimSeven
namespace Go.Proofs.YtmmcdpijpdjnoaaDoor
namespace Rows

/-- THE TIED CARD OF 'laws.FnRulesRead'. -/
def fnRulesReadCard : Claim7 := { stood := { row := fnRulesReadRow, standIns := [], harness := (true, "304c5aba63af5d20d210d9ff133e327cf8e019db8c8644a2fe40506e90073d35"), looks := false }, kinds := [], alts := [], laidByText := true, laidKinds := [.data, .pinned], laidTests := true, laidLooks := .later }
def FnRulesReadCardSaid : Prop := Claim7.holds Tryd.pinned (.plain (OpenSpec.ofChange fnRulesReadSpec)) fnRulesReadCard

/-- THE SECOND FORM's CARD OF 'laws.FnRulesRead'. -/
def fnRulesReadUptoCard : Claim7 := { stood := { row := fnRulesReadUptoRow, standIns := [], harness := (true, "304c5aba63af5d20d210d9ff133e327cf8e019db8c8644a2fe40506e90073d35"), looks := false }, kinds := [], alts := [], laidByText := true, laidKinds := [.data, .pinned], laidTests := true, laidLooks := .later }
def FnRulesReadUptoCardSaid : Prop := Claim7.holds Tryd.pinned (.plain (OpenSpec.upto fnRulesReadSpec)) fnRulesReadUptoCard
end Rows
end Go.Proofs.YtmmcdpijpdjnoaaDoor
