/-
  DERIVED. GIVEN WITH THE SEED: THE CARDS: each row of YtjkpbmdkkdofkaaDoorRows.lean that lists a variable, with what it lists TIED to the program's text (the seventh form; the later family's looks); each row that meets fmt, with fmt's text TOLD by the authors' own Lean function (tested against real Go, not proved from fmt's source: count such statements apart). THE CARD IS WHAT COUNTS. Prove the row's statement (the work); the ties are given (YtjkpbmdkkdofkaaDoorTie.lean); close each card by the builder's one call (the guide's Derived/Test/ToyasCard.lean, 'card_holds'). Laid BY PROGRAM, IN A SANDBOX (cutbox-door.mjs). By AI agents, Wed Nov 11 2026. No macro, syntax, notation, axiom, sorry.
-/
import Derived.Test.YtjkpbmdkkdofkaaDoorRows
import GoSem.ClaimSeven
namespace Go.Proofs.YtjkpbmdkkdofkaaDoor
namespace Rows

/-- THE TIED CARD OF 'laws.FnExactValidRule'. -/
def fnExactValidRuleCard : Claim7 := { stood := { row := fnExactValidRuleRow, standIns := [], harness := (true, "dda1ec6329a50665a5ff78e945ca84231c881ea41bd7db4a4c1403aa931b665c"), looks := false }, kinds := [], alts := [], laidByText := true, laidKinds := [.data, .pinned], laidTests := true, laidLooks := .later }
def FnExactValidRuleCardSaid : Prop := Claim7.holds Tryd.pinned (.plain (OpenSpec.ofChange fnExactValidRuleSpec)) fnExactValidRuleCard

/-- THE TIED CARD OF 'laws.FnExactRuleText'. -/
def fnExactRuleTextCard : Claim7 := { stood := { row := fnExactRuleTextRow, standIns := [], harness := (true, "dda1ec6329a50665a5ff78e945ca84231c881ea41bd7db4a4c1403aa931b665c"), looks := false }, kinds := [], alts := [], laidByText := true, laidKinds := [.data, .pinned], laidTests := true, laidLooks := .later }
def FnExactRuleTextCardSaid : Prop := Claim7.holds Tryd.pinned (.plain (OpenSpec.ofChange fnExactRuleTextSpec)) fnExactRuleTextCard

/-- THE TIED CARD OF 'laws.FnExactReadRule'. -/
def fnExactReadRuleCard : Claim7 := { stood := { row := fnExactReadRuleRow, standIns := [], harness := (true, "dda1ec6329a50665a5ff78e945ca84231c881ea41bd7db4a4c1403aa931b665c"), looks := false }, kinds := [], alts := [], laidByText := true, laidKinds := [.data, .pinned], laidTests := true, laidLooks := .later }
def FnExactReadRuleCardSaid : Prop := Claim7.holds Tryd.pinned (.plain (OpenSpec.ofChange fnExactReadRuleSpec)) fnExactReadRuleCard

/-- THE TIED CARD OF 'laws.FnExactMatchesAt'. -/
def fnExactMatchesAtCard : Claim7 := { stood := { row := fnExactMatchesAtRow, standIns := [], harness := (true, "dda1ec6329a50665a5ff78e945ca84231c881ea41bd7db4a4c1403aa931b665c"), looks := false }, kinds := [], alts := [], laidByText := true, laidKinds := [.data, .pinned], laidTests := true, laidLooks := .later }
def FnExactMatchesAtCardSaid : Prop := Claim7.holds Tryd.pinned (.plain (OpenSpec.ofChange fnExactMatchesAtSpec)) fnExactMatchesAtCard

/-- THE TIED CARD OF 'laws.FnExactDeadRules'. -/
def fnExactDeadRulesCard : Claim7 := { stood := { row := fnExactDeadRulesRow, standIns := [], harness := (true, "dda1ec6329a50665a5ff78e945ca84231c881ea41bd7db4a4c1403aa931b665c"), looks := false }, kinds := [], alts := [], laidByText := true, laidKinds := [.data, .pinned], laidTests := true, laidLooks := .later }
def FnExactDeadRulesCardSaid : Prop := Claim7.holds Tryd.pinned (.plain (OpenSpec.ofChange fnExactDeadRulesSpec)) fnExactDeadRulesCard

/-- THE TIED CARD OF 'laws.FnExactRulesFor'. -/
def fnExactRulesForCard : Claim7 := { stood := { row := fnExactRulesForRow, standIns := [], harness := (true, "dda1ec6329a50665a5ff78e945ca84231c881ea41bd7db4a4c1403aa931b665c"), looks := false }, kinds := [], alts := [], laidByText := true, laidKinds := [.data, .pinned], laidTests := true, laidLooks := .later }
def FnExactRulesForCardSaid : Prop := Claim7.holds Tryd.pinned (.plain (OpenSpec.ofChange fnExactRulesForSpec)) fnExactRulesForCard

/-- THE TIED CARD OF 'laws.FnExactSoundsOf'. -/
def fnExactSoundsOfCard : Claim7 := { stood := { row := fnExactSoundsOfRow, standIns := [], harness := (true, "dda1ec6329a50665a5ff78e945ca84231c881ea41bd7db4a4c1403aa931b665c"), looks := false }, kinds := [], alts := [], laidByText := true, laidKinds := [.data, .pinned], laidTests := true, laidLooks := .later }
def FnExactSoundsOfCardSaid : Prop := Claim7.holds Tryd.pinned (.plain (OpenSpec.ofChange fnExactSoundsOfSpec)) fnExactSoundsOfCard

/-- THE TIED CARD OF 'laws.FnExactSpellText'. -/
def fnExactSpellTextCard : Claim7 := { stood := { row := fnExactSpellTextRow, standIns := [], harness := (true, "dda1ec6329a50665a5ff78e945ca84231c881ea41bd7db4a4c1403aa931b665c"), looks := false }, kinds := [], alts := [], laidByText := true, laidKinds := [.data, .pinned], laidTests := true, laidLooks := .later }
def FnExactSpellTextCardSaid : Prop := Claim7.holds Tryd.pinned (.plain (OpenSpec.ofChange fnExactSpellTextSpec)) fnExactSpellTextCard

/-- THE SECOND FORM's CARD OF 'laws.FnExactValidRule'. -/
def fnExactValidRuleUptoCard : Claim7 := { stood := { row := fnExactValidRuleUptoRow, standIns := [], harness := (true, "dda1ec6329a50665a5ff78e945ca84231c881ea41bd7db4a4c1403aa931b665c"), looks := false }, kinds := [], alts := [], laidByText := true, laidKinds := [.data, .pinned], laidTests := true, laidLooks := .later }
def FnExactValidRuleUptoCardSaid : Prop := Claim7.holds Tryd.pinned (.plain (OpenSpec.upto fnExactValidRuleSpec)) fnExactValidRuleUptoCard

/-- THE SECOND FORM's CARD OF 'laws.FnExactRuleText'. -/
def fnExactRuleTextUptoCard : Claim7 := { stood := { row := fnExactRuleTextUptoRow, standIns := [], harness := (true, "dda1ec6329a50665a5ff78e945ca84231c881ea41bd7db4a4c1403aa931b665c"), looks := false }, kinds := [], alts := [], laidByText := true, laidKinds := [.data, .pinned], laidTests := true, laidLooks := .later }
def FnExactRuleTextUptoCardSaid : Prop := Claim7.holds Tryd.pinned (.plain (OpenSpec.upto fnExactRuleTextSpec)) fnExactRuleTextUptoCard

/-- THE SECOND FORM's CARD OF 'laws.FnExactReadRule'. -/
def fnExactReadRuleUptoCard : Claim7 := { stood := { row := fnExactReadRuleUptoRow, standIns := [], harness := (true, "dda1ec6329a50665a5ff78e945ca84231c881ea41bd7db4a4c1403aa931b665c"), looks := false }, kinds := [], alts := [], laidByText := true, laidKinds := [.data, .pinned], laidTests := true, laidLooks := .later }
def FnExactReadRuleUptoCardSaid : Prop := Claim7.holds Tryd.pinned (.plain (OpenSpec.upto fnExactReadRuleSpec)) fnExactReadRuleUptoCard

/-- THE SECOND FORM's CARD OF 'laws.FnExactMatchesAt'. -/
def fnExactMatchesAtUptoCard : Claim7 := { stood := { row := fnExactMatchesAtUptoRow, standIns := [], harness := (true, "dda1ec6329a50665a5ff78e945ca84231c881ea41bd7db4a4c1403aa931b665c"), looks := false }, kinds := [], alts := [], laidByText := true, laidKinds := [.data, .pinned], laidTests := true, laidLooks := .later }
def FnExactMatchesAtUptoCardSaid : Prop := Claim7.holds Tryd.pinned (.plain (OpenSpec.upto fnExactMatchesAtSpec)) fnExactMatchesAtUptoCard

/-- THE SECOND FORM's CARD OF 'laws.FnExactDeadRules'. -/
def fnExactDeadRulesUptoCard : Claim7 := { stood := { row := fnExactDeadRulesUptoRow, standIns := [], harness := (true, "dda1ec6329a50665a5ff78e945ca84231c881ea41bd7db4a4c1403aa931b665c"), looks := false }, kinds := [], alts := [], laidByText := true, laidKinds := [.data, .pinned], laidTests := true, laidLooks := .later }
def FnExactDeadRulesUptoCardSaid : Prop := Claim7.holds Tryd.pinned (.plain (OpenSpec.upto fnExactDeadRulesSpec)) fnExactDeadRulesUptoCard

/-- THE SECOND FORM's CARD OF 'laws.FnExactRulesFor'. -/
def fnExactRulesForUptoCard : Claim7 := { stood := { row := fnExactRulesForUptoRow, standIns := [], harness := (true, "dda1ec6329a50665a5ff78e945ca84231c881ea41bd7db4a4c1403aa931b665c"), looks := false }, kinds := [], alts := [], laidByText := true, laidKinds := [.data, .pinned], laidTests := true, laidLooks := .later }
def FnExactRulesForUptoCardSaid : Prop := Claim7.holds Tryd.pinned (.plain (OpenSpec.upto fnExactRulesForSpec)) fnExactRulesForUptoCard

/-- THE SECOND FORM's CARD OF 'laws.FnExactSoundsOf'. -/
def fnExactSoundsOfUptoCard : Claim7 := { stood := { row := fnExactSoundsOfUptoRow, standIns := [], harness := (true, "dda1ec6329a50665a5ff78e945ca84231c881ea41bd7db4a4c1403aa931b665c"), looks := false }, kinds := [], alts := [], laidByText := true, laidKinds := [.data, .pinned], laidTests := true, laidLooks := .later }
def FnExactSoundsOfUptoCardSaid : Prop := Claim7.holds Tryd.pinned (.plain (OpenSpec.upto fnExactSoundsOfSpec)) fnExactSoundsOfUptoCard

/-- THE SECOND FORM's CARD OF 'laws.FnExactSpellText'. -/
def fnExactSpellTextUptoCard : Claim7 := { stood := { row := fnExactSpellTextUptoRow, standIns := [], harness := (true, "dda1ec6329a50665a5ff78e945ca84231c881ea41bd7db4a4c1403aa931b665c"), looks := false }, kinds := [], alts := [], laidByText := true, laidKinds := [.data, .pinned], laidTests := true, laidLooks := .later }
def FnExactSpellTextUptoCardSaid : Prop := Claim7.holds Tryd.pinned (.plain (OpenSpec.upto fnExactSpellTextSpec)) fnExactSpellTextUptoCard
end Rows
end Go.Proofs.YtjkpbmdkkdofkaaDoor
