/-
  NARROWER THAN 'FOR EVERY INPUT', by the rows' own cells (each row's printed sentence says how): FnExactValidRule: laid · FnExactRuleText: laid · FnExactReadRule: laid · FnExactMatchesAt: laid · FnExactDeadRules: laid · FnExactRulesFor: laid · FnExactSoundsOf: laid · FnExactSpellText: laid.
  DERIVED. THE GIVEN ROWS OF THIS SEAT. 8 by the template 'for every input the law returns true; each argument reads behind the call as it read before'; 0 by the template 'total and deterministic' (their statements: YtjkpbmdkkdofkaaDoorTotals.lean).
  GIVEN WITH THE SEED: the statements are not yours to turn. If you find one false, say at which input.
  Laid BY PROGRAM, IN A SANDBOX (cutbox-rows.mjs): the forced cells as the released guide's own fill.sh prints them over the translation 9ea23b90647d1d64… (all of the seat's roots in one cut). By AI agents, Wed Nov 11 2026. No macro, syntax, notation, axiom, sorry.
-/
import Derived.Test.YtjkpbmdkkdofkaaDoorChecked
import GoSem.PinnedTables
import GoSem.Claim
import GoSem.ClaimJoined
import GoSem.ClaimMapViews
import Derived.JoinedTies
import Derived.KernelRfl
namespace Go.Proofs.YtjkpbmdkkdofkaaDoor
/- THE CELL 'sum', in the pinned program and in every row, IS THE sha256 OF THE DUMP (.gsa) THAT YtjkpbmdkkdofkaaDoorProg.lean LOADS. Nothing in Lean hashes anything: it is a label: what it is worth is what the hold of that sum in a sandbox is worth. -/
noncomputable def Tryd.pinned : Pinned := { name := "ytjkpbmdkkdofkaadoor", sum := "9ea23b90647d1d641b4b9b6c8f1f48600fe98972e92f708aa2e3e35dd90fe9b7", checked := Tryd.checked }
namespace Rows
def none {H : Type} : Left H := { results := [], args := [] }

/- WHAT THE LISTED PACKAGE-LEVEL VARIABLES READ AS WHEN THE CALL BEGINS. Each datum BY PROGRAM (the guide's laid-datum.mjs) off the statement by which the dump's own 'gosem.cut.vars' lays the variable. In a bare row this is a premise. The card (YtjkpbmdkkdofkaaDoorCards.lean) ties it to the program's text. -/
def laid_unicode_utf8_acceptRanges {H : Type} : DataW H := .agg [.agg [.lit (.int .u8 128), .lit (.int .u8 191)], .agg [.lit (.int .u8 160), .lit (.int .u8 191)], .agg [.lit (.int .u8 128), .lit (.int .u8 159)], .agg [.lit (.int .u8 144), .lit (.int .u8 191)], .agg [.lit (.int .u8 128), .lit (.int .u8 143)], .agg [.lit (.int .u8 0), .lit (.int .u8 0)], .agg [.lit (.int .u8 0), .lit (.int .u8 0)], .agg [.lit (.int .u8 0), .lit (.int .u8 0)], .agg [.lit (.int .u8 0), .lit (.int .u8 0)], .agg [.lit (.int .u8 0), .lit (.int .u8 0)], .agg [.lit (.int .u8 0), .lit (.int .u8 0)], .agg [.lit (.int .u8 0), .lit (.int .u8 0)], .agg [.lit (.int .u8 0), .lit (.int .u8 0)], .agg [.lit (.int .u8 0), .lit (.int .u8 0)], .agg [.lit (.int .u8 0), .lit (.int .u8 0)], .agg [.lit (.int .u8 0), .lit (.int .u8 0)]]
/-- One of Go's own tables, pinned by name: the form's constant. -/
def laid_unicode_utf8_first : DataW Unit := Go.Pinned.utf8First

/-- 'laws.FnExactValidRule': WHATEVER THE INPUT: true; the input reads as it did. -/
def fnExactValidRuleSpec : ChangeSpec := { name := "fnExactValidRule", fn := fun _ => fun
  | [d] => { results := [.lit (.bool true)], args := [d] }
  | _ => none }
def fnExactValidRuleRow : OpenClaim := { program := "ytjkpbmdkkdofkaadoor", sum := "9ea23b90647d1d641b4b9b6c8f1f48600fe98972e92f708aa2e3e35dd90fe9b7", func := "loop.example/g01279/laws.FnExactValidRule", spec := "fnExactValidRule", inPlace := ["internal/bytealg.IndexByteString", "internal/bytealg.CountString", "internal/bytealg.IndexString"], unfollowed := true, recurses := true, named := ["unicode/utf8.first", "unicode/utf8.acceptRanges", "internal/bytealg.MaxLen"], apart := false, laid := [("unicode/utf8.acceptRanges", laid_unicode_utf8_acceptRanges), ("unicode/utf8.first", laid_unicode_utf8_first)] }
def FnExactValidRuleSaid : Prop := fnExactValidRuleRow.holds Tryd.pinned (OpenSpec.ofChange fnExactValidRuleSpec)

/-- ITS FALSE NEIGHBOUR: 'it returns false'. Refute it at one input. -/
def fnExactValidRuleWrong : ChangeSpec := { name := "fnExactValidRule", fn := fun _ => fun
  | [d] => { results := [.lit (.bool false)], args := [d] }
  | _ => none }
def FnExactValidRuleWrongFalsely : Prop := fnExactValidRuleRow.holds Tryd.pinned (OpenSpec.ofChange fnExactValidRuleWrong)

/-- 'laws.FnExactRuleText': WHATEVER THE INPUT: true; the input reads as it did. -/
def fnExactRuleTextSpec : ChangeSpec := { name := "fnExactRuleText", fn := fun _ => fun
  | [d] => { results := [.lit (.bool true)], args := [d] }
  | _ => none }
def fnExactRuleTextRow : OpenClaim := { program := "ytjkpbmdkkdofkaadoor", sum := "9ea23b90647d1d641b4b9b6c8f1f48600fe98972e92f708aa2e3e35dd90fe9b7", func := "loop.example/g01279/laws.FnExactRuleText", spec := "fnExactRuleText", inPlace := ["internal/bytealg.IndexByteString", "internal/bytealg.CountString", "internal/bytealg.IndexString"], unfollowed := true, recurses := true, named := ["unicode/utf8.first", "unicode/utf8.acceptRanges", "internal/bytealg.MaxLen"], apart := false, laid := [("unicode/utf8.acceptRanges", laid_unicode_utf8_acceptRanges), ("unicode/utf8.first", laid_unicode_utf8_first)] }
def FnExactRuleTextSaid : Prop := fnExactRuleTextRow.holds Tryd.pinned (OpenSpec.ofChange fnExactRuleTextSpec)

/-- ITS FALSE NEIGHBOUR: 'it returns false'. Refute it at one input. -/
def fnExactRuleTextWrong : ChangeSpec := { name := "fnExactRuleText", fn := fun _ => fun
  | [d] => { results := [.lit (.bool false)], args := [d] }
  | _ => none }
def FnExactRuleTextWrongFalsely : Prop := fnExactRuleTextRow.holds Tryd.pinned (OpenSpec.ofChange fnExactRuleTextWrong)

/-- 'laws.FnExactReadRule': WHATEVER THE INPUT: true; the input reads as it did. -/
def fnExactReadRuleSpec : ChangeSpec := { name := "fnExactReadRule", fn := fun _ => fun
  | [d] => { results := [.lit (.bool true)], args := [d] }
  | _ => none }
def fnExactReadRuleRow : OpenClaim := { program := "ytjkpbmdkkdofkaadoor", sum := "9ea23b90647d1d641b4b9b6c8f1f48600fe98972e92f708aa2e3e35dd90fe9b7", func := "loop.example/g01279/laws.FnExactReadRule", spec := "fnExactReadRule", inPlace := ["internal/bytealg.IndexByteString", "internal/bytealg.IndexString", "internal/bytealg.CountString"], unfollowed := true, recurses := true, named := ["internal/bytealg.MaxLen", "unicode/utf8.first", "unicode/utf8.acceptRanges"], apart := false, laid := [("unicode/utf8.acceptRanges", laid_unicode_utf8_acceptRanges), ("unicode/utf8.first", laid_unicode_utf8_first)] }
def FnExactReadRuleSaid : Prop := fnExactReadRuleRow.holds Tryd.pinned (OpenSpec.ofChange fnExactReadRuleSpec)

/-- ITS FALSE NEIGHBOUR: 'it returns false'. Refute it at one input. -/
def fnExactReadRuleWrong : ChangeSpec := { name := "fnExactReadRule", fn := fun _ => fun
  | [d] => { results := [.lit (.bool false)], args := [d] }
  | _ => none }
def FnExactReadRuleWrongFalsely : Prop := fnExactReadRuleRow.holds Tryd.pinned (OpenSpec.ofChange fnExactReadRuleWrong)

/-- 'laws.FnExactMatchesAt': WHATEVER THE INPUT: true; the input reads as it did. -/
def fnExactMatchesAtSpec : ChangeSpec := { name := "fnExactMatchesAt", fn := fun _ => fun
  | [d1, d2, d3] => { results := [.lit (.bool true)], args := [d1, d2, d3] }
  | _ => none }
def fnExactMatchesAtRow : OpenClaim := { program := "ytjkpbmdkkdofkaadoor", sum := "9ea23b90647d1d641b4b9b6c8f1f48600fe98972e92f708aa2e3e35dd90fe9b7", func := "loop.example/g01279/laws.FnExactMatchesAt", spec := "fnExactMatchesAt", inPlace := ["internal/bytealg.IndexByteString", "internal/bytealg.CountString", "internal/bytealg.IndexString"], unfollowed := true, recurses := true, named := ["unicode/utf8.first", "unicode/utf8.acceptRanges", "internal/bytealg.MaxLen"], apart := false, laid := [("unicode/utf8.acceptRanges", laid_unicode_utf8_acceptRanges), ("unicode/utf8.first", laid_unicode_utf8_first)] }
def FnExactMatchesAtSaid : Prop := fnExactMatchesAtRow.holds Tryd.pinned (OpenSpec.ofChange fnExactMatchesAtSpec)

/-- ITS FALSE NEIGHBOUR: 'it returns false'. Refute it at one input. -/
def fnExactMatchesAtWrong : ChangeSpec := { name := "fnExactMatchesAt", fn := fun _ => fun
  | [d1, d2, d3] => { results := [.lit (.bool false)], args := [d1, d2, d3] }
  | _ => none }
def FnExactMatchesAtWrongFalsely : Prop := fnExactMatchesAtRow.holds Tryd.pinned (OpenSpec.ofChange fnExactMatchesAtWrong)

/-- 'laws.FnExactDeadRules': WHATEVER THE INPUT: true; the input reads as it did. -/
def fnExactDeadRulesSpec : ChangeSpec := { name := "fnExactDeadRules", fn := fun _ => fun
  | [d] => { results := [.lit (.bool true)], args := [d] }
  | _ => none }
def fnExactDeadRulesRow : OpenClaim := { program := "ytjkpbmdkkdofkaadoor", sum := "9ea23b90647d1d641b4b9b6c8f1f48600fe98972e92f708aa2e3e35dd90fe9b7", func := "loop.example/g01279/laws.FnExactDeadRules", spec := "fnExactDeadRules", inPlace := ["internal/bytealg.IndexByteString", "internal/bytealg.CountString", "internal/bytealg.IndexString"], unfollowed := true, recurses := true, named := ["unicode/utf8.first", "unicode/utf8.acceptRanges", "internal/bytealg.MaxLen"], apart := false, laid := [("unicode/utf8.acceptRanges", laid_unicode_utf8_acceptRanges), ("unicode/utf8.first", laid_unicode_utf8_first)] }
def FnExactDeadRulesSaid : Prop := fnExactDeadRulesRow.holds Tryd.pinned (OpenSpec.ofChange fnExactDeadRulesSpec)

/-- ITS FALSE NEIGHBOUR: 'it returns false'. Refute it at one input. -/
def fnExactDeadRulesWrong : ChangeSpec := { name := "fnExactDeadRules", fn := fun _ => fun
  | [d] => { results := [.lit (.bool false)], args := [d] }
  | _ => none }
def FnExactDeadRulesWrongFalsely : Prop := fnExactDeadRulesRow.holds Tryd.pinned (OpenSpec.ofChange fnExactDeadRulesWrong)

/-- 'laws.FnExactRulesFor': WHATEVER THE INPUT: true; the input reads as it did. -/
def fnExactRulesForSpec : ChangeSpec := { name := "fnExactRulesFor", fn := fun _ => fun
  | [d1, d2] => { results := [.lit (.bool true)], args := [d1, d2] }
  | _ => none }
def fnExactRulesForRow : OpenClaim := { program := "ytjkpbmdkkdofkaadoor", sum := "9ea23b90647d1d641b4b9b6c8f1f48600fe98972e92f708aa2e3e35dd90fe9b7", func := "loop.example/g01279/laws.FnExactRulesFor", spec := "fnExactRulesFor", inPlace := ["internal/bytealg.IndexByteString", "internal/bytealg.CountString", "internal/bytealg.IndexString"], unfollowed := true, recurses := true, named := ["unicode/utf8.first", "unicode/utf8.acceptRanges", "internal/bytealg.MaxLen"], apart := false, laid := [("unicode/utf8.acceptRanges", laid_unicode_utf8_acceptRanges), ("unicode/utf8.first", laid_unicode_utf8_first)] }
def FnExactRulesForSaid : Prop := fnExactRulesForRow.holds Tryd.pinned (OpenSpec.ofChange fnExactRulesForSpec)

/-- ITS FALSE NEIGHBOUR: 'it returns false'. Refute it at one input. -/
def fnExactRulesForWrong : ChangeSpec := { name := "fnExactRulesFor", fn := fun _ => fun
  | [d1, d2] => { results := [.lit (.bool false)], args := [d1, d2] }
  | _ => none }
def FnExactRulesForWrongFalsely : Prop := fnExactRulesForRow.holds Tryd.pinned (OpenSpec.ofChange fnExactRulesForWrong)

/-- 'laws.FnExactSoundsOf': WHATEVER THE INPUT: true; the input reads as it did. -/
def fnExactSoundsOfSpec : ChangeSpec := { name := "fnExactSoundsOf", fn := fun _ => fun
  | [d1, d2] => { results := [.lit (.bool true)], args := [d1, d2] }
  | _ => none }
def fnExactSoundsOfRow : OpenClaim := { program := "ytjkpbmdkkdofkaadoor", sum := "9ea23b90647d1d641b4b9b6c8f1f48600fe98972e92f708aa2e3e35dd90fe9b7", func := "loop.example/g01279/laws.FnExactSoundsOf", spec := "fnExactSoundsOf", inPlace := ["internal/bytealg.IndexByteString", "internal/bytealg.CountString", "internal/bytealg.IndexString"], unfollowed := true, recurses := true, named := ["unicode/utf8.first", "unicode/utf8.acceptRanges", "internal/bytealg.MaxLen"], apart := false, laid := [("unicode/utf8.acceptRanges", laid_unicode_utf8_acceptRanges), ("unicode/utf8.first", laid_unicode_utf8_first)] }
def FnExactSoundsOfSaid : Prop := fnExactSoundsOfRow.holds Tryd.pinned (OpenSpec.ofChange fnExactSoundsOfSpec)

/-- ITS FALSE NEIGHBOUR: 'it returns false'. Refute it at one input. -/
def fnExactSoundsOfWrong : ChangeSpec := { name := "fnExactSoundsOf", fn := fun _ => fun
  | [d1, d2] => { results := [.lit (.bool false)], args := [d1, d2] }
  | _ => none }
def FnExactSoundsOfWrongFalsely : Prop := fnExactSoundsOfRow.holds Tryd.pinned (OpenSpec.ofChange fnExactSoundsOfWrong)

/-- 'laws.FnExactSpellText': WHATEVER THE INPUT: true; the input reads as it did. -/
def fnExactSpellTextSpec : ChangeSpec := { name := "fnExactSpellText", fn := fun _ => fun
  | [d1, d2] => { results := [.lit (.bool true)], args := [d1, d2] }
  | _ => none }
def fnExactSpellTextRow : OpenClaim := { program := "ytjkpbmdkkdofkaadoor", sum := "9ea23b90647d1d641b4b9b6c8f1f48600fe98972e92f708aa2e3e35dd90fe9b7", func := "loop.example/g01279/laws.FnExactSpellText", spec := "fnExactSpellText", inPlace := ["internal/bytealg.IndexByteString", "internal/bytealg.CountString", "internal/bytealg.IndexString"], unfollowed := true, recurses := true, named := ["unicode/utf8.first", "unicode/utf8.acceptRanges", "internal/bytealg.MaxLen"], apart := false, laid := [("unicode/utf8.acceptRanges", laid_unicode_utf8_acceptRanges), ("unicode/utf8.first", laid_unicode_utf8_first)] }
def FnExactSpellTextSaid : Prop := fnExactSpellTextRow.holds Tryd.pinned (OpenSpec.ofChange fnExactSpellTextSpec)

/-- ITS FALSE NEIGHBOUR: 'it returns false'. Refute it at one input. -/
def fnExactSpellTextWrong : ChangeSpec := { name := "fnExactSpellText", fn := fun _ => fun
  | [d1, d2] => { results := [.lit (.bool false)], args := [d1, d2] }
  | _ => none }
def FnExactSpellTextWrongFalsely : Prop := fnExactSpellTextRow.holds Tryd.pinned (OpenSpec.ofChange fnExactSpellTextWrong)

/- THE SECOND FORM. 'bulk': how many values and letters a reading holds, each counted each time it is reached (what is shared counts as often as it is met; a slice's spare places count too). A statement '..UptoSaid' is the law's where the arguments, and the package variables that the reading takes, are together of bulk at most 1048576: NARROWER than '..Said'. Prove '..Said' where nothing that the law and all that it calls make is longer than what came in: it says more and counts as full. Else prove '..UptoSaid'. A law counts once. -/
mutual
def uptoBulk {H : Type} : DataW H → Nat
  | .lit (.string bytes) => bytes.length + 1
  | .lit _ => 1
  | .nil => 1
  | .ptr d => uptoBulk d + 1
  | .slice elems spare => uptoBulkAll elems + uptoBulkAll spare + 1
  | .agg parts => uptoBulkAll parts + 1
  | .iface _ d => uptoBulk d + 1
  | .map entries => uptoBulkEntries entries + 1
  | .held _ => 1
def uptoBulkAll {H : Type} : List (DataW H) → Nat
  | [] => 0
  | d :: r => uptoBulk d + uptoBulkAll r
def uptoBulkEntries {H : Type} : List (Lit × DataW H) → Nat
  | [] => 0
  | x :: r => uptoBulkEntry x + uptoBulkEntries r
def uptoBulkEntry {H : Type} : Lit × DataW H → Nat
  | (.string bytes, d) => bytes.length + uptoBulk d + 1
  | (_, d) => uptoBulk d + 1
 end
def uptoSmall : (H : Type) → List (DataW H) → Bool := fun _ ds => decide (uptoBulkAll ds ≤ 1048576)
def OpenSpec.upto (s : _root_.Go.ChangeSpec) : _root_.Go.OpenSpec := { _root_.Go.OpenSpec.ofChange s with cond := some uptoSmall }

/-- 'laws.FnExactValidRule', WHERE WHAT IT READS IS OF BULK AT MOST 1048576: true; the input reads as it did. -/
def fnExactValidRuleUptoRow : OpenClaim := { program := "ytjkpbmdkkdofkaadoor", sum := "9ea23b90647d1d641b4b9b6c8f1f48600fe98972e92f708aa2e3e35dd90fe9b7", func := "loop.example/g01279/laws.FnExactValidRule", spec := "fnExactValidRule", inPlace := ["internal/bytealg.IndexByteString", "internal/bytealg.CountString", "internal/bytealg.IndexString"], unfollowed := true, recurses := true, named := ["unicode/utf8.first", "unicode/utf8.acceptRanges", "internal/bytealg.MaxLen"], apart := false, laid := [("unicode/utf8.acceptRanges", laid_unicode_utf8_acceptRanges), ("unicode/utf8.first", laid_unicode_utf8_first)], narrowed := true }
def FnExactValidRuleUptoSaid : Prop := fnExactValidRuleUptoRow.holds Tryd.pinned (OpenSpec.upto fnExactValidRuleSpec)

/-- 'laws.FnExactRuleText', WHERE WHAT IT READS IS OF BULK AT MOST 1048576: true; the input reads as it did. -/
def fnExactRuleTextUptoRow : OpenClaim := { program := "ytjkpbmdkkdofkaadoor", sum := "9ea23b90647d1d641b4b9b6c8f1f48600fe98972e92f708aa2e3e35dd90fe9b7", func := "loop.example/g01279/laws.FnExactRuleText", spec := "fnExactRuleText", inPlace := ["internal/bytealg.IndexByteString", "internal/bytealg.CountString", "internal/bytealg.IndexString"], unfollowed := true, recurses := true, named := ["unicode/utf8.first", "unicode/utf8.acceptRanges", "internal/bytealg.MaxLen"], apart := false, laid := [("unicode/utf8.acceptRanges", laid_unicode_utf8_acceptRanges), ("unicode/utf8.first", laid_unicode_utf8_first)], narrowed := true }
def FnExactRuleTextUptoSaid : Prop := fnExactRuleTextUptoRow.holds Tryd.pinned (OpenSpec.upto fnExactRuleTextSpec)

/-- 'laws.FnExactReadRule', WHERE WHAT IT READS IS OF BULK AT MOST 1048576: true; the input reads as it did. -/
def fnExactReadRuleUptoRow : OpenClaim := { program := "ytjkpbmdkkdofkaadoor", sum := "9ea23b90647d1d641b4b9b6c8f1f48600fe98972e92f708aa2e3e35dd90fe9b7", func := "loop.example/g01279/laws.FnExactReadRule", spec := "fnExactReadRule", inPlace := ["internal/bytealg.IndexByteString", "internal/bytealg.IndexString", "internal/bytealg.CountString"], unfollowed := true, recurses := true, named := ["internal/bytealg.MaxLen", "unicode/utf8.first", "unicode/utf8.acceptRanges"], apart := false, laid := [("unicode/utf8.acceptRanges", laid_unicode_utf8_acceptRanges), ("unicode/utf8.first", laid_unicode_utf8_first)], narrowed := true }
def FnExactReadRuleUptoSaid : Prop := fnExactReadRuleUptoRow.holds Tryd.pinned (OpenSpec.upto fnExactReadRuleSpec)

/-- 'laws.FnExactMatchesAt', WHERE WHAT IT READS IS OF BULK AT MOST 1048576: true; the input reads as it did. -/
def fnExactMatchesAtUptoRow : OpenClaim := { program := "ytjkpbmdkkdofkaadoor", sum := "9ea23b90647d1d641b4b9b6c8f1f48600fe98972e92f708aa2e3e35dd90fe9b7", func := "loop.example/g01279/laws.FnExactMatchesAt", spec := "fnExactMatchesAt", inPlace := ["internal/bytealg.IndexByteString", "internal/bytealg.CountString", "internal/bytealg.IndexString"], unfollowed := true, recurses := true, named := ["unicode/utf8.first", "unicode/utf8.acceptRanges", "internal/bytealg.MaxLen"], apart := false, laid := [("unicode/utf8.acceptRanges", laid_unicode_utf8_acceptRanges), ("unicode/utf8.first", laid_unicode_utf8_first)], narrowed := true }
def FnExactMatchesAtUptoSaid : Prop := fnExactMatchesAtUptoRow.holds Tryd.pinned (OpenSpec.upto fnExactMatchesAtSpec)

/-- 'laws.FnExactDeadRules', WHERE WHAT IT READS IS OF BULK AT MOST 1048576: true; the input reads as it did. -/
def fnExactDeadRulesUptoRow : OpenClaim := { program := "ytjkpbmdkkdofkaadoor", sum := "9ea23b90647d1d641b4b9b6c8f1f48600fe98972e92f708aa2e3e35dd90fe9b7", func := "loop.example/g01279/laws.FnExactDeadRules", spec := "fnExactDeadRules", inPlace := ["internal/bytealg.IndexByteString", "internal/bytealg.CountString", "internal/bytealg.IndexString"], unfollowed := true, recurses := true, named := ["unicode/utf8.first", "unicode/utf8.acceptRanges", "internal/bytealg.MaxLen"], apart := false, laid := [("unicode/utf8.acceptRanges", laid_unicode_utf8_acceptRanges), ("unicode/utf8.first", laid_unicode_utf8_first)], narrowed := true }
def FnExactDeadRulesUptoSaid : Prop := fnExactDeadRulesUptoRow.holds Tryd.pinned (OpenSpec.upto fnExactDeadRulesSpec)

/-- 'laws.FnExactRulesFor', WHERE WHAT IT READS IS OF BULK AT MOST 1048576: true; the input reads as it did. -/
def fnExactRulesForUptoRow : OpenClaim := { program := "ytjkpbmdkkdofkaadoor", sum := "9ea23b90647d1d641b4b9b6c8f1f48600fe98972e92f708aa2e3e35dd90fe9b7", func := "loop.example/g01279/laws.FnExactRulesFor", spec := "fnExactRulesFor", inPlace := ["internal/bytealg.IndexByteString", "internal/bytealg.CountString", "internal/bytealg.IndexString"], unfollowed := true, recurses := true, named := ["unicode/utf8.first", "unicode/utf8.acceptRanges", "internal/bytealg.MaxLen"], apart := false, laid := [("unicode/utf8.acceptRanges", laid_unicode_utf8_acceptRanges), ("unicode/utf8.first", laid_unicode_utf8_first)], narrowed := true }
def FnExactRulesForUptoSaid : Prop := fnExactRulesForUptoRow.holds Tryd.pinned (OpenSpec.upto fnExactRulesForSpec)

/-- 'laws.FnExactSoundsOf', WHERE WHAT IT READS IS OF BULK AT MOST 1048576: true; the input reads as it did. -/
def fnExactSoundsOfUptoRow : OpenClaim := { program := "ytjkpbmdkkdofkaadoor", sum := "9ea23b90647d1d641b4b9b6c8f1f48600fe98972e92f708aa2e3e35dd90fe9b7", func := "loop.example/g01279/laws.FnExactSoundsOf", spec := "fnExactSoundsOf", inPlace := ["internal/bytealg.IndexByteString", "internal/bytealg.CountString", "internal/bytealg.IndexString"], unfollowed := true, recurses := true, named := ["unicode/utf8.first", "unicode/utf8.acceptRanges", "internal/bytealg.MaxLen"], apart := false, laid := [("unicode/utf8.acceptRanges", laid_unicode_utf8_acceptRanges), ("unicode/utf8.first", laid_unicode_utf8_first)], narrowed := true }
def FnExactSoundsOfUptoSaid : Prop := fnExactSoundsOfUptoRow.holds Tryd.pinned (OpenSpec.upto fnExactSoundsOfSpec)

/-- 'laws.FnExactSpellText', WHERE WHAT IT READS IS OF BULK AT MOST 1048576: true; the input reads as it did. -/
def fnExactSpellTextUptoRow : OpenClaim := { program := "ytjkpbmdkkdofkaadoor", sum := "9ea23b90647d1d641b4b9b6c8f1f48600fe98972e92f708aa2e3e35dd90fe9b7", func := "loop.example/g01279/laws.FnExactSpellText", spec := "fnExactSpellText", inPlace := ["internal/bytealg.IndexByteString", "internal/bytealg.CountString", "internal/bytealg.IndexString"], unfollowed := true, recurses := true, named := ["unicode/utf8.first", "unicode/utf8.acceptRanges", "internal/bytealg.MaxLen"], apart := false, laid := [("unicode/utf8.acceptRanges", laid_unicode_utf8_acceptRanges), ("unicode/utf8.first", laid_unicode_utf8_first)], narrowed := true }
def FnExactSpellTextUptoSaid : Prop := fnExactSpellTextUptoRow.holds Tryd.pinned (OpenSpec.upto fnExactSpellTextSpec)

end Rows
end Go.Proofs.YtjkpbmdkkdofkaaDoor
