/-
  No cell of these rows narrows 'for every input' (looked for: loops, veiled, ifaces, maps, wideKeys, modest, calm, conditions, laid).
  DERIVED. THE GIVEN ROWS OF THIS SEAT. 4 by the template 'for every input the law returns true; each argument reads behind the call as it read before'; 0 by the template 'total and deterministic' (their statements: YtijjapmbflebdaaTotals.lean).
  GIVEN WITH THE SEED: the statements are not yours to turn. If you find one false, say at which input.
  Laid BY PROGRAM, IN A SANDBOX (cutbox-rows.mjs): the forced cells as the released guide's own fill.sh prints them over the translation 52708c6edb09bf10… (all of the seat's roots in one cut). By AI agents, Wed Nov 11 2026. No macro, syntax, notation, axiom, sorry.
-/
import Derived.Test.YtijjapmbflebdaaChecked
import GoSem.Claim
import GoSem.ClaimJoined
import GoSem.ClaimMapViews
import Derived.JoinedTies
import Derived.KernelRfl
namespace Go.Proofs.Ytijjapmbflebdaa
/- THE CELL 'sum', in the pinned program and in every row, IS THE sha256 OF THE DUMP (.gsa) THAT YtijjapmbflebdaaProg.lean LOADS. Nothing in Lean hashes anything: it is a label: what it is worth is what the hold of that sum in a sandbox is worth. -/
noncomputable def Try.pinned : Pinned := { name := "ytijjapmbflebdaa", sum := "52708c6edb09bf10766e4efaa3279f09d00654c03a7c0be841298171fcd647df", checked := Try.checked }
namespace Rows
def none {H : Type} : Left H := { results := [], args := [] }

/-- 'laws.FnExactSyllablesIn': WHATEVER THE INPUT: true; the input reads as it did. -/
def fnExactSyllablesInSpec : ChangeSpec := { name := "fnExactSyllablesIn", fn := fun _ => fun
  | [d] => { results := [.lit (.bool true)], args := [d] }
  | _ => none }
def fnExactSyllablesInRow : OpenClaim := { program := "ytijjapmbflebdaa", sum := "52708c6edb09bf10766e4efaa3279f09d00654c03a7c0be841298171fcd647df", func := "loop.example/g01279/laws.FnExactSyllablesIn", spec := "fnExactSyllablesIn", inPlace := ["internal/bytealg.IndexByteString"], apart := false }
def FnExactSyllablesInSaid : Prop := fnExactSyllablesInRow.holds Try.pinned (OpenSpec.ofChange fnExactSyllablesInSpec)

/-- ITS FALSE NEIGHBOUR: 'it returns false'. Refute it at one input. -/
def fnExactSyllablesInWrong : ChangeSpec := { name := "fnExactSyllablesIn", fn := fun _ => fun
  | [d] => { results := [.lit (.bool false)], args := [d] }
  | _ => none }
def FnExactSyllablesInWrongFalsely : Prop := fnExactSyllablesInRow.holds Try.pinned (OpenSpec.ofChange fnExactSyllablesInWrong)

/-- 'laws.FnExactPlainRules': WHATEVER THE INPUT: true; the input reads as it did. -/
def fnExactPlainRulesSpec : ChangeSpec := { name := "fnExactPlainRules", fn := fun _ => fun
  | [] => { results := [.lit (.bool true)], args := [] }
  | _ => none }
def fnExactPlainRulesRow : OpenClaim := { program := "ytijjapmbflebdaa", sum := "52708c6edb09bf10766e4efaa3279f09d00654c03a7c0be841298171fcd647df", func := "loop.example/g01279/laws.FnExactPlainRules", spec := "fnExactPlainRules", apart := false }
def FnExactPlainRulesSaid : Prop := fnExactPlainRulesRow.holds Try.pinned (OpenSpec.ofChange fnExactPlainRulesSpec)

/-- ITS FALSE NEIGHBOUR: 'it returns false'. Refute it at one input. -/
def fnExactPlainRulesWrong : ChangeSpec := { name := "fnExactPlainRules", fn := fun _ => fun
  | [] => { results := [.lit (.bool false)], args := [] }
  | _ => none }
def FnExactPlainRulesWrongFalsely : Prop := fnExactPlainRulesRow.holds Try.pinned (OpenSpec.ofChange fnExactPlainRulesWrong)

/-- 'laws.FnExactSameRules': WHATEVER THE INPUT: true; the input reads as it did. -/
def fnExactSameRulesSpec : ChangeSpec := { name := "fnExactSameRules", fn := fun _ => fun
  | [d1, d2] => { results := [.lit (.bool true)], args := [d1, d2] }
  | _ => none }
def fnExactSameRulesRow : OpenClaim := { program := "ytijjapmbflebdaa", sum := "52708c6edb09bf10766e4efaa3279f09d00654c03a7c0be841298171fcd647df", func := "loop.example/g01279/laws.FnExactSameRules", spec := "fnExactSameRules", apart := false }
def FnExactSameRulesSaid : Prop := fnExactSameRulesRow.holds Try.pinned (OpenSpec.ofChange fnExactSameRulesSpec)

/-- ITS FALSE NEIGHBOUR: 'it returns false'. Refute it at one input. -/
def fnExactSameRulesWrong : ChangeSpec := { name := "fnExactSameRules", fn := fun _ => fun
  | [d1, d2] => { results := [.lit (.bool false)], args := [d1, d2] }
  | _ => none }
def FnExactSameRulesWrongFalsely : Prop := fnExactSameRulesRow.holds Try.pinned (OpenSpec.ofChange fnExactSameRulesWrong)

/-- 'laws.FnExactIsVowel': WHATEVER THE INPUT: true; the input reads as it did. -/
def fnExactIsVowelSpec : ChangeSpec := { name := "fnExactIsVowel", fn := fun _ => fun
  | [d] => { results := [.lit (.bool true)], args := [d] }
  | _ => none }
def fnExactIsVowelRow : OpenClaim := { program := "ytijjapmbflebdaa", sum := "52708c6edb09bf10766e4efaa3279f09d00654c03a7c0be841298171fcd647df", func := "loop.example/g01279/laws.FnExactIsVowel", spec := "fnExactIsVowel", inPlace := ["internal/bytealg.IndexByteString", "internal/bytealg.IndexString"], named := ["internal/bytealg.MaxLen"], apart := false }
def FnExactIsVowelSaid : Prop := fnExactIsVowelRow.holds Try.pinned (OpenSpec.ofChange fnExactIsVowelSpec)

/-- ITS FALSE NEIGHBOUR: 'it returns false'. Refute it at one input. -/
def fnExactIsVowelWrong : ChangeSpec := { name := "fnExactIsVowel", fn := fun _ => fun
  | [d] => { results := [.lit (.bool false)], args := [d] }
  | _ => none }
def FnExactIsVowelWrongFalsely : Prop := fnExactIsVowelRow.holds Try.pinned (OpenSpec.ofChange fnExactIsVowelWrong)

/- THE SECOND FORM. 'bulk': how many values and letters a reading holds, each counted each time it is reached (what is shared counts as often as it is met; a slice's spare places count too). A statement '..UptoSaid' is the law's where the arguments, and the package variables that the reading takes, are together of bulk at most 1048576: NARROWER than '..Said'. Prove '..Said' where nothing that the law and all that it calls make is longer than what came in: it says more and counts as full. Else prove '..UptoSaid'. A law counts once. -/
mutual
def uptoBulk {H : Type} : DataW H → Nat
  | .lit (.string bytes) => bytes.length + 1
  | .lit _ => 1
  | .nil => 1
  | .ptr d => uptoBulk d + 1
  | .slice elems spare => uptoBulkAll elems + uptoBulkAll spare + 1
  | .agg parts => uptoBulkAll parts + 1
  | .iface _ d => uptoBulk d + 1
  | .map entries => uptoBulkEntries entries + 1
  | .held _ => 1
def uptoBulkAll {H : Type} : List (DataW H) → Nat
  | [] => 0
  | d :: r => uptoBulk d + uptoBulkAll r
def uptoBulkEntries {H : Type} : List (Lit × DataW H) → Nat
  | [] => 0
  | x :: r => uptoBulkEntry x + uptoBulkEntries r
def uptoBulkEntry {H : Type} : Lit × DataW H → Nat
  | (.string bytes, d) => bytes.length + uptoBulk d + 1
  | (_, d) => uptoBulk d + 1
 end
def uptoSmall : (H : Type) → List (DataW H) → Bool := fun _ ds => decide (uptoBulkAll ds ≤ 1048576)
def OpenSpec.upto (s : _root_.Go.ChangeSpec) : _root_.Go.OpenSpec := { _root_.Go.OpenSpec.ofChange s with cond := some uptoSmall }

/-- 'laws.FnExactSyllablesIn', WHERE WHAT IT READS IS OF BULK AT MOST 1048576: true; the input reads as it did. -/
def fnExactSyllablesInUptoRow : OpenClaim := { program := "ytijjapmbflebdaa", sum := "52708c6edb09bf10766e4efaa3279f09d00654c03a7c0be841298171fcd647df", func := "loop.example/g01279/laws.FnExactSyllablesIn", spec := "fnExactSyllablesIn", inPlace := ["internal/bytealg.IndexByteString"], apart := false, narrowed := true }
def FnExactSyllablesInUptoSaid : Prop := fnExactSyllablesInUptoRow.holds Try.pinned (OpenSpec.upto fnExactSyllablesInSpec)

/-- 'laws.FnExactPlainRules', WHERE WHAT IT READS IS OF BULK AT MOST 1048576: true; the input reads as it did. -/
def fnExactPlainRulesUptoRow : OpenClaim := { program := "ytijjapmbflebdaa", sum := "52708c6edb09bf10766e4efaa3279f09d00654c03a7c0be841298171fcd647df", func := "loop.example/g01279/laws.FnExactPlainRules", spec := "fnExactPlainRules", apart := false, narrowed := true }
def FnExactPlainRulesUptoSaid : Prop := fnExactPlainRulesUptoRow.holds Try.pinned (OpenSpec.upto fnExactPlainRulesSpec)

/-- 'laws.FnExactSameRules', WHERE WHAT IT READS IS OF BULK AT MOST 1048576: true; the input reads as it did. -/
def fnExactSameRulesUptoRow : OpenClaim := { program := "ytijjapmbflebdaa", sum := "52708c6edb09bf10766e4efaa3279f09d00654c03a7c0be841298171fcd647df", func := "loop.example/g01279/laws.FnExactSameRules", spec := "fnExactSameRules", apart := false, narrowed := true }
def FnExactSameRulesUptoSaid : Prop := fnExactSameRulesUptoRow.holds Try.pinned (OpenSpec.upto fnExactSameRulesSpec)

/-- 'laws.FnExactIsVowel', WHERE WHAT IT READS IS OF BULK AT MOST 1048576: true; the input reads as it did. -/
def fnExactIsVowelUptoRow : OpenClaim := { program := "ytijjapmbflebdaa", sum := "52708c6edb09bf10766e4efaa3279f09d00654c03a7c0be841298171fcd647df", func := "loop.example/g01279/laws.FnExactIsVowel", spec := "fnExactIsVowel", inPlace := ["internal/bytealg.IndexByteString", "internal/bytealg.IndexString"], named := ["internal/bytealg.MaxLen"], apart := false, narrowed := true }
def FnExactIsVowelUptoSaid : Prop := fnExactIsVowelUptoRow.holds Try.pinned (OpenSpec.upto fnExactIsVowelSpec)

end Rows
end Go.Proofs.Ytijjapmbflebdaa
