/-
  No cell of these rows narrows 'for every input' (looked for: loops, veiled, ifaces, maps, wideKeys, modest, calm, conditions, laid).
  DERIVED. THE GIVEN ROWS OF THIS SEAT. 10 by the template 'for every input the law returns true; each argument reads behind the call as it read before'; 0 by the template 'total and deterministic' (their statements: YtgiednkailakgaaTotals.lean).
  GIVEN WITH THE SEED: the statements are not yours to turn. If you find one false, say at which input.
  Laid BY PROGRAM, IN A SANDBOX (cutbox-rows.mjs): the forced cells as the released guide's own fill.sh prints them over the translation a47a408b596e23ee… (all of the seat's roots in one cut). By AI agents, Wed Nov 11 2026. No macro, syntax, notation, axiom, sorry.
-/
import Derived.Test.YtgiednkailakgaaChecked
import GoSem.Claim
import GoSem.ClaimJoined
import GoSem.ClaimMapViews
import Derived.JoinedTies
import Derived.KernelRfl
namespace Go.Proofs.Ytgiednkailakgaa
/- THE CELL 'sum', in the pinned program and in every row, IS THE sha256 OF THE DUMP (.gsa) THAT YtgiednkailakgaaProg.lean LOADS. Nothing in Lean hashes anything: it is a label: what it is worth is what the hold of that sum in a sandbox is worth. -/
noncomputable def Try.pinned : Pinned := { name := "ytgiednkailakgaa", sum := "a47a408b596e23ee3303314477256030fe20999d5efe85cd7d03917ca7ef2575", checked := Try.checked }
namespace Rows
def none {H : Type} : Left H := { results := [], args := [] }

/-- 'laws.FnExactValidBlock': WHATEVER THE INPUT: true; the input reads as it did. -/
def fnExactValidBlockSpec : ChangeSpec := { name := "fnExactValidBlock", fn := fun _ => fun
  | [d] => { results := [.lit (.bool true)], args := [d] }
  | _ => none }
def fnExactValidBlockRow : OpenClaim := { program := "ytgiednkailakgaa", sum := "a47a408b596e23ee3303314477256030fe20999d5efe85cd7d03917ca7ef2575", func := "loop.example/g01279/laws.FnExactValidBlock", spec := "fnExactValidBlock", apart := false }
def FnExactValidBlockSaid : Prop := fnExactValidBlockRow.holds Try.pinned (OpenSpec.ofChange fnExactValidBlockSpec)

/-- ITS FALSE NEIGHBOUR: 'it returns false'. Refute it at one input. -/
def fnExactValidBlockWrong : ChangeSpec := { name := "fnExactValidBlock", fn := fun _ => fun
  | [d] => { results := [.lit (.bool false)], args := [d] }
  | _ => none }
def FnExactValidBlockWrongFalsely : Prop := fnExactValidBlockRow.holds Try.pinned (OpenSpec.ofChange fnExactValidBlockWrong)

/-- 'laws.FnExactPackValues': WHATEVER THE INPUT: true; the input reads as it did. -/
def fnExactPackValuesSpec : ChangeSpec := { name := "fnExactPackValues", fn := fun _ => fun
  | [d] => { results := [.lit (.bool true)], args := [d] }
  | _ => none }
def fnExactPackValuesRow : OpenClaim := { program := "ytgiednkailakgaa", sum := "a47a408b596e23ee3303314477256030fe20999d5efe85cd7d03917ca7ef2575", func := "loop.example/g01279/laws.FnExactPackValues", spec := "fnExactPackValues", inPlace := ["math.Float32bits"], apart := false }
def FnExactPackValuesSaid : Prop := fnExactPackValuesRow.holds Try.pinned (OpenSpec.ofChange fnExactPackValuesSpec)

/-- ITS FALSE NEIGHBOUR: 'it returns false'. Refute it at one input. -/
def fnExactPackValuesWrong : ChangeSpec := { name := "fnExactPackValues", fn := fun _ => fun
  | [d] => { results := [.lit (.bool false)], args := [d] }
  | _ => none }
def FnExactPackValuesWrongFalsely : Prop := fnExactPackValuesRow.holds Try.pinned (OpenSpec.ofChange fnExactPackValuesWrong)

/-- 'laws.FnExactSameBlock': WHATEVER THE INPUT: true; the input reads as it did. -/
def fnExactSameBlockSpec : ChangeSpec := { name := "fnExactSameBlock", fn := fun _ => fun
  | [d1, d2] => { results := [.lit (.bool true)], args := [d1, d2] }
  | _ => none }
def fnExactSameBlockRow : OpenClaim := { program := "ytgiednkailakgaa", sum := "a47a408b596e23ee3303314477256030fe20999d5efe85cd7d03917ca7ef2575", func := "loop.example/g01279/laws.FnExactSameBlock", spec := "fnExactSameBlock", inPlace := ["math.Float32bits", "math.Float64bits"], apart := false }
def FnExactSameBlockSaid : Prop := fnExactSameBlockRow.holds Try.pinned (OpenSpec.ofChange fnExactSameBlockSpec)

/-- ITS FALSE NEIGHBOUR: 'it returns false'. Refute it at one input. -/
def fnExactSameBlockWrong : ChangeSpec := { name := "fnExactSameBlock", fn := fun _ => fun
  | [d1, d2] => { results := [.lit (.bool false)], args := [d1, d2] }
  | _ => none }
def FnExactSameBlockWrongFalsely : Prop := fnExactSameBlockRow.holds Try.pinned (OpenSpec.ofChange fnExactSameBlockWrong)

/-- 'laws.FnExactUnpackValues': WHATEVER THE INPUT: true; the input reads as it did. -/
def fnExactUnpackValuesSpec : ChangeSpec := { name := "fnExactUnpackValues", fn := fun _ => fun
  | [d] => { results := [.lit (.bool true)], args := [d] }
  | _ => none }
def fnExactUnpackValuesRow : OpenClaim := { program := "ytgiednkailakgaa", sum := "a47a408b596e23ee3303314477256030fe20999d5efe85cd7d03917ca7ef2575", func := "loop.example/g01279/laws.FnExactUnpackValues", spec := "fnExactUnpackValues", inPlace := ["math.Float32frombits", "math.Float32bits"], apart := false }
def FnExactUnpackValuesSaid : Prop := fnExactUnpackValuesRow.holds Try.pinned (OpenSpec.ofChange fnExactUnpackValuesSpec)

/-- ITS FALSE NEIGHBOUR: 'it returns false'. Refute it at one input. -/
def fnExactUnpackValuesWrong : ChangeSpec := { name := "fnExactUnpackValues", fn := fun _ => fun
  | [d] => { results := [.lit (.bool false)], args := [d] }
  | _ => none }
def FnExactUnpackValuesWrongFalsely : Prop := fnExactUnpackValuesRow.holds Try.pinned (OpenSpec.ofChange fnExactUnpackValuesWrong)

/-- 'laws.FnExactStoreBlock': WHATEVER THE INPUT: true; the input reads as it did. -/
def fnExactStoreBlockSpec : ChangeSpec := { name := "fnExactStoreBlock", fn := fun _ => fun
  | [d] => { results := [.lit (.bool true)], args := [d] }
  | _ => none }
def fnExactStoreBlockRow : OpenClaim := { program := "ytgiednkailakgaa", sum := "a47a408b596e23ee3303314477256030fe20999d5efe85cd7d03917ca7ef2575", func := "loop.example/g01279/laws.FnExactStoreBlock", spec := "fnExactStoreBlock", inPlace := ["math.Float32bits"], apart := false }
def FnExactStoreBlockSaid : Prop := fnExactStoreBlockRow.holds Try.pinned (OpenSpec.ofChange fnExactStoreBlockSpec)

/-- ITS FALSE NEIGHBOUR: 'it returns false'. Refute it at one input. -/
def fnExactStoreBlockWrong : ChangeSpec := { name := "fnExactStoreBlock", fn := fun _ => fun
  | [d] => { results := [.lit (.bool false)], args := [d] }
  | _ => none }
def FnExactStoreBlockWrongFalsely : Prop := fnExactStoreBlockRow.holds Try.pinned (OpenSpec.ofChange fnExactStoreBlockWrong)

/-- 'laws.FnStoredOfAll': WHATEVER THE INPUT: true; the input reads as it did. -/
def fnStoredOfAllSpec : ChangeSpec := { name := "fnStoredOfAll", fn := fun _ => fun
  | [d1, d2, d3] => { results := [.lit (.bool true)], args := [d1, d2, d3] }
  | _ => none }
def fnStoredOfAllRow : OpenClaim := { program := "ytgiednkailakgaa", sum := "a47a408b596e23ee3303314477256030fe20999d5efe85cd7d03917ca7ef2575", func := "loop.example/g01279/laws.FnStoredOfAll", spec := "fnStoredOfAll", inPlace := ["math.Float32bits", "math.Float32frombits"], apart := false }
def FnStoredOfAllSaid : Prop := fnStoredOfAllRow.holds Try.pinned (OpenSpec.ofChange fnStoredOfAllSpec)

/-- ITS FALSE NEIGHBOUR: 'it returns false'. Refute it at one input. -/
def fnStoredOfAllWrong : ChangeSpec := { name := "fnStoredOfAll", fn := fun _ => fun
  | [d1, d2, d3] => { results := [.lit (.bool false)], args := [d1, d2, d3] }
  | _ => none }
def FnStoredOfAllWrongFalsely : Prop := fnStoredOfAllRow.holds Try.pinned (OpenSpec.ofChange fnStoredOfAllWrong)

/-- 'laws.FnExactStoreBlocks': WHATEVER THE INPUT: true; the input reads as it did. -/
def fnExactStoreBlocksSpec : ChangeSpec := { name := "fnExactStoreBlocks", fn := fun _ => fun
  | [d] => { results := [.lit (.bool true)], args := [d] }
  | _ => none }
def fnExactStoreBlocksRow : OpenClaim := { program := "ytgiednkailakgaa", sum := "a47a408b596e23ee3303314477256030fe20999d5efe85cd7d03917ca7ef2575", func := "loop.example/g01279/laws.FnExactStoreBlocks", spec := "fnExactStoreBlocks", inPlace := ["math.Float32bits"], apart := false }
def FnExactStoreBlocksSaid : Prop := fnExactStoreBlocksRow.holds Try.pinned (OpenSpec.ofChange fnExactStoreBlocksSpec)

/-- ITS FALSE NEIGHBOUR: 'it returns false'. Refute it at one input. -/
def fnExactStoreBlocksWrong : ChangeSpec := { name := "fnExactStoreBlocks", fn := fun _ => fun
  | [d] => { results := [.lit (.bool false)], args := [d] }
  | _ => none }
def FnExactStoreBlocksWrongFalsely : Prop := fnExactStoreBlocksRow.holds Try.pinned (OpenSpec.ofChange fnExactStoreBlocksWrong)

/-- 'laws.FnExactLoadBlock': WHATEVER THE INPUT: true; the input reads as it did. -/
def fnExactLoadBlockSpec : ChangeSpec := { name := "fnExactLoadBlock", fn := fun _ => fun
  | [d] => { results := [.lit (.bool true)], args := [d] }
  | _ => none }
def fnExactLoadBlockRow : OpenClaim := { program := "ytgiednkailakgaa", sum := "a47a408b596e23ee3303314477256030fe20999d5efe85cd7d03917ca7ef2575", func := "loop.example/g01279/laws.FnExactLoadBlock", spec := "fnExactLoadBlock", inPlace := ["math.Float32frombits", "math.Float32bits"], apart := false }
def FnExactLoadBlockSaid : Prop := fnExactLoadBlockRow.holds Try.pinned (OpenSpec.ofChange fnExactLoadBlockSpec)

/-- ITS FALSE NEIGHBOUR: 'it returns false'. Refute it at one input. -/
def fnExactLoadBlockWrong : ChangeSpec := { name := "fnExactLoadBlock", fn := fun _ => fun
  | [d] => { results := [.lit (.bool false)], args := [d] }
  | _ => none }
def FnExactLoadBlockWrongFalsely : Prop := fnExactLoadBlockRow.holds Try.pinned (OpenSpec.ofChange fnExactLoadBlockWrong)

/-- 'laws.FnStored': WHATEVER THE INPUT: true; the input reads as it did. -/
def fnStoredSpec : ChangeSpec := { name := "fnStored", fn := fun _ => fun
  | [d1, d2] => { results := [.lit (.bool true)], args := [d1, d2] }
  | _ => none }
def fnStoredRow : OpenClaim := { program := "ytgiednkailakgaa", sum := "a47a408b596e23ee3303314477256030fe20999d5efe85cd7d03917ca7ef2575", func := "loop.example/g01279/laws.FnStored", spec := "fnStored", inPlace := ["math.Float32frombits", "math.Float32bits", "math.Float64bits"], apart := false }
def FnStoredSaid : Prop := fnStoredRow.holds Try.pinned (OpenSpec.ofChange fnStoredSpec)

/-- ITS FALSE NEIGHBOUR: 'it returns false'. Refute it at one input. -/
def fnStoredWrong : ChangeSpec := { name := "fnStored", fn := fun _ => fun
  | [d1, d2] => { results := [.lit (.bool false)], args := [d1, d2] }
  | _ => none }
def FnStoredWrongFalsely : Prop := fnStoredRow.holds Try.pinned (OpenSpec.ofChange fnStoredWrong)

/-- 'laws.FnExactRecoverBlocks': WHATEVER THE INPUT: true; the input reads as it did. -/
def fnExactRecoverBlocksSpec : ChangeSpec := { name := "fnExactRecoverBlocks", fn := fun _ => fun
  | [d] => { results := [.lit (.bool true)], args := [d] }
  | _ => none }
def fnExactRecoverBlocksRow : OpenClaim := { program := "ytgiednkailakgaa", sum := "a47a408b596e23ee3303314477256030fe20999d5efe85cd7d03917ca7ef2575", func := "loop.example/g01279/laws.FnExactRecoverBlocks", spec := "fnExactRecoverBlocks", inPlace := ["math.Float32frombits", "math.Float32bits"], apart := false }
def FnExactRecoverBlocksSaid : Prop := fnExactRecoverBlocksRow.holds Try.pinned (OpenSpec.ofChange fnExactRecoverBlocksSpec)

/-- ITS FALSE NEIGHBOUR: 'it returns false'. Refute it at one input. -/
def fnExactRecoverBlocksWrong : ChangeSpec := { name := "fnExactRecoverBlocks", fn := fun _ => fun
  | [d] => { results := [.lit (.bool false)], args := [d] }
  | _ => none }
def FnExactRecoverBlocksWrongFalsely : Prop := fnExactRecoverBlocksRow.holds Try.pinned (OpenSpec.ofChange fnExactRecoverBlocksWrong)

/- THE SECOND FORM. 'bulk': how many values and letters a reading holds, each counted each time it is reached (what is shared counts as often as it is met; a slice's spare places count too). A statement '..UptoSaid' is the law's where the arguments, and the package variables that the reading takes, are together of bulk at most 1048576: NARROWER than '..Said'. Prove '..Said' where nothing that the law and all that it calls make is longer than what came in: it says more and counts as full. Else prove '..UptoSaid'. A law counts once. -/
mutual
def uptoBulk {H : Type} : DataW H → Nat
  | .lit (.string bytes) => bytes.length + 1
  | .lit _ => 1
  | .nil => 1
  | .ptr d => uptoBulk d + 1
  | .slice elems spare => uptoBulkAll elems + uptoBulkAll spare + 1
  | .agg parts => uptoBulkAll parts + 1
  | .iface _ d => uptoBulk d + 1
  | .map entries => uptoBulkEntries entries + 1
  | .held _ => 1
def uptoBulkAll {H : Type} : List (DataW H) → Nat
  | [] => 0
  | d :: r => uptoBulk d + uptoBulkAll r
def uptoBulkEntries {H : Type} : List (Lit × DataW H) → Nat
  | [] => 0
  | x :: r => uptoBulkEntry x + uptoBulkEntries r
def uptoBulkEntry {H : Type} : Lit × DataW H → Nat
  | (.string bytes, d) => bytes.length + uptoBulk d + 1
  | (_, d) => uptoBulk d + 1
 end
def uptoSmall : (H : Type) → List (DataW H) → Bool := fun _ ds => decide (uptoBulkAll ds ≤ 1048576)
def OpenSpec.upto (s : _root_.Go.ChangeSpec) : _root_.Go.OpenSpec := { _root_.Go.OpenSpec.ofChange s with cond := some uptoSmall }

/-- 'laws.FnExactValidBlock', WHERE WHAT IT READS IS OF BULK AT MOST 1048576: true; the input reads as it did. -/
def fnExactValidBlockUptoRow : OpenClaim := { program := "ytgiednkailakgaa", sum := "a47a408b596e23ee3303314477256030fe20999d5efe85cd7d03917ca7ef2575", func := "loop.example/g01279/laws.FnExactValidBlock", spec := "fnExactValidBlock", apart := false, narrowed := true }
def FnExactValidBlockUptoSaid : Prop := fnExactValidBlockUptoRow.holds Try.pinned (OpenSpec.upto fnExactValidBlockSpec)

/-- 'laws.FnExactPackValues', WHERE WHAT IT READS IS OF BULK AT MOST 1048576: true; the input reads as it did. -/
def fnExactPackValuesUptoRow : OpenClaim := { program := "ytgiednkailakgaa", sum := "a47a408b596e23ee3303314477256030fe20999d5efe85cd7d03917ca7ef2575", func := "loop.example/g01279/laws.FnExactPackValues", spec := "fnExactPackValues", inPlace := ["math.Float32bits"], apart := false, narrowed := true }
def FnExactPackValuesUptoSaid : Prop := fnExactPackValuesUptoRow.holds Try.pinned (OpenSpec.upto fnExactPackValuesSpec)

/-- 'laws.FnExactSameBlock', WHERE WHAT IT READS IS OF BULK AT MOST 1048576: true; the input reads as it did. -/
def fnExactSameBlockUptoRow : OpenClaim := { program := "ytgiednkailakgaa", sum := "a47a408b596e23ee3303314477256030fe20999d5efe85cd7d03917ca7ef2575", func := "loop.example/g01279/laws.FnExactSameBlock", spec := "fnExactSameBlock", inPlace := ["math.Float32bits", "math.Float64bits"], apart := false, narrowed := true }
def FnExactSameBlockUptoSaid : Prop := fnExactSameBlockUptoRow.holds Try.pinned (OpenSpec.upto fnExactSameBlockSpec)

/-- 'laws.FnExactUnpackValues', WHERE WHAT IT READS IS OF BULK AT MOST 1048576: true; the input reads as it did. -/
def fnExactUnpackValuesUptoRow : OpenClaim := { program := "ytgiednkailakgaa", sum := "a47a408b596e23ee3303314477256030fe20999d5efe85cd7d03917ca7ef2575", func := "loop.example/g01279/laws.FnExactUnpackValues", spec := "fnExactUnpackValues", inPlace := ["math.Float32frombits", "math.Float32bits"], apart := false, narrowed := true }
def FnExactUnpackValuesUptoSaid : Prop := fnExactUnpackValuesUptoRow.holds Try.pinned (OpenSpec.upto fnExactUnpackValuesSpec)

/-- 'laws.FnExactStoreBlock', WHERE WHAT IT READS IS OF BULK AT MOST 1048576: true; the input reads as it did. -/
def fnExactStoreBlockUptoRow : OpenClaim := { program := "ytgiednkailakgaa", sum := "a47a408b596e23ee3303314477256030fe20999d5efe85cd7d03917ca7ef2575", func := "loop.example/g01279/laws.FnExactStoreBlock", spec := "fnExactStoreBlock", inPlace := ["math.Float32bits"], apart := false, narrowed := true }
def FnExactStoreBlockUptoSaid : Prop := fnExactStoreBlockUptoRow.holds Try.pinned (OpenSpec.upto fnExactStoreBlockSpec)

/-- 'laws.FnStoredOfAll', WHERE WHAT IT READS IS OF BULK AT MOST 1048576: true; the input reads as it did. -/
def fnStoredOfAllUptoRow : OpenClaim := { program := "ytgiednkailakgaa", sum := "a47a408b596e23ee3303314477256030fe20999d5efe85cd7d03917ca7ef2575", func := "loop.example/g01279/laws.FnStoredOfAll", spec := "fnStoredOfAll", inPlace := ["math.Float32bits", "math.Float32frombits"], apart := false, narrowed := true }
def FnStoredOfAllUptoSaid : Prop := fnStoredOfAllUptoRow.holds Try.pinned (OpenSpec.upto fnStoredOfAllSpec)

/-- 'laws.FnExactStoreBlocks', WHERE WHAT IT READS IS OF BULK AT MOST 1048576: true; the input reads as it did. -/
def fnExactStoreBlocksUptoRow : OpenClaim := { program := "ytgiednkailakgaa", sum := "a47a408b596e23ee3303314477256030fe20999d5efe85cd7d03917ca7ef2575", func := "loop.example/g01279/laws.FnExactStoreBlocks", spec := "fnExactStoreBlocks", inPlace := ["math.Float32bits"], apart := false, narrowed := true }
def FnExactStoreBlocksUptoSaid : Prop := fnExactStoreBlocksUptoRow.holds Try.pinned (OpenSpec.upto fnExactStoreBlocksSpec)

/-- 'laws.FnExactLoadBlock', WHERE WHAT IT READS IS OF BULK AT MOST 1048576: true; the input reads as it did. -/
def fnExactLoadBlockUptoRow : OpenClaim := { program := "ytgiednkailakgaa", sum := "a47a408b596e23ee3303314477256030fe20999d5efe85cd7d03917ca7ef2575", func := "loop.example/g01279/laws.FnExactLoadBlock", spec := "fnExactLoadBlock", inPlace := ["math.Float32frombits", "math.Float32bits"], apart := false, narrowed := true }
def FnExactLoadBlockUptoSaid : Prop := fnExactLoadBlockUptoRow.holds Try.pinned (OpenSpec.upto fnExactLoadBlockSpec)

/-- 'laws.FnStored', WHERE WHAT IT READS IS OF BULK AT MOST 1048576: true; the input reads as it did. -/
def fnStoredUptoRow : OpenClaim := { program := "ytgiednkailakgaa", sum := "a47a408b596e23ee3303314477256030fe20999d5efe85cd7d03917ca7ef2575", func := "loop.example/g01279/laws.FnStored", spec := "fnStored", inPlace := ["math.Float32frombits", "math.Float32bits", "math.Float64bits"], apart := false, narrowed := true }
def FnStoredUptoSaid : Prop := fnStoredUptoRow.holds Try.pinned (OpenSpec.upto fnStoredSpec)

/-- 'laws.FnExactRecoverBlocks', WHERE WHAT IT READS IS OF BULK AT MOST 1048576: true; the input reads as it did. -/
def fnExactRecoverBlocksUptoRow : OpenClaim := { program := "ytgiednkailakgaa", sum := "a47a408b596e23ee3303314477256030fe20999d5efe85cd7d03917ca7ef2575", func := "loop.example/g01279/laws.FnExactRecoverBlocks", spec := "fnExactRecoverBlocks", inPlace := ["math.Float32frombits", "math.Float32bits"], apart := false, narrowed := true }
def FnExactRecoverBlocksUptoSaid : Prop := fnExactRecoverBlocksUptoRow.holds Try.pinned (OpenSpec.upto fnExactRecoverBlocksSpec)

end Rows
end Go.Proofs.Ytgiednkailakgaa
