/-
  No cell of these rows narrows 'for every input' (looked for: loops, veiled, ifaces, maps, wideKeys, modest, calm, conditions, laid).
  DERIVED. THE GIVEN ROWS OF THIS SEAT. 10 by the template 'for every input the law returns true; each argument reads behind the call as it read before'; 0 by the template 'total and deterministic' (their statements: YtoiaojdkgagblaaTotals.lean).
  GIVEN WITH THE SEED: the statements are not yours to turn. If you find one false, say at which input.
  Laid BY PROGRAM, IN A SANDBOX (cutbox-rows.mjs): the forced cells as the released guide's own fill.sh prints them over the translation ed2e88aabc47073a… (all of the seat's roots in one cut). By AI agents, Wed Nov 11 2026. No macro, syntax, notation, axiom, sorry.
-/
import Derived.Test.YtoiaojdkgagblaaChecked
import GoSem.Claim
import GoSem.ClaimJoined
import GoSem.ClaimMapViews
import Derived.JoinedTies
import Derived.KernelRfl
namespace Go.Proofs.Ytoiaojdkgagblaa
/- THE CELL 'sum', in the pinned program and in every row, IS THE sha256 OF THE DUMP (.gsa) THAT YtoiaojdkgagblaaProg.lean LOADS. Nothing in Lean hashes anything: it is a label: what it is worth is what the hold of that sum in a sandbox is worth. -/
noncomputable def Try.pinned : Pinned := { name := "ytoiaojdkgagblaa", sum := "ed2e88aabc47073ab8d4551b6a90254754cf1a553c31ea111e4eef914aa063f2", checked := Try.checked }
namespace Rows
def none {H : Type} : Left H := { results := [], args := [] }

/-- 'laws.FnStoredOfAll': WHATEVER THE INPUT: true; the input reads as it did. -/
def fnStoredOfAllSpec : ChangeSpec := { name := "fnStoredOfAll", fn := fun _ => fun
  | [d1, d2, d3] => { results := [.lit (.bool true)], args := [d1, d2, d3] }
  | _ => none }
def fnStoredOfAllRow : OpenClaim := { program := "ytoiaojdkgagblaa", sum := "ed2e88aabc47073ab8d4551b6a90254754cf1a553c31ea111e4eef914aa063f2", func := "loop.example/g01279/laws.FnStoredOfAll", spec := "fnStoredOfAll", inPlace := ["math.Float32bits", "math.Float32frombits"], apart := false }
def FnStoredOfAllSaid : Prop := fnStoredOfAllRow.holds Try.pinned (OpenSpec.ofChange fnStoredOfAllSpec)

/-- ITS FALSE NEIGHBOUR: 'it returns false'. Refute it at one input. -/
def fnStoredOfAllWrong : ChangeSpec := { name := "fnStoredOfAll", fn := fun _ => fun
  | [d1, d2, d3] => { results := [.lit (.bool false)], args := [d1, d2, d3] }
  | _ => none }
def FnStoredOfAllWrongFalsely : Prop := fnStoredOfAllRow.holds Try.pinned (OpenSpec.ofChange fnStoredOfAllWrong)

/-- 'laws.FnExactPitchesOf': WHATEVER THE INPUT: true; the input reads as it did. -/
def fnExactPitchesOfSpec : ChangeSpec := { name := "fnExactPitchesOf", fn := fun _ => fun
  | [d1, d2, d3] => { results := [.lit (.bool true)], args := [d1, d2, d3] }
  | _ => none }
def fnExactPitchesOfRow : OpenClaim := { program := "ytoiaojdkgagblaa", sum := "ed2e88aabc47073ab8d4551b6a90254754cf1a553c31ea111e4eef914aa063f2", func := "loop.example/g01279/laws.FnExactPitchesOf", spec := "fnExactPitchesOf", unfollowed := true, recurses := true, apart := false }
def FnExactPitchesOfSaid : Prop := fnExactPitchesOfRow.holds Try.pinned (OpenSpec.ofChange fnExactPitchesOfSpec)

/-- ITS FALSE NEIGHBOUR: 'it returns false'. Refute it at one input. -/
def fnExactPitchesOfWrong : ChangeSpec := { name := "fnExactPitchesOf", fn := fun _ => fun
  | [d1, d2, d3] => { results := [.lit (.bool false)], args := [d1, d2, d3] }
  | _ => none }
def FnExactPitchesOfWrongFalsely : Prop := fnExactPitchesOfRow.holds Try.pinned (OpenSpec.ofChange fnExactPitchesOfWrong)

/-- 'laws.FnStored': WHATEVER THE INPUT: true; the input reads as it did. -/
def fnStoredSpec : ChangeSpec := { name := "fnStored", fn := fun _ => fun
  | [d1, d2] => { results := [.lit (.bool true)], args := [d1, d2] }
  | _ => none }
def fnStoredRow : OpenClaim := { program := "ytoiaojdkgagblaa", sum := "ed2e88aabc47073ab8d4551b6a90254754cf1a553c31ea111e4eef914aa063f2", func := "loop.example/g01279/laws.FnStored", spec := "fnStored", inPlace := ["math.Float32frombits", "math.Float32bits", "math.Float64bits"], apart := false }
def FnStoredSaid : Prop := fnStoredRow.holds Try.pinned (OpenSpec.ofChange fnStoredSpec)

/-- ITS FALSE NEIGHBOUR: 'it returns false'. Refute it at one input. -/
def fnStoredWrong : ChangeSpec := { name := "fnStored", fn := fun _ => fun
  | [d1, d2] => { results := [.lit (.bool false)], args := [d1, d2] }
  | _ => none }
def FnStoredWrongFalsely : Prop := fnStoredRow.holds Try.pinned (OpenSpec.ofChange fnStoredWrong)

/-- 'laws.FnExactRecoverBlocks': WHATEVER THE INPUT: true; the input reads as it did. -/
def fnExactRecoverBlocksSpec : ChangeSpec := { name := "fnExactRecoverBlocks", fn := fun _ => fun
  | [d] => { results := [.lit (.bool true)], args := [d] }
  | _ => none }
def fnExactRecoverBlocksRow : OpenClaim := { program := "ytoiaojdkgagblaa", sum := "ed2e88aabc47073ab8d4551b6a90254754cf1a553c31ea111e4eef914aa063f2", func := "loop.example/g01279/laws.FnExactRecoverBlocks", spec := "fnExactRecoverBlocks", inPlace := ["math.Float32frombits", "math.Float32bits"], apart := false }
def FnExactRecoverBlocksSaid : Prop := fnExactRecoverBlocksRow.holds Try.pinned (OpenSpec.ofChange fnExactRecoverBlocksSpec)

/-- ITS FALSE NEIGHBOUR: 'it returns false'. Refute it at one input. -/
def fnExactRecoverBlocksWrong : ChangeSpec := { name := "fnExactRecoverBlocks", fn := fun _ => fun
  | [d] => { results := [.lit (.bool false)], args := [d] }
  | _ => none }
def FnExactRecoverBlocksWrongFalsely : Prop := fnExactRecoverBlocksRow.holds Try.pinned (OpenSpec.ofChange fnExactRecoverBlocksWrong)

/-- 'laws.FnExactStretchSounds': WHATEVER THE INPUT: true; the input reads as it did. -/
def fnExactStretchSoundsSpec : ChangeSpec := { name := "fnExactStretchSounds", fn := fun _ => fun
  | [d1, d2] => { results := [.lit (.bool true)], args := [d1, d2] }
  | _ => none }
def fnExactStretchSoundsRow : OpenClaim := { program := "ytoiaojdkgagblaa", sum := "ed2e88aabc47073ab8d4551b6a90254754cf1a553c31ea111e4eef914aa063f2", func := "loop.example/g01279/laws.FnExactStretchSounds", spec := "fnExactStretchSounds", unfollowed := true, recurses := true, apart := false }
def FnExactStretchSoundsSaid : Prop := fnExactStretchSoundsRow.holds Try.pinned (OpenSpec.ofChange fnExactStretchSoundsSpec)

/-- ITS FALSE NEIGHBOUR: 'it returns false'. Refute it at one input. -/
def fnExactStretchSoundsWrong : ChangeSpec := { name := "fnExactStretchSounds", fn := fun _ => fun
  | [d1, d2] => { results := [.lit (.bool false)], args := [d1, d2] }
  | _ => none }
def FnExactStretchSoundsWrongFalsely : Prop := fnExactStretchSoundsRow.holds Try.pinned (OpenSpec.ofChange fnExactStretchSoundsWrong)

/-- 'laws.FnExactNewDesk': WHATEVER THE INPUT: true; the input reads as it did. -/
def fnExactNewDeskSpec : ChangeSpec := { name := "fnExactNewDesk", fn := fun _ => fun
  | [] => { results := [.lit (.bool true)], args := [] }
  | _ => none }
def fnExactNewDeskRow : OpenClaim := { program := "ytoiaojdkgagblaa", sum := "ed2e88aabc47073ab8d4551b6a90254754cf1a553c31ea111e4eef914aa063f2", func := "loop.example/g01279/laws.FnExactNewDesk", spec := "fnExactNewDesk", apart := false }
def FnExactNewDeskSaid : Prop := fnExactNewDeskRow.holds Try.pinned (OpenSpec.ofChange fnExactNewDeskSpec)

/-- ITS FALSE NEIGHBOUR: 'it returns false'. Refute it at one input. -/
def fnExactNewDeskWrong : ChangeSpec := { name := "fnExactNewDesk", fn := fun _ => fun
  | [] => { results := [.lit (.bool false)], args := [] }
  | _ => none }
def FnExactNewDeskWrongFalsely : Prop := fnExactNewDeskRow.holds Try.pinned (OpenSpec.ofChange fnExactNewDeskWrong)

/-- 'laws.FnExactDropSound': WHATEVER THE INPUT: true; the input reads as it did. -/
def fnExactDropSoundSpec : ChangeSpec := { name := "fnExactDropSound", fn := fun _ => fun
  | [d1, d2] => { results := [.lit (.bool true)], args := [d1, d2] }
  | _ => none }
def fnExactDropSoundRow : OpenClaim := { program := "ytoiaojdkgagblaa", sum := "ed2e88aabc47073ab8d4551b6a90254754cf1a553c31ea111e4eef914aa063f2", func := "loop.example/g01279/laws.FnExactDropSound", spec := "fnExactDropSound", unfollowed := true, recurses := true, apart := false }
def FnExactDropSoundSaid : Prop := fnExactDropSoundRow.holds Try.pinned (OpenSpec.ofChange fnExactDropSoundSpec)

/-- ITS FALSE NEIGHBOUR: 'it returns false'. Refute it at one input. -/
def fnExactDropSoundWrong : ChangeSpec := { name := "fnExactDropSound", fn := fun _ => fun
  | [d1, d2] => { results := [.lit (.bool false)], args := [d1, d2] }
  | _ => none }
def FnExactDropSoundWrongFalsely : Prop := fnExactDropSoundRow.holds Try.pinned (OpenSpec.ofChange fnExactDropSoundWrong)

/-- 'laws.FnExactSameDesk': WHATEVER THE INPUT: true; the input reads as it did. -/
def fnExactSameDeskSpec : ChangeSpec := { name := "fnExactSameDesk", fn := fun _ => fun
  | [d1, d2] => { results := [.lit (.bool true)], args := [d1, d2] }
  | _ => none }
def fnExactSameDeskRow : OpenClaim := { program := "ytoiaojdkgagblaa", sum := "ed2e88aabc47073ab8d4551b6a90254754cf1a553c31ea111e4eef914aa063f2", func := "loop.example/g01279/laws.FnExactSameDesk", spec := "fnExactSameDesk", inPlace := ["math.Float32bits", "math.Float64bits"], unfollowed := true, recurses := true, apart := false }
def FnExactSameDeskSaid : Prop := fnExactSameDeskRow.holds Try.pinned (OpenSpec.ofChange fnExactSameDeskSpec)

/-- ITS FALSE NEIGHBOUR: 'it returns false'. Refute it at one input. -/
def fnExactSameDeskWrong : ChangeSpec := { name := "fnExactSameDesk", fn := fun _ => fun
  | [d1, d2] => { results := [.lit (.bool false)], args := [d1, d2] }
  | _ => none }
def FnExactSameDeskWrongFalsely : Prop := fnExactSameDeskRow.holds Try.pinned (OpenSpec.ofChange fnExactSameDeskWrong)

/-- 'laws.FnExactValidDesk': WHATEVER THE INPUT: true; the input reads as it did. -/
def fnExactValidDeskSpec : ChangeSpec := { name := "fnExactValidDesk", fn := fun _ => fun
  | [d] => { results := [.lit (.bool true)], args := [d] }
  | _ => none }
def fnExactValidDeskRow : OpenClaim := { program := "ytoiaojdkgagblaa", sum := "ed2e88aabc47073ab8d4551b6a90254754cf1a553c31ea111e4eef914aa063f2", func := "loop.example/g01279/laws.FnExactValidDesk", spec := "fnExactValidDesk", unfollowed := true, recurses := true, apart := false }
def FnExactValidDeskSaid : Prop := fnExactValidDeskRow.holds Try.pinned (OpenSpec.ofChange fnExactValidDeskSpec)

/-- ITS FALSE NEIGHBOUR: 'it returns false'. Refute it at one input. -/
def fnExactValidDeskWrong : ChangeSpec := { name := "fnExactValidDesk", fn := fun _ => fun
  | [d] => { results := [.lit (.bool false)], args := [d] }
  | _ => none }
def FnExactValidDeskWrongFalsely : Prop := fnExactValidDeskRow.holds Try.pinned (OpenSpec.ofChange fnExactValidDeskWrong)

/-- 'laws.FnExactLengthsOf': WHATEVER THE INPUT: true; the input reads as it did. -/
def fnExactLengthsOfSpec : ChangeSpec := { name := "fnExactLengthsOf", fn := fun _ => fun
  | [d1, d2, d3] => { results := [.lit (.bool true)], args := [d1, d2, d3] }
  | _ => none }
def fnExactLengthsOfRow : OpenClaim := { program := "ytoiaojdkgagblaa", sum := "ed2e88aabc47073ab8d4551b6a90254754cf1a553c31ea111e4eef914aa063f2", func := "loop.example/g01279/laws.FnExactLengthsOf", spec := "fnExactLengthsOf", unfollowed := true, recurses := true, apart := false }
def FnExactLengthsOfSaid : Prop := fnExactLengthsOfRow.holds Try.pinned (OpenSpec.ofChange fnExactLengthsOfSpec)

/-- ITS FALSE NEIGHBOUR: 'it returns false'. Refute it at one input. -/
def fnExactLengthsOfWrong : ChangeSpec := { name := "fnExactLengthsOf", fn := fun _ => fun
  | [d1, d2, d3] => { results := [.lit (.bool false)], args := [d1, d2, d3] }
  | _ => none }
def FnExactLengthsOfWrongFalsely : Prop := fnExactLengthsOfRow.holds Try.pinned (OpenSpec.ofChange fnExactLengthsOfWrong)

/- THE SECOND FORM. 'bulk': how many values and letters a reading holds, each counted each time it is reached (what is shared counts as often as it is met; a slice's spare places count too). A statement '..UptoSaid' is the law's where the arguments, and the package variables that the reading takes, are together of bulk at most 1048576: NARROWER than '..Said'. Prove '..Said' where nothing that the law and all that it calls make is longer than what came in: it says more and counts as full. Else prove '..UptoSaid'. A law counts once. -/
mutual
def uptoBulk {H : Type} : DataW H → Nat
  | .lit (.string bytes) => bytes.length + 1
  | .lit _ => 1
  | .nil => 1
  | .ptr d => uptoBulk d + 1
  | .slice elems spare => uptoBulkAll elems + uptoBulkAll spare + 1
  | .agg parts => uptoBulkAll parts + 1
  | .iface _ d => uptoBulk d + 1
  | .map entries => uptoBulkEntries entries + 1
  | .held _ => 1
def uptoBulkAll {H : Type} : List (DataW H) → Nat
  | [] => 0
  | d :: r => uptoBulk d + uptoBulkAll r
def uptoBulkEntries {H : Type} : List (Lit × DataW H) → Nat
  | [] => 0
  | x :: r => uptoBulkEntry x + uptoBulkEntries r
def uptoBulkEntry {H : Type} : Lit × DataW H → Nat
  | (.string bytes, d) => bytes.length + uptoBulk d + 1
  | (_, d) => uptoBulk d + 1
 end
def uptoSmall : (H : Type) → List (DataW H) → Bool := fun _ ds => decide (uptoBulkAll ds ≤ 1048576)
def OpenSpec.upto (s : _root_.Go.ChangeSpec) : _root_.Go.OpenSpec := { _root_.Go.OpenSpec.ofChange s with cond := some uptoSmall }

/-- 'laws.FnStoredOfAll', WHERE WHAT IT READS IS OF BULK AT MOST 1048576: true; the input reads as it did. -/
def fnStoredOfAllUptoRow : OpenClaim := { program := "ytoiaojdkgagblaa", sum := "ed2e88aabc47073ab8d4551b6a90254754cf1a553c31ea111e4eef914aa063f2", func := "loop.example/g01279/laws.FnStoredOfAll", spec := "fnStoredOfAll", inPlace := ["math.Float32bits", "math.Float32frombits"], apart := false, narrowed := true }
def FnStoredOfAllUptoSaid : Prop := fnStoredOfAllUptoRow.holds Try.pinned (OpenSpec.upto fnStoredOfAllSpec)

/-- 'laws.FnExactPitchesOf', WHERE WHAT IT READS IS OF BULK AT MOST 1048576: true; the input reads as it did. -/
def fnExactPitchesOfUptoRow : OpenClaim := { program := "ytoiaojdkgagblaa", sum := "ed2e88aabc47073ab8d4551b6a90254754cf1a553c31ea111e4eef914aa063f2", func := "loop.example/g01279/laws.FnExactPitchesOf", spec := "fnExactPitchesOf", unfollowed := true, recurses := true, apart := false, narrowed := true }
def FnExactPitchesOfUptoSaid : Prop := fnExactPitchesOfUptoRow.holds Try.pinned (OpenSpec.upto fnExactPitchesOfSpec)

/-- 'laws.FnStored', WHERE WHAT IT READS IS OF BULK AT MOST 1048576: true; the input reads as it did. -/
def fnStoredUptoRow : OpenClaim := { program := "ytoiaojdkgagblaa", sum := "ed2e88aabc47073ab8d4551b6a90254754cf1a553c31ea111e4eef914aa063f2", func := "loop.example/g01279/laws.FnStored", spec := "fnStored", inPlace := ["math.Float32frombits", "math.Float32bits", "math.Float64bits"], apart := false, narrowed := true }
def FnStoredUptoSaid : Prop := fnStoredUptoRow.holds Try.pinned (OpenSpec.upto fnStoredSpec)

/-- 'laws.FnExactRecoverBlocks', WHERE WHAT IT READS IS OF BULK AT MOST 1048576: true; the input reads as it did. -/
def fnExactRecoverBlocksUptoRow : OpenClaim := { program := "ytoiaojdkgagblaa", sum := "ed2e88aabc47073ab8d4551b6a90254754cf1a553c31ea111e4eef914aa063f2", func := "loop.example/g01279/laws.FnExactRecoverBlocks", spec := "fnExactRecoverBlocks", inPlace := ["math.Float32frombits", "math.Float32bits"], apart := false, narrowed := true }
def FnExactRecoverBlocksUptoSaid : Prop := fnExactRecoverBlocksUptoRow.holds Try.pinned (OpenSpec.upto fnExactRecoverBlocksSpec)

/-- 'laws.FnExactStretchSounds', WHERE WHAT IT READS IS OF BULK AT MOST 1048576: true; the input reads as it did. -/
def fnExactStretchSoundsUptoRow : OpenClaim := { program := "ytoiaojdkgagblaa", sum := "ed2e88aabc47073ab8d4551b6a90254754cf1a553c31ea111e4eef914aa063f2", func := "loop.example/g01279/laws.FnExactStretchSounds", spec := "fnExactStretchSounds", unfollowed := true, recurses := true, apart := false, narrowed := true }
def FnExactStretchSoundsUptoSaid : Prop := fnExactStretchSoundsUptoRow.holds Try.pinned (OpenSpec.upto fnExactStretchSoundsSpec)

/-- 'laws.FnExactNewDesk', WHERE WHAT IT READS IS OF BULK AT MOST 1048576: true; the input reads as it did. -/
def fnExactNewDeskUptoRow : OpenClaim := { program := "ytoiaojdkgagblaa", sum := "ed2e88aabc47073ab8d4551b6a90254754cf1a553c31ea111e4eef914aa063f2", func := "loop.example/g01279/laws.FnExactNewDesk", spec := "fnExactNewDesk", apart := false, narrowed := true }
def FnExactNewDeskUptoSaid : Prop := fnExactNewDeskUptoRow.holds Try.pinned (OpenSpec.upto fnExactNewDeskSpec)

/-- 'laws.FnExactDropSound', WHERE WHAT IT READS IS OF BULK AT MOST 1048576: true; the input reads as it did. -/
def fnExactDropSoundUptoRow : OpenClaim := { program := "ytoiaojdkgagblaa", sum := "ed2e88aabc47073ab8d4551b6a90254754cf1a553c31ea111e4eef914aa063f2", func := "loop.example/g01279/laws.FnExactDropSound", spec := "fnExactDropSound", unfollowed := true, recurses := true, apart := false, narrowed := true }
def FnExactDropSoundUptoSaid : Prop := fnExactDropSoundUptoRow.holds Try.pinned (OpenSpec.upto fnExactDropSoundSpec)

/-- 'laws.FnExactSameDesk', WHERE WHAT IT READS IS OF BULK AT MOST 1048576: true; the input reads as it did. -/
def fnExactSameDeskUptoRow : OpenClaim := { program := "ytoiaojdkgagblaa", sum := "ed2e88aabc47073ab8d4551b6a90254754cf1a553c31ea111e4eef914aa063f2", func := "loop.example/g01279/laws.FnExactSameDesk", spec := "fnExactSameDesk", inPlace := ["math.Float32bits", "math.Float64bits"], unfollowed := true, recurses := true, apart := false, narrowed := true }
def FnExactSameDeskUptoSaid : Prop := fnExactSameDeskUptoRow.holds Try.pinned (OpenSpec.upto fnExactSameDeskSpec)

/-- 'laws.FnExactValidDesk', WHERE WHAT IT READS IS OF BULK AT MOST 1048576: true; the input reads as it did. -/
def fnExactValidDeskUptoRow : OpenClaim := { program := "ytoiaojdkgagblaa", sum := "ed2e88aabc47073ab8d4551b6a90254754cf1a553c31ea111e4eef914aa063f2", func := "loop.example/g01279/laws.FnExactValidDesk", spec := "fnExactValidDesk", unfollowed := true, recurses := true, apart := false, narrowed := true }
def FnExactValidDeskUptoSaid : Prop := fnExactValidDeskUptoRow.holds Try.pinned (OpenSpec.upto fnExactValidDeskSpec)

/-- 'laws.FnExactLengthsOf', WHERE WHAT IT READS IS OF BULK AT MOST 1048576: true; the input reads as it did. -/
def fnExactLengthsOfUptoRow : OpenClaim := { program := "ytoiaojdkgagblaa", sum := "ed2e88aabc47073ab8d4551b6a90254754cf1a553c31ea111e4eef914aa063f2", func := "loop.example/g01279/laws.FnExactLengthsOf", spec := "fnExactLengthsOf", unfollowed := true, recurses := true, apart := false, narrowed := true }
def FnExactLengthsOfUptoSaid : Prop := fnExactLengthsOfUptoRow.holds Try.pinned (OpenSpec.upto fnExactLengthsOfSpec)

end Rows
end Go.Proofs.Ytoiaojdkgagblaa
