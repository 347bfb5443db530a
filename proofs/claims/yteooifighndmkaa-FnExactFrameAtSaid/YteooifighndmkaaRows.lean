/-
  No cell of these rows narrows 'for every input' (looked for: loops, veiled, ifaces, maps, wideKeys, modest, calm, conditions, laid).
  DERIVED. THE GIVEN ROWS OF THIS SEAT. 3 by the template 'for every input the law returns true; each argument reads behind the call as it read before'; 0 by the template 'total and deterministic' (their statements: YteooifighndmkaaTotals.lean).
  GIVEN WITH THE SEED: the statements are not yours to turn. If you find one false, say at which input.
  Laid BY PROGRAM, IN A SANDBOX (cutbox-rows.mjs): the forced cells as the released guide's own fill.sh prints them over the translation 7ef3d6962aba8b62… (all of the seat's roots in one cut). By AI agents, Wed Nov 11 2026. No macro, syntax, notation, axiom, sorry.
-/
import Derived.Test.YteooifighndmkaaChecked
import GoSem.Claim
import GoSem.ClaimJoined
import GoSem.ClaimMapViews
import Derived.JoinedTies
import Derived.KernelRfl
namespace Go.Proofs.Yteooifighndmkaa
/- THE CELL 'sum', in the pinned program and in every row, IS THE sha256 OF THE DUMP (.gsa) THAT YteooifighndmkaaProg.lean LOADS. Nothing in Lean hashes anything: it is a label: what it is worth is what the hold of that sum in a sandbox is worth. -/
noncomputable def Try.pinned : Pinned := { name := "yteooifighndmkaa", sum := "7ef3d6962aba8b62073b22e9a91ea095c599b84eb226f86e2044d76e94e5a2c8", checked := Try.checked }
namespace Rows
def none {H : Type} : Left H := { results := [], args := [] }

/-- 'laws.FnExactFrameAt': WHATEVER THE INPUT: true; the input reads as it did. -/
def fnExactFrameAtSpec : ChangeSpec := { name := "fnExactFrameAt", fn := fun _ => fun
  | [d1, d2, d3, d4] => { results := [.lit (.bool true)], args := [d1, d2, d3, d4] }
  | _ => none }
def fnExactFrameAtRow : OpenClaim := { program := "yteooifighndmkaa", sum := "7ef3d6962aba8b62073b22e9a91ea095c599b84eb226f86e2044d76e94e5a2c8", func := "loop.example/g01279/laws.FnExactFrameAt", spec := "fnExactFrameAt", unfollowed := true, recurses := true, apart := false }
def FnExactFrameAtSaid : Prop := fnExactFrameAtRow.holds Try.pinned (OpenSpec.ofChange fnExactFrameAtSpec)

/-- ITS FALSE NEIGHBOUR: 'it returns false'. Refute it at one input. -/
def fnExactFrameAtWrong : ChangeSpec := { name := "fnExactFrameAt", fn := fun _ => fun
  | [d1, d2, d3, d4] => { results := [.lit (.bool false)], args := [d1, d2, d3, d4] }
  | _ => none }
def FnExactFrameAtWrongFalsely : Prop := fnExactFrameAtRow.holds Try.pinned (OpenSpec.ofChange fnExactFrameAtWrong)

/-- 'laws.FnExactAddSound': WHATEVER THE INPUT: true; the input reads as it did. -/
def fnExactAddSoundSpec : ChangeSpec := { name := "fnExactAddSound", fn := fun _ => fun
  | [d1, d2] => { results := [.lit (.bool true)], args := [d1, d2] }
  | _ => none }
def fnExactAddSoundRow : OpenClaim := { program := "yteooifighndmkaa", sum := "7ef3d6962aba8b62073b22e9a91ea095c599b84eb226f86e2044d76e94e5a2c8", func := "loop.example/g01279/laws.FnExactAddSound", spec := "fnExactAddSound", inPlace := ["internal/bytealg.abigen_runtime_cmpstring"], unfollowed := true, recurses := true, apart := false }
def FnExactAddSoundSaid : Prop := fnExactAddSoundRow.holds Try.pinned (OpenSpec.ofChange fnExactAddSoundSpec)

/-- ITS FALSE NEIGHBOUR: 'it returns false'. Refute it at one input. -/
def fnExactAddSoundWrong : ChangeSpec := { name := "fnExactAddSound", fn := fun _ => fun
  | [d1, d2] => { results := [.lit (.bool false)], args := [d1, d2] }
  | _ => none }
def FnExactAddSoundWrongFalsely : Prop := fnExactAddSoundRow.holds Try.pinned (OpenSpec.ofChange fnExactAddSoundWrong)

/-- 'laws.FnExactSpeakFrames': WHATEVER THE INPUT: true; the input reads as it did. -/
def fnExactSpeakFramesSpec : ChangeSpec := { name := "fnExactSpeakFrames", fn := fun _ => fun
  | [d1, d2, d3, d4, d5] => { results := [.lit (.bool true)], args := [d1, d2, d3, d4, d5] }
  | _ => none }
def fnExactSpeakFramesRow : OpenClaim := { program := "yteooifighndmkaa", sum := "7ef3d6962aba8b62073b22e9a91ea095c599b84eb226f86e2044d76e94e5a2c8", func := "loop.example/g01279/laws.FnExactSpeakFrames", spec := "fnExactSpeakFrames", unfollowed := true, recurses := true, apart := false }
def FnExactSpeakFramesSaid : Prop := fnExactSpeakFramesRow.holds Try.pinned (OpenSpec.ofChange fnExactSpeakFramesSpec)

/-- ITS FALSE NEIGHBOUR: 'it returns false'. Refute it at one input. -/
def fnExactSpeakFramesWrong : ChangeSpec := { name := "fnExactSpeakFrames", fn := fun _ => fun
  | [d1, d2, d3, d4, d5] => { results := [.lit (.bool false)], args := [d1, d2, d3, d4, d5] }
  | _ => none }
def FnExactSpeakFramesWrongFalsely : Prop := fnExactSpeakFramesRow.holds Try.pinned (OpenSpec.ofChange fnExactSpeakFramesWrong)

/- THE SECOND FORM. 'bulk': how many values and letters a reading holds, each counted each time it is reached (what is shared counts as often as it is met; a slice's spare places count too). A statement '..UptoSaid' is the law's where the arguments, and the package variables that the reading takes, are together of bulk at most 1048576: NARROWER than '..Said'. Prove '..Said' where nothing that the law and all that it calls make is longer than what came in: it says more and counts as full. Else prove '..UptoSaid'. A law counts once. -/
mutual
def uptoBulk {H : Type} : DataW H → Nat
  | .lit (.string bytes) => bytes.length + 1
  | .lit _ => 1
  | .nil => 1
  | .ptr d => uptoBulk d + 1
  | .slice elems spare => uptoBulkAll elems + uptoBulkAll spare + 1
  | .agg parts => uptoBulkAll parts + 1
  | .iface _ d => uptoBulk d + 1
  | .map entries => uptoBulkEntries entries + 1
  | .held _ => 1
def uptoBulkAll {H : Type} : List (DataW H) → Nat
  | [] => 0
  | d :: r => uptoBulk d + uptoBulkAll r
def uptoBulkEntries {H : Type} : List (Lit × DataW H) → Nat
  | [] => 0
  | x :: r => uptoBulkEntry x + uptoBulkEntries r
def uptoBulkEntry {H : Type} : Lit × DataW H → Nat
  | (.string bytes, d) => bytes.length + uptoBulk d + 1
  | (_, d) => uptoBulk d + 1
 end
def uptoSmall : (H : Type) → List (DataW H) → Bool := fun _ ds => decide (uptoBulkAll ds ≤ 1048576)
def OpenSpec.upto (s : _root_.Go.ChangeSpec) : _root_.Go.OpenSpec := { _root_.Go.OpenSpec.ofChange s with cond := some uptoSmall }

/-- 'laws.FnExactFrameAt', WHERE WHAT IT READS IS OF BULK AT MOST 1048576: true; the input reads as it did. -/
def fnExactFrameAtUptoRow : OpenClaim := { program := "yteooifighndmkaa", sum := "7ef3d6962aba8b62073b22e9a91ea095c599b84eb226f86e2044d76e94e5a2c8", func := "loop.example/g01279/laws.FnExactFrameAt", spec := "fnExactFrameAt", unfollowed := true, recurses := true, apart := false, narrowed := true }
def FnExactFrameAtUptoSaid : Prop := fnExactFrameAtUptoRow.holds Try.pinned (OpenSpec.upto fnExactFrameAtSpec)

/-- 'laws.FnExactAddSound', WHERE WHAT IT READS IS OF BULK AT MOST 1048576: true; the input reads as it did. -/
def fnExactAddSoundUptoRow : OpenClaim := { program := "yteooifighndmkaa", sum := "7ef3d6962aba8b62073b22e9a91ea095c599b84eb226f86e2044d76e94e5a2c8", func := "loop.example/g01279/laws.FnExactAddSound", spec := "fnExactAddSound", inPlace := ["internal/bytealg.abigen_runtime_cmpstring"], unfollowed := true, recurses := true, apart := false, narrowed := true }
def FnExactAddSoundUptoSaid : Prop := fnExactAddSoundUptoRow.holds Try.pinned (OpenSpec.upto fnExactAddSoundSpec)

/-- 'laws.FnExactSpeakFrames', WHERE WHAT IT READS IS OF BULK AT MOST 1048576: true; the input reads as it did. -/
def fnExactSpeakFramesUptoRow : OpenClaim := { program := "yteooifighndmkaa", sum := "7ef3d6962aba8b62073b22e9a91ea095c599b84eb226f86e2044d76e94e5a2c8", func := "loop.example/g01279/laws.FnExactSpeakFrames", spec := "fnExactSpeakFrames", unfollowed := true, recurses := true, apart := false, narrowed := true }
def FnExactSpeakFramesUptoSaid : Prop := fnExactSpeakFramesUptoRow.holds Try.pinned (OpenSpec.upto fnExactSpeakFramesSpec)

end Rows
end Go.Proofs.Yteooifighndmkaa
