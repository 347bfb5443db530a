/- A rule (a struct of four strings) laid open as an argument. -/
import Derived.Test.YtjkpbmdkkdofkaaDoorOp
import Derived.Test.YtjkpbmdkkdofkaaDoorWWords
import Derived.Test.YtjkpbmdkkdofkaaDoorProg
set_option linter.unusedVariables false
set_option linter.unusedSimpArgs false
namespace Go.Proofs.YtjkpbmdkkdofkaaDoor
open Go.RowKit Go.Proofs.YtjkpbmdkkdofkaaDoorW.PrintWords Go.ChangeShapes Go.WideShapes
abbrev RuleT := ByteArray × ByteArray × ByteArray × ByteArray
noncomputable abbrev ruleKd : Kd RuleT := Kd.iso (Kd.pair Kd.string (Kd.pair Kd.string (Kd.pair Kd.string Kd.string))) (fun x : RuleT => x)
def ruleOk (x : RuleT) : Prop := x.1.size ≤ 140737488351232 ∧ x.2.1.size ≤ 140737488351232 ∧ x.2.2.1.size ≤ 140737488351232 ∧ x.2.2.2.size ≤ 140737488351232
theorem opens_rule : Opens Tryd.prog 23 ruleKd ruleOk :=
  opens_imp (opens_struct (P := Tryd.prog) (fun x : RuleT => x) (fun x => x) (fun _ => rfl) Tryd.underlying23 rfl (N := 4) (by kernel_rfl)
    (opensF_cons rfl (off' := 1) (by kernel_rfl) (opens_str Tryd.underlying9) (opensF_cons rfl (off' := 2) (by kernel_rfl) (opens_str Tryd.underlying9) (opensF_cons rfl (off' := 3) (by kernel_rfl) (opens_str Tryd.underlying9) (opensF_last rfl (by kernel_rfl) (opens_str Tryd.underlying9))))))
    (fun x h => h)
theorem rule_open {cs : Array Value} {y : RuleT} {w : World} (k : ruleKd.K w y cs.toList) : cs = #[.string y.1, .string y.2.1, .string y.2.2.1, .string y.2.2.2] := by
  obtain ⟨_, _, e0, rfl, ⟨_, _, e1, rfl, ⟨_, _, e2, rfl, rfl⟩⟩⟩ := k
  subst e2 e1
  rw [← Array.toArray_toList (xs := cs), e0]; rfl
end Go.Proofs.YtjkpbmdkkdofkaaDoor
