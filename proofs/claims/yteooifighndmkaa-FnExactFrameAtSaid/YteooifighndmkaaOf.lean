import Derived.Test.YteooifighndmkaaOp
import Derived.Test.YteooifighndmkaaOpen
import Derived.Test.YteooifighndmkaaFp
set_option linter.unusedVariables false
set_option linter.unusedSimpArgs false
namespace Go.Proofs.Yteooifighndmkaa
open Go.RowKit Go.Proofs.YteooifighndmkaaW.PrintWords Go.Proofs.YteooifighndmkaaW.PrintFl Go.ChangeShapes Go.WideShapes
theorem opens_raw {P : Program} {t : TypeId} {k : FloatKind} (ht : P.underlying t = some (.float k)) : Opens P t (Kd.float k) (fun x => x < fw k) := by
  intro H enc w base spare held fuel cs x h _
  obtain ⟨n, rfl, _, hw⟩ := trod_float ht h
  exact ⟨n, rfl, wf_lt hw⟩
end Go.Proofs.Yteooifighndmkaa
