/- Floats by their bits, laid open as arguments. -/
import Derived.Test.YthnjgcdajjodjaaOp
import Derived.Test.YthnjgcdajjodjaaOpen
import Derived.Test.YthnjgcdajjodjaaFp
set_option linter.unusedVariables false
set_option linter.unusedSimpArgs false
namespace Go.Proofs.Ythnjgcdajjodjaa
open Go.RowKit Go.Proofs.YthnjgcdajjodjaaW.PrintWords Go.Proofs.YthnjgcdajjodjaaW.PrintFl Go.ChangeShapes Go.WideShapes
theorem opens_raw {P : Program} {t : TypeId} {k : FloatKind} (ht : P.underlying t = some (.float k)) : Opens P t (Kd.float k) (fun x => x < fw k) := by
  intro H enc w base spare held fuel cs x h _
  obtain ⟨n, rfl, _, hw⟩ := trod_float ht h
  exact ⟨n, rfl, wf_lt hw⟩
end Go.Proofs.Ythnjgcdajjodjaa
