/- Arguments of laws that are floats, laid open by their kinds. -/
import Derived.Test.YthnjgcdajjodjaaFl
import Derived.Test.YthnjgcdajjodjaaOp
set_option linter.unusedVariables false
set_option linter.unusedSimpArgs false
namespace Go.Proofs.Ythnjgcdajjodjaa
open Go.RowKit Go.Proofs.YthnjgcdajjodjaaW.PrintWords Go.ChangeShapes Go.WideShapes Go.Deep
theorem wf_lt {k : FloatKind} {b : Nat} (h : (Lit.float k b).wf = true) : b < fw k := by
  cases k
  · simpa [Lit.wf, fw] using h
  · simpa [Lit.wf, fw] using h

section
variable {P : Program} {t : TypeId}
theorem trod_float {H : Type} {enc : TypeId × Value → H} {w : World} {base : Nat} {spare : Nat → Bool} {held : Bool} {fuel : Nat} {cs : List Value} {x : DataW H × List MemPlace} {k : FloatKind} (ht : P.underlying t = some (.float k))
    (h : DataW.trod enc P w base spare held fuel t cs = some x) : ∃ n, cs = [.float k n] ∧ x = (.lit (.float k n), []) ∧ (Lit.float k n).wf = true := by
  cases fuel with
  | zero => simp [DataW.trod] at h
  | succ n =>
    unfold DataW.trod at h
    rw [ht] at h
    split at h <;> simp_all
theorem opens_flt {k : FloatKind} (ht : P.underlying t = some (.float k)) : Opens P t (fltK k) (fun x => x < fw k ∧ cn k x = x) := by
  intro H enc w base spare held fuel cs x h _
  obtain ⟨n, rfl, _, hw⟩ := trod_float ht h
  have := IsF.mk' (wf_lt hw)
  exact ⟨cn k n, ⟨n, rfl, this⟩, this.xlt, this.cnx⟩
end
end Go.Proofs.Ythnjgcdajjodjaa
