/- Floats by their bits, and blocks, laid open as arguments. -/
import Derived.Test.YtgiednkailakgaaOp
import Derived.Test.YtgiednkailakgaaOpen
import Derived.Test.YtgiednkailakgaaFm
set_option linter.unusedVariables false
set_option linter.unusedSimpArgs false
namespace Go.Proofs.Ytgiednkailakgaa
open Go.RowKit Go.Proofs.YtgiednkailakgaaW.PrintWords Go.Proofs.YtgiednkailakgaaW.PrintFl Go.ChangeShapes Go.WideShapes
theorem opens_raw {P : Program} {t : TypeId} {k : FloatKind} (ht : P.underlying t = some (.float k)) : Opens P t (Kd.float k) (fun x => x < fw k) := by
  intro H enc w base spare held fuel cs x h _
  obtain ⟨n, rfl, _, hw⟩ := trod_float ht h
  exact ⟨n, rfl, wf_lt hw⟩
theorem opens_block : Opens Try.prog 24 (Kd.iso (Kd.pair (Kd.int .i64) (Kd.slice 65 (Kd.float .f32))) (fun x : Int × List Nat => x)) (fun x => x.2.length ≤ 9223372036854775807 ∧ ∀ y ∈ x.2, y < 4294967296) :=
  opens_imp (opens_struct (P := Try.prog) (fun x : Int × List Nat => x) (fun x => x) (fun _ => rfl) Try.underlying24 rfl (N := 2) (by kernel_rfl)
    (opensF_cons rfl (off' := 1) (by kernel_rfl) (opens_int Try.underlying2) (opensF_last rfl (by kernel_rfl) (opens_slice (B := 4) _ Try.underlying22 (by kernel_rfl) (by kernel_rfl) (opens_raw Try.underlying65)))))
    (fun x h => ⟨h.2.1, h.2.2.2⟩)
theorem block_open {cs : Array Value} {y : Int × List Nat} {w : World} (k : (Kd.iso (Kd.pair (Kd.int .i64) (Kd.slice 65 (Kd.float .f32))) (fun x : Int × List Nat => x)).K w y cs.toList) :
    ∃ A c, cs = #[.int .i64 y.1, .slice A y.2.length c] ∧ y.2.length ≤ c ∧ (Kd.float .f32).C w A y.2.length y.2 := by
  obtain ⟨_, _, e0, rfl, ⟨A0, c0, rfl, hl0, hr0⟩⟩ := k
  exact ⟨A0, c0, by rw [← Array.toArray_toList (xs := cs), e0]; rfl, hl0, hr0⟩
end Go.Proofs.Ytgiednkailakgaa
