/- The openers of this seat's laws. -/
import Derived.Test.YtgiednkailakgaaOpen
import Derived.Test.YtgiednkailakgaaB5
set_option linter.unusedVariables false
set_option linter.unusedSimpArgs false
namespace Go.Proofs.Ytgiednkailakgaa
open Go.RowKit Go.Proofs.YtgiednkailakgaaW.PrintWords Go.ChangeShapes Go.WideShapes
theorem opens_f32s : Opens Try.prog 22 (Kd.slice 65 F32) (fun l => l.length ≤ 9223372036854775807 ∧ l.length * 4 ≤ 140737488351232 ∧ ∀ x ∈ l, x < fw .f32 ∧ cn .f32 x = x) :=
  opens_slice _ Try.underlying22 (by kernel_rfl) (by kernel_rfl) (opens_flt Try.underlying65)
theorem lPackValues_w (A : Option Addr) (c : Nat) (xs : List Nat) (w : World) (hr : F32.C w A xs.length xs) (hc : xs.length ≤ c) {p : Prop} (_ : p) :
    Calls Try.prog 4 #[.slice A xs.length c] w fun e w' => e = .returned (.bool true) ∧ Below w.heap.size w w' := lPackValues_c _ _ _ _ _ hr hc
end Go.Proofs.Ytgiednkailakgaa
