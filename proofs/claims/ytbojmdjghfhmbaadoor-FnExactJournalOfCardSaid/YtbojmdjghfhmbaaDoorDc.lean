/- impl.Decimal and impl.ReadDecimal by hand, over the shelf's contracts of strconv. -/
import Derived.Test.YtbojmdjghfhmbaaDoorGb
import Derived.Test.YtbojmdjghfhmbaaDoorWMore
import Derived.Test.YtbojmdjghfhmbaaDoorWLast
import Derived.Test.YtbojmdjghfhmbaaDoorProg
import Derived.Deep.QuietTactic
import Derived.BigQuiet
import Derived.WalkKit
import Derived.Lib.Hide
set_option linter.unusedVariables false
set_option linter.unusedSimpArgs false
namespace Go.Proofs.YtbojmdjghfhmbaaDoor
open Go.RowKit Go.Proofs.YtbojmdjghfhmbaaDoorW.PrintWords Go.Proofs.YtbojmdjghfhmbaaDoorW.PrintLast Go.Proofs.YtbojmdjghfhmbaaDoorW.PrintMore
set_option maxHeartbeats 800000 in
set_option maxRecDepth 100000 in
theorem decimal_calls (n : Int) (w : World) (hT : decTab w) (h0 : -9223372036854775808 ≤ n) (h1 : n ≤ 9223372036854775807) :
    Calls Tryd.prog 99 #[.int .i64 n] w fun e w' => e = .returned (.string ⟨(Lib.itoa n).toArray⟩) ∧ Below w.heap.size w w' := by
  have HC := Lib.hid (Tryd.strconv_FormatInt_10 n h0 h1 w hT)
  clear h0 h1 hT
  go_enter Tryd.func99, Tryd.ntmps99
  go_wp2_with (first | (go_at_call 132; (with_reducible refine HC.out.mono ?_); rintro e w1 ⟨rfl, k, os, rfl⟩))
  go_ret
  exact ⟨rfl, below_grow (pw_below_drewN (Below.refl _ _) k) (Nat.le_refl _) os⟩
end Go.Proofs.YtbojmdjghfhmbaaDoor
