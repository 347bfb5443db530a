import Derived.Test.YtoiaojdkgagblaaWInv
import Derived.Test.YtoiaojdkgagblaaWFootNe
namespace Go.Proofs.YtoiaojdkgagblaaW.PrintWords
open Go.RowKit
end Go.Proofs.YtoiaojdkgagblaaW.PrintWords
namespace Go.Proofs.YtoiaojdkgagblaaW.PrintLast
section
variable {ops : Array Oper} {a : Act} {o og : Oper} {g : Nat} {t : Tmp} {u : Bool}
end
end Go.Proofs.YtoiaojdkgagblaaW.PrintLast
