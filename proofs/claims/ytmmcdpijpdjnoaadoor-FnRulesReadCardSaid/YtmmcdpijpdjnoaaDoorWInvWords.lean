import Derived.Test.YtmmcdpijpdjnoaaDoorWInv
import Derived.Test.YtmmcdpijpdjnoaaDoorWFootNe
namespace Go.Proofs.YtmmcdpijpdjnoaaDoorW.PrintWords
open Go.RowKit
end Go.Proofs.YtmmcdpijpdjnoaaDoorW.PrintWords
namespace Go.Proofs.YtmmcdpijpdjnoaaDoorW.PrintLast
section
variable {ops : Array Oper} {a : Act} {o og : Oper} {g : Nat} {t : Tmp} {u : Bool}
end
end Go.Proofs.YtmmcdpijpdjnoaaDoorW.PrintLast
