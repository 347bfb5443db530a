import Derived.Test.YtbojmdjghfhmbaaDoorWInv
import Derived.Test.YtbojmdjghfhmbaaDoorWFootNe
namespace Go.Proofs.YtbojmdjghfhmbaaDoorW.PrintWords
open Go.RowKit
end Go.Proofs.YtbojmdjghfhmbaaDoorW.PrintWords
namespace Go.Proofs.YtbojmdjghfhmbaaDoorW.PrintLast
section
variable {ops : Array Oper} {a : Act} {o og : Oper} {g : Nat} {t : Tmp} {u : Bool}
end
end Go.Proofs.YtbojmdjghfhmbaaDoorW.PrintLast
