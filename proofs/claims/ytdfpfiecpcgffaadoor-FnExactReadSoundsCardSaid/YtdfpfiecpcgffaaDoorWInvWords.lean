import Derived.Test.YtdfpfiecpcgffaaDoorWInv
import Derived.Test.YtdfpfiecpcgffaaDoorWFootNe
namespace Go.Proofs.YtdfpfiecpcgffaaDoorW.PrintWords
open Go.RowKit
end Go.Proofs.YtdfpfiecpcgffaaDoorW.PrintWords
namespace Go.Proofs.YtdfpfiecpcgffaaDoorW.PrintLast
section
variable {ops : Array Oper} {a : Act} {o og : Oper} {g : Nat} {t : Tmp} {u : Bool}
end
end Go.Proofs.YtdfpfiecpcgffaaDoorW.PrintLast
