import Derived.Test.YtjkpbmdkkdofkaaDoorWInv
import Derived.Test.YtjkpbmdkkdofkaaDoorWFootNe
namespace Go.Proofs.YtjkpbmdkkdofkaaDoorW.PrintWords
open Go.RowKit
end Go.Proofs.YtjkpbmdkkdofkaaDoorW.PrintWords
namespace Go.Proofs.YtjkpbmdkkdofkaaDoorW.PrintLast
section
variable {ops : Array Oper} {a : Act} {o og : Oper} {g : Nat} {t : Tmp} {u : Bool}
end
end Go.Proofs.YtjkpbmdkkdofkaaDoorW.PrintLast
