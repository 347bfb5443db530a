import Derived.Test.YteooifighndmkaaWInv
import Derived.Test.YteooifighndmkaaWFootNe
namespace Go.Proofs.YteooifighndmkaaW.PrintWords
open Go.RowKit
end Go.Proofs.YteooifighndmkaaW.PrintWords
namespace Go.Proofs.YteooifighndmkaaW.PrintLast
section
variable {ops : Array Oper} {a : Act} {o og : Oper} {g : Nat} {t : Tmp} {u : Bool}
end
end Go.Proofs.YteooifighndmkaaW.PrintLast
