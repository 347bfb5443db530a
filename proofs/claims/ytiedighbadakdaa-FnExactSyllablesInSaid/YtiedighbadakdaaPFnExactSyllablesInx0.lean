/- Printed by a program of this session (the kit's print, with contracts of this session's own): what functions come to, and that their code comes to it. -/
import Derived.Test.YtiedighbadakdaaProg
import Derived.Below
import Derived.Deep.Draws
import Derived.Deep.AppendLies
import Derived.Maps.AppendAt
import Derived.OwnWalk
import Derived.Laws.BytesArg
import Derived.Laws.MakeOwn
import Derived.Laws.OwnMore
import Derived.Deep.OwnRows
import Derived.Tactics
import Derived.Lib.ConvBytes
import Derived.Laws.Slices
import Derived.WalkKit
import Derived.KernelRfl
import Derived.RowKit3
import Derived.Deep.LoopGhost
import Derived.Deep.QuietTactic
import Derived.BigQuiet
import Derived.WideLaws
import Derived.Deep.DeepCutAuto
import Derived.Deep.CutBlock
import Derived.Deep.RegionHeld3
import Derived.Laws.Rows
import Derived.Lib.AppendStr
import Derived.ArgAppend
import Derived.Laws.IdiomCopy
import Derived.OrdersHeld
import Derived.Laws.BitsLemmas
import Derived.RowKit
import Derived.Test.YtiedighbadakdaaShelf
import Derived.Test.YtiedighbadakdaaWWords
import Derived.Test.YtiedighbadakdaaWLast
import Derived.Test.YtiedighbadakdaaWTab
import Derived.Test.YtiedighbadakdaaWFour
import Derived.Test.YtiedighbadakdaaWQPut
import Derived.Test.YtiedighbadakdaaWApart
import Derived.Test.YtiedighbadakdaaWArr
import Derived.Test.YtiedighbadakdaaWZeros
import Derived.Test.YtiedighbadakdaaWFoot
import Derived.Test.YtiedighbadakdaaWKept
import Derived.Test.YtiedighbadakdaaWShare
import Derived.Test.YtiedighbadakdaaWN
import Derived.Test.YtiedighbadakdaaWFootNe
import Derived.Test.YtiedighbadakdaaWAt
import Derived.Test.YtiedighbadakdaaWEqStruct
import Derived.Test.YtiedighbadakdaaWRepsOne
import Derived.Test.YtiedighbadakdaaWInv
import Derived.Test.YtiedighbadakdaaWInvWords
import Derived.Test.YtiedighbadakdaaWGuard
import Derived.Test.YtiedighbadakdaaWNEv
import Derived.Test.YtiedighbadakdaaWMore
namespace Go.Proofs.Ytiedighbadakdaa.PFnExactSyllablesIn
open Go.RowKit Go.Proofs.YtiedighbadakdaaW.PrintWords Go.Proofs.YtiedighbadakdaaW.PrintLast Go.Proofs.YtiedighbadakdaaW.PrintMore
attribute [local go_sem] max2_int min2_int max_two min_two max_three min_three max_four min_four   -- for this text's walks alone
set_option linter.unusedVariables false
set_option linter.unusedSimpArgs false



def errW : Option Int → Value
  | none => .nilIface
  | some c => .iface 0 (.int .i64 c)
theorem errW_none : errW none = .nilIface := rfl
theorem errW_some (c : Int) : errW (some c) = .iface 0 (.int .i64 c) := rfl

-- the values' own types

end Go.Proofs.Ytiedighbadakdaa.PFnExactSyllablesIn
