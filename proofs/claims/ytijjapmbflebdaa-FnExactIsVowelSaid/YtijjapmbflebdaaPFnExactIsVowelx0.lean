/- Printed by a program of this session (the kit's print, with contracts of this session's own): what functions come to, and that their code comes to it. -/
import Derived.Test.YtijjapmbflebdaaProg
import Derived.Below
import Derived.Deep.Draws
import Derived.Deep.AppendLies
import Derived.Maps.AppendAt
import Derived.OwnWalk
import Derived.Laws.BytesArg
import Derived.Laws.MakeOwn
import Derived.Laws.OwnMore
import Derived.Deep.OwnRows
import Derived.Tactics
import Derived.Lib.ConvBytes
import Derived.Laws.Slices
import Derived.WalkKit
import Derived.KernelRfl
import Derived.RowKit3
import Derived.Deep.LoopGhost
import Derived.Deep.QuietTactic
import Derived.BigQuiet
import Derived.WideLaws
import Derived.Deep.DeepCutAuto
import Derived.Deep.CutBlock
import Derived.Deep.RegionHeld3
import Derived.Laws.Rows
import Derived.Lib.AppendStr
import Derived.ArgAppend
import Derived.Laws.IdiomCopy
import Derived.OrdersHeld
import Derived.Laws.BitsLemmas
import Derived.RowKit
import Derived.Test.YtijjapmbflebdaaShelf
import Derived.Test.YtijjapmbflebdaaWWords
import Derived.Test.YtijjapmbflebdaaWLast
import Derived.Test.YtijjapmbflebdaaWTab
import Derived.Test.YtijjapmbflebdaaWFour
import Derived.Test.YtijjapmbflebdaaWQPut
import Derived.Test.YtijjapmbflebdaaWApart
import Derived.Test.YtijjapmbflebdaaWArr
import Derived.Test.YtijjapmbflebdaaWZeros
import Derived.Test.YtijjapmbflebdaaWFoot
import Derived.Test.YtijjapmbflebdaaWKept
import Derived.Test.YtijjapmbflebdaaWShare
import Derived.Test.YtijjapmbflebdaaWN
import Derived.Test.YtijjapmbflebdaaWFootNe
import Derived.Test.YtijjapmbflebdaaWAt
import Derived.Test.YtijjapmbflebdaaWEqStruct
import Derived.Test.YtijjapmbflebdaaWRepsOne
import Derived.Test.YtijjapmbflebdaaWInv
import Derived.Test.YtijjapmbflebdaaWInvWords
import Derived.Test.YtijjapmbflebdaaWGuard
import Derived.Test.YtijjapmbflebdaaWNEv
import Derived.Test.YtijjapmbflebdaaWMore
namespace Go.Proofs.Ytijjapmbflebdaa.PFnExactIsVowel
open Go.RowKit Go.Proofs.YtijjapmbflebdaaW.PrintWords Go.Proofs.YtijjapmbflebdaaW.PrintLast Go.Proofs.YtijjapmbflebdaaW.PrintMore
attribute [local go_sem] max2_int min2_int max_two min_two max_three min_three max_four min_four   -- for this text's walks alone
set_option linter.unusedVariables false
set_option linter.unusedSimpArgs false



def errW : Option Int → Value
  | none => .nilIface
  | some c => .iface 0 (.int .i64 c)
theorem errW_none : errW none = .nilIface := rfl
theorem errW_some (c : Int) : errW (some c) = .iface 0 (.int .i64 c) := rfl

-- the values' own types

end Go.Proofs.Ytijjapmbflebdaa.PFnExactIsVowel
