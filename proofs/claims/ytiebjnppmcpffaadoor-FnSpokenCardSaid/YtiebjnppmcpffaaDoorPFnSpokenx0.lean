/- Printed by a program of this session (the kit's print, with contracts of this session's own): what functions come to, and that their code comes to it. -/
import Derived.Test.YtiebjnppmcpffaaDoorProg
import Derived.Below
import Derived.Deep.Draws
import Derived.Deep.AppendLies
import Derived.Maps.AppendAt
import Derived.OwnWalk
import Derived.Laws.BytesArg
import Derived.Laws.MakeOwn
import Derived.Laws.OwnMore
import Derived.Deep.OwnRows
import Derived.Tactics
import Derived.Lib.ConvBytes
import Derived.Laws.Slices
import Derived.WalkKit
import Derived.KernelRfl
import Derived.RowKit3
import Derived.Deep.LoopGhost
import Derived.Deep.QuietTactic
import Derived.BigQuiet
import Derived.WideLaws
import Derived.Deep.DeepCutAuto
import Derived.Deep.CutBlock
import Derived.Deep.RegionHeld3
import Derived.Laws.Rows
import Derived.Lib.AppendStr
import Derived.ArgAppend
import Derived.Laws.IdiomCopy
import Derived.OrdersHeld
import Derived.Laws.BitsLemmas
import Derived.RowKit
import Derived.Test.YtiebjnppmcpffaaDoorFp
import Derived.Test.YtiebjnppmcpffaaDoorShelf
import Derived.Test.YtiebjnppmcpffaaDoorGl
import Derived.Test.YtiebjnppmcpffaaDoorNw
import Derived.Test.YtiebjnppmcpffaaDoorGls
import Derived.Test.YtiebjnppmcpffaaDoorDc
import Derived.Test.YtiebjnppmcpffaaDoorJn
import Derived.Test.YtiebjnppmcpffaaDoorSn
import Derived.Test.YtiebjnppmcpffaaDoorWWords
import Derived.Test.YtiebjnppmcpffaaDoorWLast
import Derived.Test.YtiebjnppmcpffaaDoorWTab
import Derived.Test.YtiebjnppmcpffaaDoorWFour
import Derived.Test.YtiebjnppmcpffaaDoorWQPut
import Derived.Test.YtiebjnppmcpffaaDoorWApart
import Derived.Test.YtiebjnppmcpffaaDoorWArr
import Derived.Test.YtiebjnppmcpffaaDoorWZeros
import Derived.Test.YtiebjnppmcpffaaDoorWFoot
import Derived.Test.YtiebjnppmcpffaaDoorWKept
import Derived.Test.YtiebjnppmcpffaaDoorWShare
import Derived.Test.YtiebjnppmcpffaaDoorWN
import Derived.Test.YtiebjnppmcpffaaDoorWFootNe
import Derived.Test.YtiebjnppmcpffaaDoorWAt
import Derived.Test.YtiebjnppmcpffaaDoorWEqStruct
import Derived.Test.YtiebjnppmcpffaaDoorWRepsOne
import Derived.Test.YtiebjnppmcpffaaDoorWInv
import Derived.Test.YtiebjnppmcpffaaDoorWInvWords
import Derived.Test.YtiebjnppmcpffaaDoorWGuard
import Derived.Test.YtiebjnppmcpffaaDoorWNEv
import Derived.Test.YtiebjnppmcpffaaDoorWMore
namespace Go.Proofs.YtiebjnppmcpffaaDoor.PFnSpoken
open Go.RowKit Go.Proofs.YtiebjnppmcpffaaDoorW.PrintWords Go.Proofs.YtiebjnppmcpffaaDoorW.PrintLast Go.Proofs.YtiebjnppmcpffaaDoorW.PrintMore
open Go.Proofs.YtiebjnppmcpffaaDoorW.PrintFl
attribute [local go_sem high] binOp_feq binOp_fne binOp_fls binOp_fle binOp_fgr binOp_fge
attribute [local go_sem] run_fopr run_fconv run_fint run_stf run_stc 
attribute [local go_sem] max2_int min2_int max_two min_two max_three min_three max_four min_four   -- for this text's walks alone
set_option linter.unusedVariables false
set_option linter.unusedSimpArgs false



def errW : Option Int → Value
  | none => .nilIface
  | some c => .iface 0 (.int .i64 c)
theorem errW_none : errW none = .nilIface := rfl
theorem errW_some (c : Int) : errW (some c) = .iface 0 (.int .i64 c) := rfl

theorem info5 : (Tryd.prog.info? 5).map (fun i => (i.zero, i.size, i.bytes)) = some (some (.int .u8 0), 1, 1) := by kernel_rfl
theorem info9 : (Tryd.prog.info? 9).map (fun i => (i.zero, i.size, i.bytes)) = some (some (.string ⟨#[]⟩), 1, 16) := by kernel_rfl
-- the values' own types

end Go.Proofs.YtiebjnppmcpffaaDoor.PFnSpoken
