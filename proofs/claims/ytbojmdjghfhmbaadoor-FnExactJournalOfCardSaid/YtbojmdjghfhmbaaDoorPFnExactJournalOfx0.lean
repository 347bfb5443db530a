/- Printed by a program of this session (the kit's print, with contracts of this session's own): what functions come to, and that their code comes to it. -/
import Derived.Test.YtbojmdjghfhmbaaDoorProg
import Derived.Below
import Derived.Deep.Draws
import Derived.Deep.AppendLies
import Derived.Maps.AppendAt
import Derived.OwnWalk
import Derived.Laws.BytesArg
import Derived.Laws.MakeOwn
import Derived.Laws.OwnMore
import Derived.Deep.OwnRows
import Derived.Tactics
import Derived.Lib.ConvBytes
import Derived.Laws.Slices
import Derived.WalkKit
import Derived.KernelRfl
import Derived.RowKit3
import Derived.Deep.LoopGhost
import Derived.Deep.QuietTactic
import Derived.BigQuiet
import Derived.WideLaws
import Derived.Deep.DeepCutAuto
import Derived.Deep.CutBlock
import Derived.Deep.RegionHeld3
import Derived.Laws.Rows
import Derived.Lib.AppendStr
import Derived.ArgAppend
import Derived.Laws.IdiomCopy
import Derived.OrdersHeld
import Derived.Laws.BitsLemmas
import Derived.RowKit
import Derived.Test.YtbojmdjghfhmbaaDoorFp
import Derived.Test.YtbojmdjghfhmbaaDoorShelf
import Derived.Test.YtbojmdjghfhmbaaDoorGld
import Derived.Test.YtbojmdjghfhmbaaDoorDc
import Derived.Test.YtbojmdjghfhmbaaDoorDn
import Derived.Test.YtbojmdjghfhmbaaDoorJo
import Derived.Test.YtbojmdjghfhmbaaDoorWWords
import Derived.Test.YtbojmdjghfhmbaaDoorWLast
import Derived.Test.YtbojmdjghfhmbaaDoorWTab
import Derived.Test.YtbojmdjghfhmbaaDoorWFour
import Derived.Test.YtbojmdjghfhmbaaDoorWQPut
import Derived.Test.YtbojmdjghfhmbaaDoorWApart
import Derived.Test.YtbojmdjghfhmbaaDoorWArr
import Derived.Test.YtbojmdjghfhmbaaDoorWZeros
import Derived.Test.YtbojmdjghfhmbaaDoorWFoot
import Derived.Test.YtbojmdjghfhmbaaDoorWKept
import Derived.Test.YtbojmdjghfhmbaaDoorWShare
import Derived.Test.YtbojmdjghfhmbaaDoorWN
import Derived.Test.YtbojmdjghfhmbaaDoorWFootNe
import Derived.Test.YtbojmdjghfhmbaaDoorWAt
import Derived.Test.YtbojmdjghfhmbaaDoorWEqStruct
import Derived.Test.YtbojmdjghfhmbaaDoorWRepsOne
import Derived.Test.YtbojmdjghfhmbaaDoorWInv
import Derived.Test.YtbojmdjghfhmbaaDoorWInvWords
import Derived.Test.YtbojmdjghfhmbaaDoorWGuard
import Derived.Test.YtbojmdjghfhmbaaDoorWNEv
import Derived.Test.YtbojmdjghfhmbaaDoorWMore
namespace Go.Proofs.YtbojmdjghfhmbaaDoor.PFnExactJournalOf
open Go.RowKit Go.Proofs.YtbojmdjghfhmbaaDoorW.PrintWords Go.Proofs.YtbojmdjghfhmbaaDoorW.PrintLast Go.Proofs.YtbojmdjghfhmbaaDoorW.PrintMore
open Go.Proofs.YtbojmdjghfhmbaaDoorW.PrintFl
attribute [local go_sem high] binOp_feq binOp_fne binOp_fls binOp_fle binOp_fgr binOp_fge
attribute [local go_sem] run_fopr run_fconv run_fint run_stf run_stc ext_f32bits ext_f32frombits 
attribute [local go_sem] max2_int min2_int max_two min_two max_three min_three max_four min_four   -- for this text's walks alone
set_option linter.unusedVariables false
set_option linter.unusedSimpArgs false



def errW : Option Int → Value
  | none => .nilIface
  | some c => .iface 0 (.int .i64 c)
theorem errW_none : errW none = .nilIface := rfl
theorem errW_some (c : Int) : errW (some c) = .iface 0 (.int .i64 c) := rfl

theorem info5 : (Tryd.prog.info? 5).map (fun i => (i.zero, i.size, i.bytes)) = some (some (.int .u8 0), 1, 1) := by kernel_rfl
theorem info9 : (Tryd.prog.info? 9).map (fun i => (i.zero, i.size, i.bytes)) = some (some (.string ⟨#[]⟩), 1, 16) := by kernel_rfl
-- the values' own types

end Go.Proofs.YtbojmdjghfhmbaaDoor.PFnExactJournalOf
