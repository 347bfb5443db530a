/- Printed by a program of this session (the kit's print, with contracts of this session's own): what functions come to, and that their code comes to it. -/
import Derived.Test.YtgiednkailakgaaProg
import Derived.Below
import Derived.Deep.Draws
import Derived.Deep.AppendLies
import Derived.Maps.AppendAt
import Derived.OwnWalk
import Derived.Laws.BytesArg
import Derived.Laws.MakeOwn
import Derived.Laws.OwnMore
import Derived.Deep.OwnRows
import Derived.Tactics
import Derived.Lib.ConvBytes
import Derived.Laws.Slices
import Derived.WalkKit
import Derived.KernelRfl
import Derived.RowKit3
import Derived.Deep.LoopGhost
import Derived.Deep.QuietTactic
import Derived.BigQuiet
import Derived.WideLaws
import Derived.Deep.DeepCutAuto
import Derived.Deep.CutBlock
import Derived.Deep.RegionHeld3
import Derived.Laws.Rows
import Derived.Lib.AppendStr
import Derived.ArgAppend
import Derived.Laws.IdiomCopy
import Derived.OrdersHeld
import Derived.Laws.BitsLemmas
import Derived.RowKit
import Derived.Test.YtgiednkailakgaaFp
import Derived.Test.YtgiednkailakgaaGiv
import Derived.Test.YtgiednkailakgaaWWords
import Derived.Test.YtgiednkailakgaaWLast
import Derived.Test.YtgiednkailakgaaWTab
import Derived.Test.YtgiednkailakgaaWFour
import Derived.Test.YtgiednkailakgaaWQPut
import Derived.Test.YtgiednkailakgaaWApart
import Derived.Test.YtgiednkailakgaaWArr
import Derived.Test.YtgiednkailakgaaWZeros
import Derived.Test.YtgiednkailakgaaWFoot
import Derived.Test.YtgiednkailakgaaWKept
import Derived.Test.YtgiednkailakgaaWShare
import Derived.Test.YtgiednkailakgaaWN
import Derived.Test.YtgiednkailakgaaWFootNe
import Derived.Test.YtgiednkailakgaaWAt
import Derived.Test.YtgiednkailakgaaWEqStruct
import Derived.Test.YtgiednkailakgaaWRepsOne
import Derived.Test.YtgiednkailakgaaWInv
import Derived.Test.YtgiednkailakgaaWInvWords
import Derived.Test.YtgiednkailakgaaWGuard
import Derived.Test.YtgiednkailakgaaWNEv
import Derived.Test.YtgiednkailakgaaWMore
namespace Go.Proofs.Ytgiednkailakgaa.PFnExactUnpackValues
open Go.RowKit Go.Proofs.YtgiednkailakgaaW.PrintWords Go.Proofs.YtgiednkailakgaaW.PrintLast Go.Proofs.YtgiednkailakgaaW.PrintMore
open Go.Proofs.YtgiednkailakgaaW.PrintFl
attribute [local go_sem high] binOp_feq binOp_fne binOp_fls binOp_fle binOp_fgr binOp_fge
attribute [local go_sem] run_fopr run_fconv run_fint run_stf run_stc ext_f32bits ext_f64bits ext_f32frombits 
attribute [local go_sem] max2_int min2_int max_two min_two max_three min_three max_four min_four   -- for this text's walks alone
set_option linter.unusedVariables false
set_option linter.unusedSimpArgs false



def errW : Option Int → Value
  | none => .nilIface
  | some c => .iface 0 (.int .i64 c)
theorem errW_none : errW none = .nilIface := rfl
theorem errW_some (c : Int) : errW (some c) = .iface 0 (.int .i64 c) := rfl

theorem info5 : (Try.prog.info? 5).map (fun i => (i.zero, i.size, i.bytes)) = some (some (.int .u8 0), 1, 1) := by kernel_rfl
theorem info65 : (Try.prog.info? 65).map (fun i => (i.zero, i.size, i.bytes)) = some (some (.float .f32 0), 1, 4) := by kernel_rfl
-- the values' own types

end Go.Proofs.Ytgiednkailakgaa.PFnExactUnpackValues
