/- Printed by a program of this session (the kit's print, with contracts of this session's own): what functions come to, and that their code comes to it. -/
import Derived.Test.YthnjgcdajjodjaaPFnStoredx0
import Derived.Test.YthnjgcdajjodjaaPFnStoredx1
import Derived.Test.YthnjgcdajjodjaaPFnStoredx2
import Derived.Test.YthnjgcdajjodjaaPFnStoredx3
import Derived.Test.YthnjgcdajjodjaaPFnStoredx4
import Derived.Test.YthnjgcdajjodjaaPFnStoredx5
import Derived.Test.YthnjgcdajjodjaaPFnStoredx6
namespace Go.Proofs.Ythnjgcdajjodjaa.PFnStored
open Go.RowKit Go.Proofs.YthnjgcdajjodjaaW.PrintWords Go.Proofs.YthnjgcdajjodjaaW.PrintLast Go.Proofs.YthnjgcdajjodjaaW.PrintMore
open Go.Proofs.YthnjgcdajjodjaaW.PrintFl
attribute [local go_sem high] binOp_feq binOp_fne binOp_fls binOp_fle binOp_fgr binOp_fge
attribute [local go_sem] run_fopr run_fconv run_fint run_stf run_stc ext_f32bits ext_f64bits ext_f32frombits 
attribute [local go_sem] max2_int min2_int max_two min_two max_three min_three max_four min_four   -- for this text's walks alone
set_option linter.unusedVariables false
set_option linter.unusedSimpArgs false

end Go.Proofs.Ythnjgcdajjodjaa.PFnStored
