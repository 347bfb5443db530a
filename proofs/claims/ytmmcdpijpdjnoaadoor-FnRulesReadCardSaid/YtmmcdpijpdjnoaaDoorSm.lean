import Derived.Test.YtmmcdpijpdjnoaaDoorSq
import Derived.Test.YtmmcdpijpdjnoaaDoorWMore
import Derived.Test.YtmmcdpijpdjnoaaDoorWInvWords
import Derived.Deep.QuietTactic
import Derived.BigQuiet
namespace Go.Proofs.YtmmcdpijpdjnoaaDoorW.PrintFl
open Go.RowKit Go.Proofs.YtmmcdpijpdjnoaaDoorW.PrintWords Go.Proofs.YtmmcdpijpdjnoaaDoorW.PrintLast Go.Proofs.YtmmcdpijpdjnoaaDoorW.PrintMore
macro "cu_ " b:term:max h:term:max : term => `(($b).cell (World.block_lt_of_cell? _ _ $h) |>.trans $h)
macro "pv_" : tactic => `(tactic| (rotate_left; (· (intro w'; go_simp; with_reducible rfl)); rotate_left; (· (simp only [Act.put, List.setIfInBounds_toArray, List.set_cons_zero, List.set_cons_succ, i64_w, i32_w]; rfl))))
macro "pw_" : tactic => `(tactic| (simp only [Act.put, List.setIfInBounds_toArray, List.set_cons_zero, List.set_cons_succ, i64_w, i32_w]; rfl))
end Go.Proofs.YtmmcdpijpdjnoaaDoorW.PrintFl
