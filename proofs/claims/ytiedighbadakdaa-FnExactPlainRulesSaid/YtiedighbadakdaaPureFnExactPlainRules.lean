/- The one pure statement of the law FnExactPlainRules: the rules that both make are the same; it is closed, and is reckoned. -/
import Derived.Test.YtiedighbadakdaaPFnExactPlainRulesx3
import Derived.KernelRfl
namespace Go.Proofs.Ytiedighbadakdaa.Pure
open Go.RowKit Go.Proofs.Ytiedighbadakdaa.PFnExactPlainRules Go.Proofs.YtiedighbadakdaaW.PrintWords Go.Proofs.YtiedighbadakdaaW.PrintLast
theorem FnExactPlainRules : laws_FnExactPlainRules.Pure := ⟨200, by kernel_rfl⟩
end Go.Proofs.Ytiedighbadakdaa.Pure
