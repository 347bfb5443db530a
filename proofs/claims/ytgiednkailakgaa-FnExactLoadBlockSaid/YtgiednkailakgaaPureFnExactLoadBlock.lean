/- LoadBlock: what is left of the law beside the walk: for every string of at most 1048576 bytes both load the same block. -/
import Derived.Test.YtgiednkailakgaaLbPure
namespace Go.Proofs.Ytgiednkailakgaa.Pure
open Go.RowKit Go.Proofs.Ytgiednkailakgaa.PFnExactLoadBlock Go.Proofs.YtgiednkailakgaaW.PrintWords Go.Proofs.YtgiednkailakgaaW.PrintLast
theorem FnExactLoadBlock : laws_FnExactLoadBlock.Pure := LbPure.pure
end Go.Proofs.Ytgiednkailakgaa.Pure
