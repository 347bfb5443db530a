/- UnpackValues: what is left of the law beside the walk: for every string of at most 1048576 bytes both return the same numbers. -/
import Derived.Test.YtgiednkailakgaaUvPure
namespace Go.Proofs.Ytgiednkailakgaa.Pure
open Go.RowKit Go.Proofs.Ytgiednkailakgaa.PFnExactUnpackValues Go.Proofs.YtgiednkailakgaaW.PrintWords Go.Proofs.YtgiednkailakgaaW.PrintLast
theorem FnExactUnpackValues : laws_FnExactUnpackValues.Pure := UvPure.pure
end Go.Proofs.Ytgiednkailakgaa.Pure
