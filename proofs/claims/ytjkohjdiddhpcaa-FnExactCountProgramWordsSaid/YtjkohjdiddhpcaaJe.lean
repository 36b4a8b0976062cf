import Derived.Test.YtjkohjdiddhpcaaRows
import Derived.ProofKit
/- Walks of the given code, and plain lemmas, for the law FnExactCountProgramWords (part Je). -/
namespace Go.Proofs.Ytjkohjdiddhpcaa.fnExactCountProgramWords
open Go.RowKit
theorem j12 : Try.pinned.checked.prog.stopsHeard = true := by kernel_rfl
theorem j13 : Try.pinned.checked.prog.mayEnter = true := by kernel_rfl
end Go.Proofs.Ytjkohjdiddhpcaa.fnExactCountProgramWords
