import Derived.Test.YtjkohjdiddhpcaaRows
import Derived.ProofKit
/- Walks of the given code, and plain lemmas, for the law FnExactCountProgramWords (part Jc). -/
namespace Go.Proofs.Ytjkohjdiddhpcaa.fnExactCountProgramWords
open Go.RowKit
theorem j9 : (Rows.fnExactCountProgramWordsRow.unfollowed == Try.pinned.checked.prog.unfollowed 3) = true := by kernel_rfl
theorem j10 : (Rows.fnExactCountProgramWordsRow.recurses == Try.pinned.checked.prog.recurses 3) = true := by kernel_rfl
end Go.Proofs.Ytjkohjdiddhpcaa.fnExactCountProgramWords
