import Derived.Test.YtjkohjdiddhpcaaRows
import Derived.ProofKit
/- Walks of the given code, and plain lemmas, for the law FnExactCountProgramWords (part Jb). -/
namespace Go.Proofs.Ytjkohjdiddhpcaa.fnExactCountProgramWords
open Go.RowKit
theorem j8 : (Rows.fnExactCountProgramWordsRow.inPlace == Try.pinned.checked.prog.inPlace 3) = true := by kernel_rfl
end Go.Proofs.Ytjkohjdiddhpcaa.fnExactCountProgramWords
namespace Go.Proofs.Ytjkohjdiddhpcaa.fnExactCountProgramWords
open Go.RowKit
theorem j11 : (Rows.fnExactCountProgramWordsRow.named == Try.pinned.checked.prog.varsNamed 3) = true := by kernel_rfl
end Go.Proofs.Ytjkohjdiddhpcaa.fnExactCountProgramWords
