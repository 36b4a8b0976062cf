import Derived.Test.YtjkohjdiddhpcaaRows
import Derived.ProofKit
/- Walks of the given code, and plain lemmas, for the law FnExactCountProgramWords (part Jf). -/
namespace Go.Proofs.Ytjkohjdiddhpcaa.fnExactCountProgramWords
open Go.RowKit
theorem j14 : (Rows.fnExactCountProgramWordsRow.lifted == Try.pinned.checked.prog.liftsFinal) = true := by kernel_rfl
theorem j15 : (Try.pinned.checked.prog.make == some Rows.fnExactCountProgramWordsRow.make) = true := by kernel_rfl
theorem j16 : (Rows.fnExactCountProgramWordsRow.plainKeys == Try.pinned.checked.prog.plainKeys) = true := by kernel_rfl
end Go.Proofs.Ytjkohjdiddhpcaa.fnExactCountProgramWords
