import Derived.Test.YtjkohjdiddhpcaaRows
import Derived.ProofKit
/- Walks of the given code, and plain lemmas, for the law FnExactCountProgramWords (part Ra). -/
namespace Go.Proofs.Ytjkohjdiddhpcaa.fnExactCountProgramWords
open Go.RowKit
theorem fact1 : Try.pinned.checked.prog.funcNamed Rows.fnExactCountProgramWordsRow.func = some 3 := by kernel_rfl
end Go.Proofs.Ytjkohjdiddhpcaa.fnExactCountProgramWords
namespace Go.Proofs.Ytjkohjdiddhpcaa.fnExactCountProgramWords
open Go.RowKit
theorem fact3 : Try.f3.isInstance Try.pinned.checked.prog Rows.fnExactCountProgramWordsRow.origin Rows.fnExactCountProgramWordsRow.targs := of_decide_eq_true (by kernel_rfl)
theorem fact4 : Try.f3.isWrapper Try.pinned.checked.prog Rows.fnExactCountProgramWordsRow.wrapper Rows.fnExactCountProgramWordsRow.mainSum := by unfold Func.isWrapper; first | (rw [if_pos (by decide +kernel)]; kernel_rfl) | (rw [if_neg (by decide +kernel)]; exact ⟨rfl, rfl⟩)
end Go.Proofs.Ytjkohjdiddhpcaa.fnExactCountProgramWords
