import Derived.Test.YtjkohjdiddhpcaaRows
import Derived.ProofKit
/- Walks of the given code, and plain lemmas, for the law FnExactCountProgramWords (part Ja). -/
namespace Go.Proofs.Ytjkohjdiddhpcaa.fnExactCountProgramWords
open Go.RowKit
theorem j1 : Rows.fnExactCountProgramWordsRow.wf (OpenSpec.ofChange Rows.fnExactCountProgramWordsSpec) = true := by kernel_rfl
theorem j2 : laidOutB Try.pinned.checked.prog = true := by kernel_rfl
theorem j3 : mapsRowed Try.pinned.checked.prog = true := by kernel_rfl
theorem j4 : Try.f3.params.all (Try.pinned.checked.prog.readableRec ·) = true := by kernel_rfl
theorem j5 : namedTie Try.pinned.checked.prog Rows.fnExactCountProgramWordsRow.named Rows.fnExactCountProgramWordsSpec.vars = true := by kernel_rfl
theorem j6 : (Try.pinned.checked.prog.stops == []) = true := by kernel_rfl
theorem j7 : (Try.pinned.checked.prog.stopKnobs == []) = true := by kernel_rfl
end Go.Proofs.Ytjkohjdiddhpcaa.fnExactCountProgramWords
