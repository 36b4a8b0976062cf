import Derived.Test.YtjkohjdiddhpcaaRa
import Derived.Test.YtjkohjdiddhpcaaRb
import Derived.Test.YtjkohjdiddhpcaaRd
/- The law FnExactCountProgramWords holds whatever its input: the answer is true and the input reads as it did. -/
namespace Go.Proofs.Ytjkohjdiddhpcaa.fnExactCountProgramWords
open Go.ChangeShapes Go.WideShapes Go.ChangeAt Go.RowKit
theorem over : Rows.fnExactCountProgramWordsRow.holds Try.pinned (OpenSpec.ofChange Rows.fnExactCountProgramWordsSpec) :=
  OpenClaim.holds_of_wide 3 Try.f3 rfl rfl rfl rfl rfl rfl rfl ⟨rfl, rfl, rfl, rfl, rfl⟩ rfl rfl rfl rfl rfl fact1 Try.func3 fact2 fact3 fact4
    (fun os started H enc _ => lifted os started H enc)
theorem proved : Rows.FnExactCountProgramWordsSaid := over
end Go.Proofs.Ytjkohjdiddhpcaa.fnExactCountProgramWords
namespace Go.Proofs.Ytjkohjdiddhpcaa
/-- The row, under a short name, for the claim. -/
theorem fnExactCountProgramWords_holds : Rows.FnExactCountProgramWordsSaid := fnExactCountProgramWords.proved
end Go.Proofs.Ytjkohjdiddhpcaa
