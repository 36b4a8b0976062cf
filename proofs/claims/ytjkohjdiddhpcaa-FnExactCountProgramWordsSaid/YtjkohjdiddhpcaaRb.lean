import Derived.Test.YtjkohjdiddhpcaaJa
import Derived.Test.YtjkohjdiddhpcaaJb
import Derived.Test.YtjkohjdiddhpcaaJc
import Derived.Test.YtjkohjdiddhpcaaJe
import Derived.Test.YtjkohjdiddhpcaaJf
/- Walks of the given code, and plain lemmas, for the law FnExactCountProgramWords (part Rb). -/
namespace Go.Proofs.Ytjkohjdiddhpcaa.fnExactCountProgramWords
open Go.RowKit
theorem and_i {a b : Bool} (ha : a = true) (hb : b = true) : (a && b) = true := by rw [ha, hb]; rfl
theorem fact2 : joinedFacts Try.pinned.checked.prog 3 Try.f3 Rows.fnExactCountProgramWordsSpec Rows.fnExactCountProgramWordsRow = true := by
  unfold joinedFacts
  repeat' (with_reducible refine and_i ?_ ?_)
  all_goals first
    | (with_reducible exact j1)
    | (with_reducible exact j2)
    | (with_reducible exact j3)
    | (with_reducible exact j4)
    | (with_reducible exact j5)
    | (with_reducible exact j6)
    | (with_reducible exact j7)
    | (with_reducible exact j8)
    | (with_reducible exact j9)
    | (with_reducible exact j10)
    | (with_reducible exact j11)
    | (with_reducible exact j12)
    | (with_reducible exact j13)
    | (with_reducible exact j14)
    | (with_reducible exact j15)
    | (with_reducible exact j16)
    | kernel_rfl
end Go.Proofs.Ytjkohjdiddhpcaa.fnExactCountProgramWords
