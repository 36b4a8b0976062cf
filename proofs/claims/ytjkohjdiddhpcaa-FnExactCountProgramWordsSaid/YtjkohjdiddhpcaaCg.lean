import Derived.Test.YtjkohjdiddhpcaaCa
import Derived.Test.YtjkohjdiddhpcaaX7
import Derived.Test.YtjkohjdiddhpcaaCe
import Derived.Test.YtjkohjdiddhpcaaXc
import Derived.Test.YtjkohjdiddhpcaaXe
import Derived.Test.YtjkohjdiddhpcaaX4
/- Walks of the given code, and plain lemmas, for the law FnExactCountProgramWords (part Cg). -/
set_option linter.unusedVariables false
set_option linter.unusedSimpArgs false
namespace Go.Proofs.Ytjkohjdiddhpcaa.My
open Go.Sl Go.RowKit Go.Proofs.YtjkohjdiddhpcaaW.PrintWords Go.Proofs.YtjkohjdiddhpcaaW.PrintLast Go.Proofs.YtjkohjdiddhpcaaW.PrintMore Go.Proofs.Ytjkohjdiddhpcaa.PFnExactCountProgramWords
def goodB : Nat → ByteArray → Bool
  | 0, _ => false
  | k + 1, s => (decide (spec_l01Factors.f 60 s = some (facI s)) && decide (s.size ≤ 1000)) && (facI s).all fun x => decide (x.size ≤ 1) || goodB k (x.extract 1 (x.size - 1))
def allGood : Bool := (List.range 6).all fun n => decide (spec_CountMatched.f 200 (n : Int) = some (E n 0, 0)) && (List.range (E n 0).toNat).all fun i =>
  (decide (spec_MatchedAt.f 200 (n : Int) (i : Int) = some ((matM (n : Int) (i : Int)).1, 0)) && decide (spec_l01Matched.f 60 (matM (n : Int) (i : Int)).1 = some true)) && goodB 5 (matM (n : Int) (i : Int)).1
theorem all_good : allGood = true := by kernel_rfl
end Go.Proofs.Ytjkohjdiddhpcaa.My
