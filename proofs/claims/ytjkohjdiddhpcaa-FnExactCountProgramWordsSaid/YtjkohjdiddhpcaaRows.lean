/-
  No cell of these rows narrows 'for every input' (looked for: loops, veiled, ifaces, maps, wideKeys, modest, calm, conditions, laid).
  DERIVED. THE GIVEN ROWS OF THIS SEAT. 12 by the template 'for every input the law returns true; each argument reads behind the call as it read before'; 0 by the template 'total and deterministic' (their statements: YtjkohjdiddhpcaaTotals.lean).
  GIVEN WITH THE SEED: the statements are not yours to turn. If you find one false, say at which input.
  Laid BY PROGRAM, IN A SANDBOX (cutbox-rows.mjs): the forced cells as the released guide's own fill.sh prints them over the translation 0ddbbaf9b035f120… (all of the seat's roots in one cut). By AI agents, Wed Nov 11 2026. No macro, syntax, notation, axiom, sorry.
-/
import Derived.Test.YtjkohjdiddhpcaaChecked
import GoSem.Claim
import GoSem.ClaimJoined
import GoSem.ClaimMapViews
import Derived.JoinedTies
import Derived.KernelRfl
namespace Go.Proofs.Ytjkohjdiddhpcaa
/- THE CELL 'sum', in the pinned program and in every row, IS THE sha256 OF THE DUMP (.gsa) THAT YtjkohjdiddhpcaaProg.lean LOADS. Nothing in Lean hashes anything: it is a label: what it is worth is what the hold of that sum in a sandbox is worth. -/
noncomputable def Try.pinned : Pinned := { name := "ytjkohjdiddhpcaa", sum := "0ddbbaf9b035f1203655879c9ef1b4116eda0698e7361dab2369391f00b31e5a", checked := Try.checked }
namespace Rows
def none {H : Type} : Left H := { results := [], args := [] }

/-- 'laws.FnExactCountProgramWords': WHATEVER THE INPUT: true; the input reads as it did. -/
def fnExactCountProgramWordsSpec : ChangeSpec := { name := "fnExactCountProgramWords", fn := fun _ => fun
  | [d1, d2] => { results := [.lit (.bool true)], args := [d1, d2] }
  | _ => none }
def fnExactCountProgramWordsRow : OpenClaim := { program := "ytjkohjdiddhpcaa", sum := "0ddbbaf9b035f1203655879c9ef1b4116eda0698e7361dab2369391f00b31e5a", func := "loop.example/g01145/laws.FnExactCountProgramWords", spec := "fnExactCountProgramWords", unfollowed := true, recurses := true, plainKeys := false, apart := false }
def FnExactCountProgramWordsSaid : Prop := fnExactCountProgramWordsRow.holds Try.pinned (OpenSpec.ofChange fnExactCountProgramWordsSpec)

/-- ITS FALSE NEIGHBOUR: 'it returns false'. Refute it at one input. -/
def fnExactCountProgramWordsWrong : ChangeSpec := { name := "fnExactCountProgramWords", fn := fun _ => fun
  | [d1, d2] => { results := [.lit (.bool false)], args := [d1, d2] }
  | _ => none }
def FnExactCountProgramWordsWrongFalsely : Prop := fnExactCountProgramWordsRow.holds Try.pinned (OpenSpec.ofChange fnExactCountProgramWordsWrong)

/-- 'laws.FnExactRunOfWord': WHATEVER THE INPUT: true; the input reads as it did. -/
def fnExactRunOfWordSpec : ChangeSpec := { name := "fnExactRunOfWord", fn := fun _ => fun
  | [d1, d2] => { results := [.lit (.bool true)], args := [d1, d2] }
  | _ => none }
def fnExactRunOfWordRow : OpenClaim := { program := "ytjkohjdiddhpcaa", sum := "0ddbbaf9b035f1203655879c9ef1b4116eda0698e7361dab2369391f00b31e5a", func := "loop.example/g01145/laws.FnExactRunOfWord", spec := "fnExactRunOfWord", inPlace := ["internal/bytealg.IndexByteString"], unfollowed := true, recurses := true, plainKeys := false, apart := false }
def FnExactRunOfWordSaid : Prop := fnExactRunOfWordRow.holds Try.pinned (OpenSpec.ofChange fnExactRunOfWordSpec)

/-- ITS FALSE NEIGHBOUR: 'it returns false'. Refute it at one input. -/
def fnExactRunOfWordWrong : ChangeSpec := { name := "fnExactRunOfWord", fn := fun _ => fun
  | [d1, d2] => { results := [.lit (.bool false)], args := [d1, d2] }
  | _ => none }
def FnExactRunOfWordWrongFalsely : Prop := fnExactRunOfWordRow.holds Try.pinned (OpenSpec.ofChange fnExactRunOfWordWrong)

/-- 'laws.FnExactFirstOfModule': WHATEVER THE INPUT: true; the input reads as it did. -/
def fnExactFirstOfModuleSpec : ChangeSpec := { name := "fnExactFirstOfModule", fn := fun _ => fun
  | [d1, d2] => { results := [.lit (.bool true)], args := [d1, d2] }
  | _ => none }
def fnExactFirstOfModuleRow : OpenClaim := { program := "ytjkohjdiddhpcaa", sum := "0ddbbaf9b035f1203655879c9ef1b4116eda0698e7361dab2369391f00b31e5a", func := "loop.example/g01145/laws.FnExactFirstOfModule", spec := "fnExactFirstOfModule", inPlace := ["internal/bytealg.IndexByteString"], unfollowed := true, recurses := true, plainKeys := false, apart := false }
def FnExactFirstOfModuleSaid : Prop := fnExactFirstOfModuleRow.holds Try.pinned (OpenSpec.ofChange fnExactFirstOfModuleSpec)

/-- ITS FALSE NEIGHBOUR: 'it returns false'. Refute it at one input. -/
def fnExactFirstOfModuleWrong : ChangeSpec := { name := "fnExactFirstOfModule", fn := fun _ => fun
  | [d1, d2] => { results := [.lit (.bool false)], args := [d1, d2] }
  | _ => none }
def FnExactFirstOfModuleWrongFalsely : Prop := fnExactFirstOfModuleRow.holds Try.pinned (OpenSpec.ofChange fnExactFirstOfModuleWrong)

/-- 'laws.FnExactIsEmpty': WHATEVER THE INPUT: true; the input reads as it did. -/
def fnExactIsEmptySpec : ChangeSpec := { name := "fnExactIsEmpty", fn := fun _ => fun
  | [d] => { results := [.lit (.bool true)], args := [d] }
  | _ => none }
def fnExactIsEmptyRow : OpenClaim := { program := "ytjkohjdiddhpcaa", sum := "0ddbbaf9b035f1203655879c9ef1b4116eda0698e7361dab2369391f00b31e5a", func := "loop.example/g01145/laws.FnExactIsEmpty", spec := "fnExactIsEmpty", unfollowed := true, recurses := true, plainKeys := false, apart := false }
def FnExactIsEmptySaid : Prop := fnExactIsEmptyRow.holds Try.pinned (OpenSpec.ofChange fnExactIsEmptySpec)

/-- ITS FALSE NEIGHBOUR: 'it returns false'. Refute it at one input. -/
def fnExactIsEmptyWrong : ChangeSpec := { name := "fnExactIsEmpty", fn := fun _ => fun
  | [d] => { results := [.lit (.bool false)], args := [d] }
  | _ => none }
def FnExactIsEmptyWrongFalsely : Prop := fnExactIsEmptyRow.holds Try.pinned (OpenSpec.ofChange fnExactIsEmptyWrong)

/-- 'laws.FnExactReachedBy': WHATEVER THE INPUT: true; the input reads as it did. -/
def fnExactReachedBySpec : ChangeSpec := { name := "fnExactReachedBy", fn := fun _ => fun
  | [d] => { results := [.lit (.bool true)], args := [d] }
  | _ => none }
def fnExactReachedByRow : OpenClaim := { program := "ytjkohjdiddhpcaa", sum := "0ddbbaf9b035f1203655879c9ef1b4116eda0698e7361dab2369391f00b31e5a", func := "loop.example/g01145/laws.FnExactReachedBy", spec := "fnExactReachedBy", unfollowed := true, recurses := true, plainKeys := false, apart := false }
def FnExactReachedBySaid : Prop := fnExactReachedByRow.holds Try.pinned (OpenSpec.ofChange fnExactReachedBySpec)

/-- ITS FALSE NEIGHBOUR: 'it returns false'. Refute it at one input. -/
def fnExactReachedByWrong : ChangeSpec := { name := "fnExactReachedBy", fn := fun _ => fun
  | [d] => { results := [.lit (.bool false)], args := [d] }
  | _ => none }
def FnExactReachedByWrongFalsely : Prop := fnExactReachedByRow.holds Try.pinned (OpenSpec.ofChange fnExactReachedByWrong)

/-- 'laws.FnExactMatchedBetween': WHATEVER THE INPUT: true; the input reads as it did. -/
def fnExactMatchedBetweenSpec : ChangeSpec := { name := "fnExactMatchedBetween", fn := fun _ => fun
  | [d1, d2, d3] => { results := [.lit (.bool true)], args := [d1, d2, d3] }
  | _ => none }
def fnExactMatchedBetweenRow : OpenClaim := { program := "ytjkohjdiddhpcaa", sum := "0ddbbaf9b035f1203655879c9ef1b4116eda0698e7361dab2369391f00b31e5a", func := "loop.example/g01145/laws.FnExactMatchedBetween", spec := "fnExactMatchedBetween", inPlace := ["internal/bytealg.IndexByteString"], unfollowed := true, recurses := true, plainKeys := false, apart := false }
def FnExactMatchedBetweenSaid : Prop := fnExactMatchedBetweenRow.holds Try.pinned (OpenSpec.ofChange fnExactMatchedBetweenSpec)

/-- ITS FALSE NEIGHBOUR: 'it returns false'. Refute it at one input. -/
def fnExactMatchedBetweenWrong : ChangeSpec := { name := "fnExactMatchedBetween", fn := fun _ => fun
  | [d1, d2, d3] => { results := [.lit (.bool false)], args := [d1, d2, d3] }
  | _ => none }
def FnExactMatchedBetweenWrongFalsely : Prop := fnExactMatchedBetweenRow.holds Try.pinned (OpenSpec.ofChange fnExactMatchedBetweenWrong)

/-- 'laws.FnExactFirstTo': WHATEVER THE INPUT: true; the input reads as it did. -/
def fnExactFirstToSpec : ChangeSpec := { name := "fnExactFirstTo", fn := fun _ => fun
  | [d1, d2, d3] => { results := [.lit (.bool true)], args := [d1, d2, d3] }
  | _ => none }
def fnExactFirstToRow : OpenClaim := { program := "ytjkohjdiddhpcaa", sum := "0ddbbaf9b035f1203655879c9ef1b4116eda0698e7361dab2369391f00b31e5a", func := "loop.example/g01145/laws.FnExactFirstTo", spec := "fnExactFirstTo", inPlace := ["internal/bytealg.IndexByteString"], unfollowed := true, recurses := true, plainKeys := false, apart := false }
def FnExactFirstToSaid : Prop := fnExactFirstToRow.holds Try.pinned (OpenSpec.ofChange fnExactFirstToSpec)

/-- ITS FALSE NEIGHBOUR: 'it returns false'. Refute it at one input. -/
def fnExactFirstToWrong : ChangeSpec := { name := "fnExactFirstTo", fn := fun _ => fun
  | [d1, d2, d3] => { results := [.lit (.bool false)], args := [d1, d2, d3] }
  | _ => none }
def FnExactFirstToWrongFalsely : Prop := fnExactFirstToRow.holds Try.pinned (OpenSpec.ofChange fnExactFirstToWrong)

/-- 'laws.FnExactAreEqual': WHATEVER THE INPUT: true; the input reads as it did. -/
def fnExactAreEqualSpec : ChangeSpec := { name := "fnExactAreEqual", fn := fun _ => fun
  | [d1, d2] => { results := [.lit (.bool true)], args := [d1, d2] }
  | _ => none }
def fnExactAreEqualRow : OpenClaim := { program := "ytjkohjdiddhpcaa", sum := "0ddbbaf9b035f1203655879c9ef1b4116eda0698e7361dab2369391f00b31e5a", func := "loop.example/g01145/laws.FnExactAreEqual", spec := "fnExactAreEqual", unfollowed := true, recurses := true, plainKeys := false, apart := false }
def FnExactAreEqualSaid : Prop := fnExactAreEqualRow.holds Try.pinned (OpenSpec.ofChange fnExactAreEqualSpec)

/-- ITS FALSE NEIGHBOUR: 'it returns false'. Refute it at one input. -/
def fnExactAreEqualWrong : ChangeSpec := { name := "fnExactAreEqual", fn := fun _ => fun
  | [d1, d2] => { results := [.lit (.bool false)], args := [d1, d2] }
  | _ => none }
def FnExactAreEqualWrongFalsely : Prop := fnExactAreEqualRow.holds Try.pinned (OpenSpec.ofChange fnExactAreEqualWrong)

/-- 'laws.FnExactFirstTaken': WHATEVER THE INPUT: true; the input reads as it did. -/
def fnExactFirstTakenSpec : ChangeSpec := { name := "fnExactFirstTaken", fn := fun _ => fun
  | [d] => { results := [.lit (.bool true)], args := [d] }
  | _ => none }
def fnExactFirstTakenRow : OpenClaim := { program := "ytjkohjdiddhpcaa", sum := "0ddbbaf9b035f1203655879c9ef1b4116eda0698e7361dab2369391f00b31e5a", func := "loop.example/g01145/laws.FnExactFirstTaken", spec := "fnExactFirstTaken", inPlace := ["internal/bytealg.IndexByteString"], unfollowed := true, recurses := true, plainKeys := false, apart := false }
def FnExactFirstTakenSaid : Prop := fnExactFirstTakenRow.holds Try.pinned (OpenSpec.ofChange fnExactFirstTakenSpec)

/-- ITS FALSE NEIGHBOUR: 'it returns false'. Refute it at one input. -/
def fnExactFirstTakenWrong : ChangeSpec := { name := "fnExactFirstTaken", fn := fun _ => fun
  | [d] => { results := [.lit (.bool false)], args := [d] }
  | _ => none }
def FnExactFirstTakenWrongFalsely : Prop := fnExactFirstTakenRow.holds Try.pinned (OpenSpec.ofChange fnExactFirstTakenWrong)

/-- 'laws.FnExactFirstDifference': WHATEVER THE INPUT: true; the input reads as it did. -/
def fnExactFirstDifferenceSpec : ChangeSpec := { name := "fnExactFirstDifference", fn := fun _ => fun
  | [d1, d2] => { results := [.lit (.bool true)], args := [d1, d2] }
  | _ => none }
def fnExactFirstDifferenceRow : OpenClaim := { program := "ytjkohjdiddhpcaa", sum := "0ddbbaf9b035f1203655879c9ef1b4116eda0698e7361dab2369391f00b31e5a", func := "loop.example/g01145/laws.FnExactFirstDifference", spec := "fnExactFirstDifference", inPlace := ["internal/bytealg.IndexByteString"], unfollowed := true, recurses := true, plainKeys := false, apart := false }
def FnExactFirstDifferenceSaid : Prop := fnExactFirstDifferenceRow.holds Try.pinned (OpenSpec.ofChange fnExactFirstDifferenceSpec)

/-- ITS FALSE NEIGHBOUR: 'it returns false'. Refute it at one input. -/
def fnExactFirstDifferenceWrong : ChangeSpec := { name := "fnExactFirstDifference", fn := fun _ => fun
  | [d1, d2] => { results := [.lit (.bool false)], args := [d1, d2] }
  | _ => none }
def FnExactFirstDifferenceWrongFalsely : Prop := fnExactFirstDifferenceRow.holds Try.pinned (OpenSpec.ofChange fnExactFirstDifferenceWrong)

/-- 'laws.FnExactFirstOfChoices': WHATEVER THE INPUT: true; the input reads as it did. -/
def fnExactFirstOfChoicesSpec : ChangeSpec := { name := "fnExactFirstOfChoices", fn := fun _ => fun
  | [d] => { results := [.lit (.bool true)], args := [d] }
  | _ => none }
def fnExactFirstOfChoicesRow : OpenClaim := { program := "ytjkohjdiddhpcaa", sum := "0ddbbaf9b035f1203655879c9ef1b4116eda0698e7361dab2369391f00b31e5a", func := "loop.example/g01145/laws.FnExactFirstOfChoices", spec := "fnExactFirstOfChoices", inPlace := ["internal/bytealg.IndexByteString"], unfollowed := true, recurses := true, plainKeys := false, apart := false }
def FnExactFirstOfChoicesSaid : Prop := fnExactFirstOfChoicesRow.holds Try.pinned (OpenSpec.ofChange fnExactFirstOfChoicesSpec)

/-- ITS FALSE NEIGHBOUR: 'it returns false'. Refute it at one input. -/
def fnExactFirstOfChoicesWrong : ChangeSpec := { name := "fnExactFirstOfChoices", fn := fun _ => fun
  | [d] => { results := [.lit (.bool false)], args := [d] }
  | _ => none }
def FnExactFirstOfChoicesWrongFalsely : Prop := fnExactFirstOfChoicesRow.holds Try.pinned (OpenSpec.ofChange fnExactFirstOfChoicesWrong)

/-- 'laws.FnBetween': WHATEVER THE INPUT: true; the input reads as it did. -/
def fnBetweenSpec : ChangeSpec := { name := "fnBetween", fn := fun _ => fun
  | [d1, d2] => { results := [.lit (.bool true)], args := [d1, d2] }
  | _ => none }
def fnBetweenRow : OpenClaim := { program := "ytjkohjdiddhpcaa", sum := "0ddbbaf9b035f1203655879c9ef1b4116eda0698e7361dab2369391f00b31e5a", func := "loop.example/g01145/laws.FnBetween", spec := "fnBetween", inPlace := ["internal/bytealg.IndexByteString"], unfollowed := true, recurses := true, plainKeys := false, apart := false }
def FnBetweenSaid : Prop := fnBetweenRow.holds Try.pinned (OpenSpec.ofChange fnBetweenSpec)

/-- ITS FALSE NEIGHBOUR: 'it returns false'. Refute it at one input. -/
def fnBetweenWrong : ChangeSpec := { name := "fnBetween", fn := fun _ => fun
  | [d1, d2] => { results := [.lit (.bool false)], args := [d1, d2] }
  | _ => none }
def FnBetweenWrongFalsely : Prop := fnBetweenRow.holds Try.pinned (OpenSpec.ofChange fnBetweenWrong)

/- THE SECOND FORM. 'bulk': how many values and letters a reading holds, each counted each time it is reached (what is shared counts as often as it is met; a slice's spare places count too). A statement '..UptoSaid' is the law's where the arguments, and the package variables that the reading takes, are together of bulk at most 1048576: NARROWER than '..Said'. Prove '..Said' where nothing that the law and all that it calls make is longer than what came in: it says more and counts as full. Else prove '..UptoSaid'. A law counts once. -/
mutual
def uptoBulk {H : Type} : DataW H → Nat
  | .lit (.string bytes) => bytes.length + 1
  | .lit _ => 1
  | .nil => 1
  | .ptr d => uptoBulk d + 1
  | .slice elems spare => uptoBulkAll elems + uptoBulkAll spare + 1
  | .agg parts => uptoBulkAll parts + 1
  | .iface _ d => uptoBulk d + 1
  | .map entries => uptoBulkEntries entries + 1
  | .held _ => 1
def uptoBulkAll {H : Type} : List (DataW H) → Nat
  | [] => 0
  | d :: r => uptoBulk d + uptoBulkAll r
def uptoBulkEntries {H : Type} : List (Lit × DataW H) → Nat
  | [] => 0
  | x :: r => uptoBulkEntry x + uptoBulkEntries r
def uptoBulkEntry {H : Type} : Lit × DataW H → Nat
  | (.string bytes, d) => bytes.length + uptoBulk d + 1
  | (_, d) => uptoBulk d + 1
 end
def uptoSmall : (H : Type) → List (DataW H) → Bool := fun _ ds => decide (uptoBulkAll ds ≤ 1048576)
def OpenSpec.upto (s : _root_.Go.ChangeSpec) : _root_.Go.OpenSpec := { _root_.Go.OpenSpec.ofChange s with cond := some uptoSmall }

/-- 'laws.FnExactCountProgramWords', WHERE WHAT IT READS IS OF BULK AT MOST 1048576: true; the input reads as it did. -/
def fnExactCountProgramWordsUptoRow : OpenClaim := { program := "ytjkohjdiddhpcaa", sum := "0ddbbaf9b035f1203655879c9ef1b4116eda0698e7361dab2369391f00b31e5a", func := "loop.example/g01145/laws.FnExactCountProgramWords", spec := "fnExactCountProgramWords", unfollowed := true, recurses := true, plainKeys := false, apart := false, narrowed := true }
def FnExactCountProgramWordsUptoSaid : Prop := fnExactCountProgramWordsUptoRow.holds Try.pinned (OpenSpec.upto fnExactCountProgramWordsSpec)

/-- 'laws.FnExactRunOfWord', WHERE WHAT IT READS IS OF BULK AT MOST 1048576: true; the input reads as it did. -/
def fnExactRunOfWordUptoRow : OpenClaim := { program := "ytjkohjdiddhpcaa", sum := "0ddbbaf9b035f1203655879c9ef1b4116eda0698e7361dab2369391f00b31e5a", func := "loop.example/g01145/laws.FnExactRunOfWord", spec := "fnExactRunOfWord", inPlace := ["internal/bytealg.IndexByteString"], unfollowed := true, recurses := true, plainKeys := false, apart := false, narrowed := true }
def FnExactRunOfWordUptoSaid : Prop := fnExactRunOfWordUptoRow.holds Try.pinned (OpenSpec.upto fnExactRunOfWordSpec)

/-- 'laws.FnExactFirstOfModule', WHERE WHAT IT READS IS OF BULK AT MOST 1048576: true; the input reads as it did. -/
def fnExactFirstOfModuleUptoRow : OpenClaim := { program := "ytjkohjdiddhpcaa", sum := "0ddbbaf9b035f1203655879c9ef1b4116eda0698e7361dab2369391f00b31e5a", func := "loop.example/g01145/laws.FnExactFirstOfModule", spec := "fnExactFirstOfModule", inPlace := ["internal/bytealg.IndexByteString"], unfollowed := true, recurses := true, plainKeys := false, apart := false, narrowed := true }
def FnExactFirstOfModuleUptoSaid : Prop := fnExactFirstOfModuleUptoRow.holds Try.pinned (OpenSpec.upto fnExactFirstOfModuleSpec)

/-- 'laws.FnExactIsEmpty', WHERE WHAT IT READS IS OF BULK AT MOST 1048576: true; the input reads as it did. -/
def fnExactIsEmptyUptoRow : OpenClaim := { program := "ytjkohjdiddhpcaa", sum := "0ddbbaf9b035f1203655879c9ef1b4116eda0698e7361dab2369391f00b31e5a", func := "loop.example/g01145/laws.FnExactIsEmpty", spec := "fnExactIsEmpty", unfollowed := true, recurses := true, plainKeys := false, apart := false, narrowed := true }
def FnExactIsEmptyUptoSaid : Prop := fnExactIsEmptyUptoRow.holds Try.pinned (OpenSpec.upto fnExactIsEmptySpec)

/-- 'laws.FnExactReachedBy', WHERE WHAT IT READS IS OF BULK AT MOST 1048576: true; the input reads as it did. -/
def fnExactReachedByUptoRow : OpenClaim := { program := "ytjkohjdiddhpcaa", sum := "0ddbbaf9b035f1203655879c9ef1b4116eda0698e7361dab2369391f00b31e5a", func := "loop.example/g01145/laws.FnExactReachedBy", spec := "fnExactReachedBy", unfollowed := true, recurses := true, plainKeys := false, apart := false, narrowed := true }
def FnExactReachedByUptoSaid : Prop := fnExactReachedByUptoRow.holds Try.pinned (OpenSpec.upto fnExactReachedBySpec)

/-- 'laws.FnExactMatchedBetween', WHERE WHAT IT READS IS OF BULK AT MOST 1048576: true; the input reads as it did. -/
def fnExactMatchedBetweenUptoRow : OpenClaim := { program := "ytjkohjdiddhpcaa", sum := "0ddbbaf9b035f1203655879c9ef1b4116eda0698e7361dab2369391f00b31e5a", func := "loop.example/g01145/laws.FnExactMatchedBetween", spec := "fnExactMatchedBetween", inPlace := ["internal/bytealg.IndexByteString"], unfollowed := true, recurses := true, plainKeys := false, apart := false, narrowed := true }
def FnExactMatchedBetweenUptoSaid : Prop := fnExactMatchedBetweenUptoRow.holds Try.pinned (OpenSpec.upto fnExactMatchedBetweenSpec)

/-- 'laws.FnExactFirstTo', WHERE WHAT IT READS IS OF BULK AT MOST 1048576: true; the input reads as it did. -/
def fnExactFirstToUptoRow : OpenClaim := { program := "ytjkohjdiddhpcaa", sum := "0ddbbaf9b035f1203655879c9ef1b4116eda0698e7361dab2369391f00b31e5a", func := "loop.example/g01145/laws.FnExactFirstTo", spec := "fnExactFirstTo", inPlace := ["internal/bytealg.IndexByteString"], unfollowed := true, recurses := true, plainKeys := false, apart := false, narrowed := true }
def FnExactFirstToUptoSaid : Prop := fnExactFirstToUptoRow.holds Try.pinned (OpenSpec.upto fnExactFirstToSpec)

/-- 'laws.FnExactAreEqual', WHERE WHAT IT READS IS OF BULK AT MOST 1048576: true; the input reads as it did. -/
def fnExactAreEqualUptoRow : OpenClaim := { program := "ytjkohjdiddhpcaa", sum := "0ddbbaf9b035f1203655879c9ef1b4116eda0698e7361dab2369391f00b31e5a", func := "loop.example/g01145/laws.FnExactAreEqual", spec := "fnExactAreEqual", unfollowed := true, recurses := true, plainKeys := false, apart := false, narrowed := true }
def FnExactAreEqualUptoSaid : Prop := fnExactAreEqualUptoRow.holds Try.pinned (OpenSpec.upto fnExactAreEqualSpec)

/-- 'laws.FnExactFirstTaken', WHERE WHAT IT READS IS OF BULK AT MOST 1048576: true; the input reads as it did. -/
def fnExactFirstTakenUptoRow : OpenClaim := { program := "ytjkohjdiddhpcaa", sum := "0ddbbaf9b035f1203655879c9ef1b4116eda0698e7361dab2369391f00b31e5a", func := "loop.example/g01145/laws.FnExactFirstTaken", spec := "fnExactFirstTaken", inPlace := ["internal/bytealg.IndexByteString"], unfollowed := true, recurses := true, plainKeys := false, apart := false, narrowed := true }
def FnExactFirstTakenUptoSaid : Prop := fnExactFirstTakenUptoRow.holds Try.pinned (OpenSpec.upto fnExactFirstTakenSpec)

/-- 'laws.FnExactFirstDifference', WHERE WHAT IT READS IS OF BULK AT MOST 1048576: true; the input reads as it did. -/
def fnExactFirstDifferenceUptoRow : OpenClaim := { program := "ytjkohjdiddhpcaa", sum := "0ddbbaf9b035f1203655879c9ef1b4116eda0698e7361dab2369391f00b31e5a", func := "loop.example/g01145/laws.FnExactFirstDifference", spec := "fnExactFirstDifference", inPlace := ["internal/bytealg.IndexByteString"], unfollowed := true, recurses := true, plainKeys := false, apart := false, narrowed := true }
def FnExactFirstDifferenceUptoSaid : Prop := fnExactFirstDifferenceUptoRow.holds Try.pinned (OpenSpec.upto fnExactFirstDifferenceSpec)

/-- 'laws.FnExactFirstOfChoices', WHERE WHAT IT READS IS OF BULK AT MOST 1048576: true; the input reads as it did. -/
def fnExactFirstOfChoicesUptoRow : OpenClaim := { program := "ytjkohjdiddhpcaa", sum := "0ddbbaf9b035f1203655879c9ef1b4116eda0698e7361dab2369391f00b31e5a", func := "loop.example/g01145/laws.FnExactFirstOfChoices", spec := "fnExactFirstOfChoices", inPlace := ["internal/bytealg.IndexByteString"], unfollowed := true, recurses := true, plainKeys := false, apart := false, narrowed := true }
def FnExactFirstOfChoicesUptoSaid : Prop := fnExactFirstOfChoicesUptoRow.holds Try.pinned (OpenSpec.upto fnExactFirstOfChoicesSpec)

/-- 'laws.FnBetween', WHERE WHAT IT READS IS OF BULK AT MOST 1048576: true; the input reads as it did. -/
def fnBetweenUptoRow : OpenClaim := { program := "ytjkohjdiddhpcaa", sum := "0ddbbaf9b035f1203655879c9ef1b4116eda0698e7361dab2369391f00b31e5a", func := "loop.example/g01145/laws.FnBetween", spec := "fnBetween", inPlace := ["internal/bytealg.IndexByteString"], unfollowed := true, recurses := true, plainKeys := false, apart := false, narrowed := true }
def FnBetweenUptoSaid : Prop := fnBetweenUptoRow.holds Try.pinned (OpenSpec.upto fnBetweenSpec)

end Rows
end Go.Proofs.Ytjkohjdiddhpcaa
