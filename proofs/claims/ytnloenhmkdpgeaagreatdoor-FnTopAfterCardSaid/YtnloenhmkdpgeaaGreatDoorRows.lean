/-
  NARROWER THAN 'FOR EVERY INPUT', by the rows' own cells (each row's printed sentence says how): FnScoreTerm: maps, laid · FnBoundTop: maps, laid · FnScorePhrase: maps, laid · FnScoreTimes: maps, laid · FnTopFew: maps, laid · FnTopTimes: maps, laid · FnMatchOf: maps, laid · FnScoreFlat: maps, laid · FnScoreNear: maps, laid · FnTopOf: maps, laid · FnTopLess: maps, laid · FnTopAfter: maps, laid.
  DERIVED. THE GIVEN ROWS OF THIS SEAT. 12 by the template 'for every input the law returns true; each argument reads behind the call as it read before'; 0 by the template 'total and deterministic' (their statements: YtnloenhmkdpgeaaGreatDoorTotals.lean).
  GIVEN WITH THE SEED: the statements are not yours to turn. If you find one false, say at which input.
  Laid BY PROGRAM, IN A SANDBOX (cutbox-rows.mjs): the forced cells as the released guide's own fill.sh prints them over the translation 5c931c473ead0db8… (all of the seat's roots in one cut). By AI agents, Wed Nov 11 2026. No macro, syntax, notation, axiom, sorry.
-/
import Derived.Test.YtnloenhmkdpgeaaGreatDoorChecked
import GoSem.Claim
import GoSem.ClaimJoined
import GoSem.ClaimMapViews
import Derived.JoinedTies
import Derived.KernelRfl
namespace Go.Proofs.YtnloenhmkdpgeaaGreatDoor
/- THE CELL 'sum', in the pinned program and in every row, IS THE sha256 OF THE DUMP (.gsa) THAT YtnloenhmkdpgeaaGreatDoorProg.lean LOADS. Nothing in Lean hashes anything: it is a label: what it is worth is what the hold of that sum in a sandbox is worth. -/
noncomputable def Tryz.pinned : Pinned := { name := "ytnloenhmkdpgeaagreatdoor", sum := "5c931c473ead0db8a6c108a5b14a4804f2d3fb17bc06c58679634f98069d85ea", checked := Tryz.checked }
namespace Rows
def none {H : Type} : Left H := { results := [], args := [] }

/- WHAT THE LISTED PACKAGE-LEVEL VARIABLES READ AS WHEN THE CALL BEGINS. Each datum BY PROGRAM (the guide's laid-datum.mjs) off the statement by which the dump's own 'gosem.cut.vars' lays the variable. In a bare row this is a premise. The card (YtnloenhmkdpgeaaGreatDoorCards.lean) ties it to the program's text. -/
def laid_loop_example_fossick_impl_none {H : Type} : DataW H := .agg [.lit (.int .i64 0), .lit (.int .i64 1)]
def laid_loop_example_fossick_impl_shapes {H : Type} : DataW H := .map [(.int .i64 1, .agg [.lit (.bool false), .lit (.int .i64 0), .lit (.int .i64 0), .lit (.int .i64 0), .lit (.int .i64 0), .lit (.bool false), .lit (.int .i64 0), .lit (.int .i64 0)]), (.int .i64 2, .agg [.lit (.bool true), .lit (.int .i64 1), .lit (.int .i64 1), .lit (.int .i64 0), .lit (.int .i64 0), .lit (.bool false), .lit (.int .i64 0), .lit (.int .i64 0)]), (.int .i64 3, .agg [.lit (.bool true), .lit (.int .i64 2), .lit (.int .i64 4), .lit (.int .i64 0), .lit (.int .i64 5), .lit (.bool false), .lit (.int .i64 0), .lit (.int .i64 0)]), (.int .i64 4, .agg [.lit (.bool true), .lit (.int .i64 1), .lit (.int .i64 1), .lit (.int .i64 1), .lit (.int .i64 2), .lit (.bool false), .lit (.int .i64 0), .lit (.int .i64 0)]), (.int .i64 5, .agg [.lit (.bool true), .lit (.int .i64 1), .lit (.int .i64 1), .lit (.int .i64 0), .lit (.int .i64 0), .lit (.bool false), .lit (.int .i64 0), .lit (.int .i64 0)]), (.int .i64 6, .agg [.lit (.bool true), .lit (.int .i64 0), .lit (.int .i64 0), .lit (.int .i64 0), .lit (.int .i64 999999999), .lit (.bool true), .lit (.int .i64 0), .lit (.int .i64 0)]), (.int .i64 7, .agg [.lit (.bool false), .lit (.int .i64 0), .lit (.int .i64 0), .lit (.int .i64 0), .lit (.int .i64 0), .lit (.bool false), .lit (.int .i64 2), .lit (.int .i64 4)]), (.int .i64 8, .agg [.lit (.bool false), .lit (.int .i64 0), .lit (.int .i64 0), .lit (.int .i64 0), .lit (.int .i64 0), .lit (.bool false), .lit (.int .i64 2), .lit (.int .i64 4)]), (.int .i64 9, .agg [.lit (.bool false), .lit (.int .i64 0), .lit (.int .i64 0), .lit (.int .i64 0), .lit (.int .i64 0), .lit (.bool false), .lit (.int .i64 2), .lit (.int .i64 2)]), (.int .i64 10, .agg [.lit (.bool false), .lit (.int .i64 0), .lit (.int .i64 0), .lit (.int .i64 2), .lit (.int .i64 9), .lit (.bool false), .lit (.int .i64 1), .lit (.int .i64 1)])]

/-- 'laws.FnScoreTerm': WHATEVER THE INPUT: true; the input reads as it did. -/
def fnScoreTermSpec : ChangeSpec := { name := "fnScoreTerm", vars := ["loop.example/fossick/impl.shapes", "loop.example/fossick/impl.none"], fn := fun _ => fun
  | [d, g1, g2] => { results := [.lit (.bool true)], args := [d], vars := [g1, g2] }
  | _ => none }
def fnScoreTermRow : OpenClaim := { program := "ytnloenhmkdpgeaagreatdoor", sum := "5c931c473ead0db8a6c108a5b14a4804f2d3fb17bc06c58679634f98069d85ea", func := "loop.example/fossick/laws.FnScoreTerm", spec := "fnScoreTerm", inPlace := ["internal/abi.NoEscape", "internal/bytealg.MakeNoZero"], unfollowed := true, recurses := true, named := ["loop.example/fossick/impl.shapes", "loop.example/fossick/impl.none"], maps := true, apart := false, laid := [("loop.example/fossick/impl.none", laid_loop_example_fossick_impl_none), ("loop.example/fossick/impl.shapes", laid_loop_example_fossick_impl_shapes)] }
def FnScoreTermSaid : Prop := fnScoreTermRow.holds Tryz.pinned (OpenSpec.ofChange fnScoreTermSpec)

/-- ITS FALSE NEIGHBOUR: 'it returns false'. Refute it at one input. -/
def fnScoreTermWrong : ChangeSpec := { name := "fnScoreTerm", vars := ["loop.example/fossick/impl.shapes", "loop.example/fossick/impl.none"], fn := fun _ => fun
  | [d, g1, g2] => { results := [.lit (.bool false)], args := [d], vars := [g1, g2] }
  | _ => none }
def FnScoreTermWrongFalsely : Prop := fnScoreTermRow.holds Tryz.pinned (OpenSpec.ofChange fnScoreTermWrong)

/-- 'laws.FnBoundTop': WHATEVER THE INPUT: true; the input reads as it did. -/
def fnBoundTopSpec : ChangeSpec := { name := "fnBoundTop", vars := ["loop.example/fossick/impl.none", "loop.example/fossick/impl.shapes"], fn := fun _ => fun
  | [d, g1, g2] => { results := [.lit (.bool true)], args := [d], vars := [g1, g2] }
  | _ => none }
def fnBoundTopRow : OpenClaim := { program := "ytnloenhmkdpgeaagreatdoor", sum := "5c931c473ead0db8a6c108a5b14a4804f2d3fb17bc06c58679634f98069d85ea", func := "loop.example/fossick/laws.FnBoundTop", spec := "fnBoundTop", inPlace := ["internal/abi.NoEscape", "internal/bytealg.MakeNoZero"], unfollowed := true, recurses := true, named := ["loop.example/fossick/impl.none", "loop.example/fossick/impl.shapes"], maps := true, apart := false, laid := [("loop.example/fossick/impl.none", laid_loop_example_fossick_impl_none), ("loop.example/fossick/impl.shapes", laid_loop_example_fossick_impl_shapes)] }
def FnBoundTopSaid : Prop := fnBoundTopRow.holds Tryz.pinned (OpenSpec.ofChange fnBoundTopSpec)

/-- ITS FALSE NEIGHBOUR: 'it returns false'. Refute it at one input. -/
def fnBoundTopWrong : ChangeSpec := { name := "fnBoundTop", vars := ["loop.example/fossick/impl.none", "loop.example/fossick/impl.shapes"], fn := fun _ => fun
  | [d, g1, g2] => { results := [.lit (.bool false)], args := [d], vars := [g1, g2] }
  | _ => none }
def FnBoundTopWrongFalsely : Prop := fnBoundTopRow.holds Tryz.pinned (OpenSpec.ofChange fnBoundTopWrong)

/-- 'laws.FnScorePhrase': WHATEVER THE INPUT: true; the input reads as it did. -/
def fnScorePhraseSpec : ChangeSpec := { name := "fnScorePhrase", vars := ["loop.example/fossick/impl.shapes", "loop.example/fossick/impl.none"], fn := fun _ => fun
  | [d1, d2, g1, g2] => { results := [.lit (.bool true)], args := [d1, d2], vars := [g1, g2] }
  | _ => none }
def fnScorePhraseRow : OpenClaim := { program := "ytnloenhmkdpgeaagreatdoor", sum := "5c931c473ead0db8a6c108a5b14a4804f2d3fb17bc06c58679634f98069d85ea", func := "loop.example/fossick/laws.FnScorePhrase", spec := "fnScorePhrase", inPlace := ["internal/abi.NoEscape", "internal/bytealg.MakeNoZero"], unfollowed := true, recurses := true, named := ["loop.example/fossick/impl.shapes", "loop.example/fossick/impl.none"], maps := true, apart := false, laid := [("loop.example/fossick/impl.none", laid_loop_example_fossick_impl_none), ("loop.example/fossick/impl.shapes", laid_loop_example_fossick_impl_shapes)] }
def FnScorePhraseSaid : Prop := fnScorePhraseRow.holds Tryz.pinned (OpenSpec.ofChange fnScorePhraseSpec)

/-- ITS FALSE NEIGHBOUR: 'it returns false'. Refute it at one input. -/
def fnScorePhraseWrong : ChangeSpec := { name := "fnScorePhrase", vars := ["loop.example/fossick/impl.shapes", "loop.example/fossick/impl.none"], fn := fun _ => fun
  | [d1, d2, g1, g2] => { results := [.lit (.bool false)], args := [d1, d2], vars := [g1, g2] }
  | _ => none }
def FnScorePhraseWrongFalsely : Prop := fnScorePhraseRow.holds Tryz.pinned (OpenSpec.ofChange fnScorePhraseWrong)

/-- 'laws.FnScoreTimes': WHATEVER THE INPUT: true; the input reads as it did. -/
def fnScoreTimesSpec : ChangeSpec := { name := "fnScoreTimes", vars := ["loop.example/fossick/impl.shapes", "loop.example/fossick/impl.none"], fn := fun _ => fun
  | [d1, d2, g1, g2] => { results := [.lit (.bool true)], args := [d1, d2], vars := [g1, g2] }
  | _ => none }
def fnScoreTimesRow : OpenClaim := { program := "ytnloenhmkdpgeaagreatdoor", sum := "5c931c473ead0db8a6c108a5b14a4804f2d3fb17bc06c58679634f98069d85ea", func := "loop.example/fossick/laws.FnScoreTimes", spec := "fnScoreTimes", inPlace := ["internal/abi.NoEscape", "internal/bytealg.MakeNoZero"], unfollowed := true, recurses := true, named := ["loop.example/fossick/impl.shapes", "loop.example/fossick/impl.none"], maps := true, apart := false, laid := [("loop.example/fossick/impl.none", laid_loop_example_fossick_impl_none), ("loop.example/fossick/impl.shapes", laid_loop_example_fossick_impl_shapes)] }
def FnScoreTimesSaid : Prop := fnScoreTimesRow.holds Tryz.pinned (OpenSpec.ofChange fnScoreTimesSpec)

/-- ITS FALSE NEIGHBOUR: 'it returns false'. Refute it at one input. -/
def fnScoreTimesWrong : ChangeSpec := { name := "fnScoreTimes", vars := ["loop.example/fossick/impl.shapes", "loop.example/fossick/impl.none"], fn := fun _ => fun
  | [d1, d2, g1, g2] => { results := [.lit (.bool false)], args := [d1, d2], vars := [g1, g2] }
  | _ => none }
def FnScoreTimesWrongFalsely : Prop := fnScoreTimesRow.holds Tryz.pinned (OpenSpec.ofChange fnScoreTimesWrong)

/-- 'laws.FnTopFew': WHATEVER THE INPUT: true; the input reads as it did. -/
def fnTopFewSpec : ChangeSpec := { name := "fnTopFew", vars := ["loop.example/fossick/impl.shapes", "loop.example/fossick/impl.none"], fn := fun _ => fun
  | [d, g1, g2] => { results := [.lit (.bool true)], args := [d], vars := [g1, g2] }
  | _ => none }
def fnTopFewRow : OpenClaim := { program := "ytnloenhmkdpgeaagreatdoor", sum := "5c931c473ead0db8a6c108a5b14a4804f2d3fb17bc06c58679634f98069d85ea", func := "loop.example/fossick/laws.FnTopFew", spec := "fnTopFew", inPlace := ["internal/abi.NoEscape", "internal/bytealg.MakeNoZero"], unfollowed := true, recurses := true, named := ["loop.example/fossick/impl.shapes", "loop.example/fossick/impl.none"], maps := true, apart := false, laid := [("loop.example/fossick/impl.none", laid_loop_example_fossick_impl_none), ("loop.example/fossick/impl.shapes", laid_loop_example_fossick_impl_shapes)] }
def FnTopFewSaid : Prop := fnTopFewRow.holds Tryz.pinned (OpenSpec.ofChange fnTopFewSpec)

/-- ITS FALSE NEIGHBOUR: 'it returns false'. Refute it at one input. -/
def fnTopFewWrong : ChangeSpec := { name := "fnTopFew", vars := ["loop.example/fossick/impl.shapes", "loop.example/fossick/impl.none"], fn := fun _ => fun
  | [d, g1, g2] => { results := [.lit (.bool false)], args := [d], vars := [g1, g2] }
  | _ => none }
def FnTopFewWrongFalsely : Prop := fnTopFewRow.holds Tryz.pinned (OpenSpec.ofChange fnTopFewWrong)

/-- 'laws.FnTopTimes': WHATEVER THE INPUT: true; the input reads as it did. -/
def fnTopTimesSpec : ChangeSpec := { name := "fnTopTimes", vars := ["loop.example/fossick/impl.shapes", "loop.example/fossick/impl.none"], fn := fun _ => fun
  | [d, g1, g2] => { results := [.lit (.bool true)], args := [d], vars := [g1, g2] }
  | _ => none }
def fnTopTimesRow : OpenClaim := { program := "ytnloenhmkdpgeaagreatdoor", sum := "5c931c473ead0db8a6c108a5b14a4804f2d3fb17bc06c58679634f98069d85ea", func := "loop.example/fossick/laws.FnTopTimes", spec := "fnTopTimes", inPlace := ["internal/abi.NoEscape", "internal/bytealg.MakeNoZero"], unfollowed := true, recurses := true, named := ["loop.example/fossick/impl.shapes", "loop.example/fossick/impl.none"], maps := true, apart := false, laid := [("loop.example/fossick/impl.none", laid_loop_example_fossick_impl_none), ("loop.example/fossick/impl.shapes", laid_loop_example_fossick_impl_shapes)] }
def FnTopTimesSaid : Prop := fnTopTimesRow.holds Tryz.pinned (OpenSpec.ofChange fnTopTimesSpec)

/-- ITS FALSE NEIGHBOUR: 'it returns false'. Refute it at one input. -/
def fnTopTimesWrong : ChangeSpec := { name := "fnTopTimes", vars := ["loop.example/fossick/impl.shapes", "loop.example/fossick/impl.none"], fn := fun _ => fun
  | [d, g1, g2] => { results := [.lit (.bool false)], args := [d], vars := [g1, g2] }
  | _ => none }
def FnTopTimesWrongFalsely : Prop := fnTopTimesRow.holds Tryz.pinned (OpenSpec.ofChange fnTopTimesWrong)

/-- 'laws.FnMatchOf': WHATEVER THE INPUT: true; the input reads as it did. -/
def fnMatchOfSpec : ChangeSpec := { name := "fnMatchOf", vars := ["loop.example/fossick/impl.shapes", "loop.example/fossick/impl.none"], fn := fun _ => fun
  | [d, g1, g2] => { results := [.lit (.bool true)], args := [d], vars := [g1, g2] }
  | _ => none }
def fnMatchOfRow : OpenClaim := { program := "ytnloenhmkdpgeaagreatdoor", sum := "5c931c473ead0db8a6c108a5b14a4804f2d3fb17bc06c58679634f98069d85ea", func := "loop.example/fossick/laws.FnMatchOf", spec := "fnMatchOf", inPlace := ["internal/abi.NoEscape", "internal/bytealg.MakeNoZero"], unfollowed := true, recurses := true, named := ["loop.example/fossick/impl.shapes", "loop.example/fossick/impl.none"], maps := true, apart := false, laid := [("loop.example/fossick/impl.none", laid_loop_example_fossick_impl_none), ("loop.example/fossick/impl.shapes", laid_loop_example_fossick_impl_shapes)] }
def FnMatchOfSaid : Prop := fnMatchOfRow.holds Tryz.pinned (OpenSpec.ofChange fnMatchOfSpec)

/-- ITS FALSE NEIGHBOUR: 'it returns false'. Refute it at one input. -/
def fnMatchOfWrong : ChangeSpec := { name := "fnMatchOf", vars := ["loop.example/fossick/impl.shapes", "loop.example/fossick/impl.none"], fn := fun _ => fun
  | [d, g1, g2] => { results := [.lit (.bool false)], args := [d], vars := [g1, g2] }
  | _ => none }
def FnMatchOfWrongFalsely : Prop := fnMatchOfRow.holds Tryz.pinned (OpenSpec.ofChange fnMatchOfWrong)

/-- 'laws.FnScoreFlat': WHATEVER THE INPUT: true; the input reads as it did. -/
def fnScoreFlatSpec : ChangeSpec := { name := "fnScoreFlat", vars := ["loop.example/fossick/impl.shapes", "loop.example/fossick/impl.none"], fn := fun _ => fun
  | [d1, d2, g1, g2] => { results := [.lit (.bool true)], args := [d1, d2], vars := [g1, g2] }
  | _ => none }
def fnScoreFlatRow : OpenClaim := { program := "ytnloenhmkdpgeaagreatdoor", sum := "5c931c473ead0db8a6c108a5b14a4804f2d3fb17bc06c58679634f98069d85ea", func := "loop.example/fossick/laws.FnScoreFlat", spec := "fnScoreFlat", inPlace := ["internal/abi.NoEscape", "internal/bytealg.MakeNoZero"], unfollowed := true, recurses := true, named := ["loop.example/fossick/impl.shapes", "loop.example/fossick/impl.none"], maps := true, apart := false, laid := [("loop.example/fossick/impl.none", laid_loop_example_fossick_impl_none), ("loop.example/fossick/impl.shapes", laid_loop_example_fossick_impl_shapes)] }
def FnScoreFlatSaid : Prop := fnScoreFlatRow.holds Tryz.pinned (OpenSpec.ofChange fnScoreFlatSpec)

/-- ITS FALSE NEIGHBOUR: 'it returns false'. Refute it at one input. -/
def fnScoreFlatWrong : ChangeSpec := { name := "fnScoreFlat", vars := ["loop.example/fossick/impl.shapes", "loop.example/fossick/impl.none"], fn := fun _ => fun
  | [d1, d2, g1, g2] => { results := [.lit (.bool false)], args := [d1, d2], vars := [g1, g2] }
  | _ => none }
def FnScoreFlatWrongFalsely : Prop := fnScoreFlatRow.holds Tryz.pinned (OpenSpec.ofChange fnScoreFlatWrong)

/-- 'laws.FnScoreNear': WHATEVER THE INPUT: true; the input reads as it did. -/
def fnScoreNearSpec : ChangeSpec := { name := "fnScoreNear", vars := ["loop.example/fossick/impl.shapes", "loop.example/fossick/impl.none"], fn := fun _ => fun
  | [d1, d2, g1, g2] => { results := [.lit (.bool true)], args := [d1, d2], vars := [g1, g2] }
  | _ => none }
def fnScoreNearRow : OpenClaim := { program := "ytnloenhmkdpgeaagreatdoor", sum := "5c931c473ead0db8a6c108a5b14a4804f2d3fb17bc06c58679634f98069d85ea", func := "loop.example/fossick/laws.FnScoreNear", spec := "fnScoreNear", inPlace := ["internal/abi.NoEscape", "internal/bytealg.MakeNoZero"], unfollowed := true, recurses := true, named := ["loop.example/fossick/impl.shapes", "loop.example/fossick/impl.none"], maps := true, apart := false, laid := [("loop.example/fossick/impl.none", laid_loop_example_fossick_impl_none), ("loop.example/fossick/impl.shapes", laid_loop_example_fossick_impl_shapes)] }
def FnScoreNearSaid : Prop := fnScoreNearRow.holds Tryz.pinned (OpenSpec.ofChange fnScoreNearSpec)

/-- ITS FALSE NEIGHBOUR: 'it returns false'. Refute it at one input. -/
def fnScoreNearWrong : ChangeSpec := { name := "fnScoreNear", vars := ["loop.example/fossick/impl.shapes", "loop.example/fossick/impl.none"], fn := fun _ => fun
  | [d1, d2, g1, g2] => { results := [.lit (.bool false)], args := [d1, d2], vars := [g1, g2] }
  | _ => none }
def FnScoreNearWrongFalsely : Prop := fnScoreNearRow.holds Tryz.pinned (OpenSpec.ofChange fnScoreNearWrong)

/-- 'laws.FnTopOf': WHATEVER THE INPUT: true; the input reads as it did. -/
def fnTopOfSpec : ChangeSpec := { name := "fnTopOf", vars := ["loop.example/fossick/impl.shapes", "loop.example/fossick/impl.none"], fn := fun _ => fun
  | [d, g1, g2] => { results := [.lit (.bool true)], args := [d], vars := [g1, g2] }
  | _ => none }
def fnTopOfRow : OpenClaim := { program := "ytnloenhmkdpgeaagreatdoor", sum := "5c931c473ead0db8a6c108a5b14a4804f2d3fb17bc06c58679634f98069d85ea", func := "loop.example/fossick/laws.FnTopOf", spec := "fnTopOf", inPlace := ["internal/abi.NoEscape", "internal/bytealg.MakeNoZero"], unfollowed := true, recurses := true, named := ["loop.example/fossick/impl.shapes", "loop.example/fossick/impl.none"], maps := true, apart := false, laid := [("loop.example/fossick/impl.none", laid_loop_example_fossick_impl_none), ("loop.example/fossick/impl.shapes", laid_loop_example_fossick_impl_shapes)] }
def FnTopOfSaid : Prop := fnTopOfRow.holds Tryz.pinned (OpenSpec.ofChange fnTopOfSpec)

/-- ITS FALSE NEIGHBOUR: 'it returns false'. Refute it at one input. -/
def fnTopOfWrong : ChangeSpec := { name := "fnTopOf", vars := ["loop.example/fossick/impl.shapes", "loop.example/fossick/impl.none"], fn := fun _ => fun
  | [d, g1, g2] => { results := [.lit (.bool false)], args := [d], vars := [g1, g2] }
  | _ => none }
def FnTopOfWrongFalsely : Prop := fnTopOfRow.holds Tryz.pinned (OpenSpec.ofChange fnTopOfWrong)

/-- 'laws.FnTopLess': WHATEVER THE INPUT: true; the input reads as it did. -/
def fnTopLessSpec : ChangeSpec := { name := "fnTopLess", vars := ["loop.example/fossick/impl.shapes", "loop.example/fossick/impl.none"], fn := fun _ => fun
  | [d1, d2, g1, g2] => { results := [.lit (.bool true)], args := [d1, d2], vars := [g1, g2] }
  | _ => none }
def fnTopLessRow : OpenClaim := { program := "ytnloenhmkdpgeaagreatdoor", sum := "5c931c473ead0db8a6c108a5b14a4804f2d3fb17bc06c58679634f98069d85ea", func := "loop.example/fossick/laws.FnTopLess", spec := "fnTopLess", inPlace := ["internal/abi.NoEscape", "internal/bytealg.MakeNoZero"], unfollowed := true, recurses := true, named := ["loop.example/fossick/impl.shapes", "loop.example/fossick/impl.none"], maps := true, apart := false, laid := [("loop.example/fossick/impl.none", laid_loop_example_fossick_impl_none), ("loop.example/fossick/impl.shapes", laid_loop_example_fossick_impl_shapes)] }
def FnTopLessSaid : Prop := fnTopLessRow.holds Tryz.pinned (OpenSpec.ofChange fnTopLessSpec)

/-- ITS FALSE NEIGHBOUR: 'it returns false'. Refute it at one input. -/
def fnTopLessWrong : ChangeSpec := { name := "fnTopLess", vars := ["loop.example/fossick/impl.shapes", "loop.example/fossick/impl.none"], fn := fun _ => fun
  | [d1, d2, g1, g2] => { results := [.lit (.bool false)], args := [d1, d2], vars := [g1, g2] }
  | _ => none }
def FnTopLessWrongFalsely : Prop := fnTopLessRow.holds Tryz.pinned (OpenSpec.ofChange fnTopLessWrong)

/-- 'laws.FnTopAfter': WHATEVER THE INPUT: true; the input reads as it did. -/
def fnTopAfterSpec : ChangeSpec := { name := "fnTopAfter", vars := ["loop.example/fossick/impl.shapes", "loop.example/fossick/impl.none"], fn := fun _ => fun
  | [d, g1, g2] => { results := [.lit (.bool true)], args := [d], vars := [g1, g2] }
  | _ => none }
def fnTopAfterRow : OpenClaim := { program := "ytnloenhmkdpgeaagreatdoor", sum := "5c931c473ead0db8a6c108a5b14a4804f2d3fb17bc06c58679634f98069d85ea", func := "loop.example/fossick/laws.FnTopAfter", spec := "fnTopAfter", inPlace := ["internal/abi.NoEscape", "internal/bytealg.MakeNoZero"], unfollowed := true, recurses := true, named := ["loop.example/fossick/impl.shapes", "loop.example/fossick/impl.none"], maps := true, apart := false, laid := [("loop.example/fossick/impl.none", laid_loop_example_fossick_impl_none), ("loop.example/fossick/impl.shapes", laid_loop_example_fossick_impl_shapes)] }
def FnTopAfterSaid : Prop := fnTopAfterRow.holds Tryz.pinned (OpenSpec.ofChange fnTopAfterSpec)

/-- ITS FALSE NEIGHBOUR: 'it returns false'. Refute it at one input. -/
def fnTopAfterWrong : ChangeSpec := { name := "fnTopAfter", vars := ["loop.example/fossick/impl.shapes", "loop.example/fossick/impl.none"], fn := fun _ => fun
  | [d, g1, g2] => { results := [.lit (.bool false)], args := [d], vars := [g1, g2] }
  | _ => none }
def FnTopAfterWrongFalsely : Prop := fnTopAfterRow.holds Tryz.pinned (OpenSpec.ofChange fnTopAfterWrong)

/- THE SECOND FORM. 'bulk': how many values and letters a reading holds, each counted each time it is reached (what is shared counts as often as it is met; a slice's spare places count too). A statement '..UptoSaid' is the law's where the arguments, and the package variables that the reading takes, are together of bulk at most 1048576: NARROWER than '..Said'. Prove '..Said' where nothing that the law and all that it calls make is longer than what came in: it says more and counts as full. Else prove '..UptoSaid'. A law counts once. -/
mutual
def uptoBulk {H : Type} : DataW H → Nat
  | .lit (.string bytes) => bytes.length + 1
  | .lit _ => 1
  | .nil => 1
  | .ptr d => uptoBulk d + 1
  | .slice elems spare => uptoBulkAll elems + uptoBulkAll spare + 1
  | .agg parts => uptoBulkAll parts + 1
  | .iface _ d => uptoBulk d + 1
  | .map entries => uptoBulkEntries entries + 1
  | .held _ => 1
def uptoBulkAll {H : Type} : List (DataW H) → Nat
  | [] => 0
  | d :: r => uptoBulk d + uptoBulkAll r
def uptoBulkEntries {H : Type} : List (Lit × DataW H) → Nat
  | [] => 0
  | x :: r => uptoBulkEntry x + uptoBulkEntries r
def uptoBulkEntry {H : Type} : Lit × DataW H → Nat
  | (.string bytes, d) => bytes.length + uptoBulk d + 1
  | (_, d) => uptoBulk d + 1
 end
def uptoSmall : (H : Type) → List (DataW H) → Bool := fun _ ds => decide (uptoBulkAll ds ≤ 1048576)
def OpenSpec.upto (s : _root_.Go.ChangeSpec) : _root_.Go.OpenSpec := { _root_.Go.OpenSpec.ofChange s with cond := some uptoSmall }

/-- 'laws.FnScoreTerm', WHERE WHAT IT READS IS OF BULK AT MOST 1048576: true; the input reads as it did. -/
def fnScoreTermUptoRow : OpenClaim := { program := "ytnloenhmkdpgeaagreatdoor", sum := "5c931c473ead0db8a6c108a5b14a4804f2d3fb17bc06c58679634f98069d85ea", func := "loop.example/fossick/laws.FnScoreTerm", spec := "fnScoreTerm", inPlace := ["internal/abi.NoEscape", "internal/bytealg.MakeNoZero"], unfollowed := true, recurses := true, named := ["loop.example/fossick/impl.shapes", "loop.example/fossick/impl.none"], maps := true, apart := false, laid := [("loop.example/fossick/impl.none", laid_loop_example_fossick_impl_none), ("loop.example/fossick/impl.shapes", laid_loop_example_fossick_impl_shapes)], narrowed := true }
def FnScoreTermUptoSaid : Prop := fnScoreTermUptoRow.holds Tryz.pinned (OpenSpec.upto fnScoreTermSpec)

/-- 'laws.FnBoundTop', WHERE WHAT IT READS IS OF BULK AT MOST 1048576: true; the input reads as it did. -/
def fnBoundTopUptoRow : OpenClaim := { program := "ytnloenhmkdpgeaagreatdoor", sum := "5c931c473ead0db8a6c108a5b14a4804f2d3fb17bc06c58679634f98069d85ea", func := "loop.example/fossick/laws.FnBoundTop", spec := "fnBoundTop", inPlace := ["internal/abi.NoEscape", "internal/bytealg.MakeNoZero"], unfollowed := true, recurses := true, named := ["loop.example/fossick/impl.none", "loop.example/fossick/impl.shapes"], maps := true, apart := false, laid := [("loop.example/fossick/impl.none", laid_loop_example_fossick_impl_none), ("loop.example/fossick/impl.shapes", laid_loop_example_fossick_impl_shapes)], narrowed := true }
def FnBoundTopUptoSaid : Prop := fnBoundTopUptoRow.holds Tryz.pinned (OpenSpec.upto fnBoundTopSpec)

/-- 'laws.FnScorePhrase', WHERE WHAT IT READS IS OF BULK AT MOST 1048576: true; the input reads as it did. -/
def fnScorePhraseUptoRow : OpenClaim := { program := "ytnloenhmkdpgeaagreatdoor", sum := "5c931c473ead0db8a6c108a5b14a4804f2d3fb17bc06c58679634f98069d85ea", func := "loop.example/fossick/laws.FnScorePhrase", spec := "fnScorePhrase", inPlace := ["internal/abi.NoEscape", "internal/bytealg.MakeNoZero"], unfollowed := true, recurses := true, named := ["loop.example/fossick/impl.shapes", "loop.example/fossick/impl.none"], maps := true, apart := false, laid := [("loop.example/fossick/impl.none", laid_loop_example_fossick_impl_none), ("loop.example/fossick/impl.shapes", laid_loop_example_fossick_impl_shapes)], narrowed := true }
def FnScorePhraseUptoSaid : Prop := fnScorePhraseUptoRow.holds Tryz.pinned (OpenSpec.upto fnScorePhraseSpec)

/-- 'laws.FnScoreTimes', WHERE WHAT IT READS IS OF BULK AT MOST 1048576: true; the input reads as it did. -/
def fnScoreTimesUptoRow : OpenClaim := { program := "ytnloenhmkdpgeaagreatdoor", sum := "5c931c473ead0db8a6c108a5b14a4804f2d3fb17bc06c58679634f98069d85ea", func := "loop.example/fossick/laws.FnScoreTimes", spec := "fnScoreTimes", inPlace := ["internal/abi.NoEscape", "internal/bytealg.MakeNoZero"], unfollowed := true, recurses := true, named := ["loop.example/fossick/impl.shapes", "loop.example/fossick/impl.none"], maps := true, apart := false, laid := [("loop.example/fossick/impl.none", laid_loop_example_fossick_impl_none), ("loop.example/fossick/impl.shapes", laid_loop_example_fossick_impl_shapes)], narrowed := true }
def FnScoreTimesUptoSaid : Prop := fnScoreTimesUptoRow.holds Tryz.pinned (OpenSpec.upto fnScoreTimesSpec)

/-- 'laws.FnTopFew', WHERE WHAT IT READS IS OF BULK AT MOST 1048576: true; the input reads as it did. -/
def fnTopFewUptoRow : OpenClaim := { program := "ytnloenhmkdpgeaagreatdoor", sum := "5c931c473ead0db8a6c108a5b14a4804f2d3fb17bc06c58679634f98069d85ea", func := "loop.example/fossick/laws.FnTopFew", spec := "fnTopFew", inPlace := ["internal/abi.NoEscape", "internal/bytealg.MakeNoZero"], unfollowed := true, recurses := true, named := ["loop.example/fossick/impl.shapes", "loop.example/fossick/impl.none"], maps := true, apart := false, laid := [("loop.example/fossick/impl.none", laid_loop_example_fossick_impl_none), ("loop.example/fossick/impl.shapes", laid_loop_example_fossick_impl_shapes)], narrowed := true }
def FnTopFewUptoSaid : Prop := fnTopFewUptoRow.holds Tryz.pinned (OpenSpec.upto fnTopFewSpec)

/-- 'laws.FnTopTimes', WHERE WHAT IT READS IS OF BULK AT MOST 1048576: true; the input reads as it did. -/
def fnTopTimesUptoRow : OpenClaim := { program := "ytnloenhmkdpgeaagreatdoor", sum := "5c931c473ead0db8a6c108a5b14a4804f2d3fb17bc06c58679634f98069d85ea", func := "loop.example/fossick/laws.FnTopTimes", spec := "fnTopTimes", inPlace := ["internal/abi.NoEscape", "internal/bytealg.MakeNoZero"], unfollowed := true, recurses := true, named := ["loop.example/fossick/impl.shapes", "loop.example/fossick/impl.none"], maps := true, apart := false, laid := [("loop.example/fossick/impl.none", laid_loop_example_fossick_impl_none), ("loop.example/fossick/impl.shapes", laid_loop_example_fossick_impl_shapes)], narrowed := true }
def FnTopTimesUptoSaid : Prop := fnTopTimesUptoRow.holds Tryz.pinned (OpenSpec.upto fnTopTimesSpec)

/-- 'laws.FnMatchOf', WHERE WHAT IT READS IS OF BULK AT MOST 1048576: true; the input reads as it did. -/
def fnMatchOfUptoRow : OpenClaim := { program := "ytnloenhmkdpgeaagreatdoor", sum := "5c931c473ead0db8a6c108a5b14a4804f2d3fb17bc06c58679634f98069d85ea", func := "loop.example/fossick/laws.FnMatchOf", spec := "fnMatchOf", inPlace := ["internal/abi.NoEscape", "internal/bytealg.MakeNoZero"], unfollowed := true, recurses := true, named := ["loop.example/fossick/impl.shapes", "loop.example/fossick/impl.none"], maps := true, apart := false, laid := [("loop.example/fossick/impl.none", laid_loop_example_fossick_impl_none), ("loop.example/fossick/impl.shapes", laid_loop_example_fossick_impl_shapes)], narrowed := true }
def FnMatchOfUptoSaid : Prop := fnMatchOfUptoRow.holds Tryz.pinned (OpenSpec.upto fnMatchOfSpec)

/-- 'laws.FnScoreFlat', WHERE WHAT IT READS IS OF BULK AT MOST 1048576: true; the input reads as it did. -/
def fnScoreFlatUptoRow : OpenClaim := { program := "ytnloenhmkdpgeaagreatdoor", sum := "5c931c473ead0db8a6c108a5b14a4804f2d3fb17bc06c58679634f98069d85ea", func := "loop.example/fossick/laws.FnScoreFlat", spec := "fnScoreFlat", inPlace := ["internal/abi.NoEscape", "internal/bytealg.MakeNoZero"], unfollowed := true, recurses := true, named := ["loop.example/fossick/impl.shapes", "loop.example/fossick/impl.none"], maps := true, apart := false, laid := [("loop.example/fossick/impl.none", laid_loop_example_fossick_impl_none), ("loop.example/fossick/impl.shapes", laid_loop_example_fossick_impl_shapes)], narrowed := true }
def FnScoreFlatUptoSaid : Prop := fnScoreFlatUptoRow.holds Tryz.pinned (OpenSpec.upto fnScoreFlatSpec)

/-- 'laws.FnScoreNear', WHERE WHAT IT READS IS OF BULK AT MOST 1048576: true; the input reads as it did. -/
def fnScoreNearUptoRow : OpenClaim := { program := "ytnloenhmkdpgeaagreatdoor", sum := "5c931c473ead0db8a6c108a5b14a4804f2d3fb17bc06c58679634f98069d85ea", func := "loop.example/fossick/laws.FnScoreNear", spec := "fnScoreNear", inPlace := ["internal/abi.NoEscape", "internal/bytealg.MakeNoZero"], unfollowed := true, recurses := true, named := ["loop.example/fossick/impl.shapes", "loop.example/fossick/impl.none"], maps := true, apart := false, laid := [("loop.example/fossick/impl.none", laid_loop_example_fossick_impl_none), ("loop.example/fossick/impl.shapes", laid_loop_example_fossick_impl_shapes)], narrowed := true }
def FnScoreNearUptoSaid : Prop := fnScoreNearUptoRow.holds Tryz.pinned (OpenSpec.upto fnScoreNearSpec)

/-- 'laws.FnTopOf', WHERE WHAT IT READS IS OF BULK AT MOST 1048576: true; the input reads as it did. -/
def fnTopOfUptoRow : OpenClaim := { program := "ytnloenhmkdpgeaagreatdoor", sum := "5c931c473ead0db8a6c108a5b14a4804f2d3fb17bc06c58679634f98069d85ea", func := "loop.example/fossick/laws.FnTopOf", spec := "fnTopOf", inPlace := ["internal/abi.NoEscape", "internal/bytealg.MakeNoZero"], unfollowed := true, recurses := true, named := ["loop.example/fossick/impl.shapes", "loop.example/fossick/impl.none"], maps := true, apart := false, laid := [("loop.example/fossick/impl.none", laid_loop_example_fossick_impl_none), ("loop.example/fossick/impl.shapes", laid_loop_example_fossick_impl_shapes)], narrowed := true }
def FnTopOfUptoSaid : Prop := fnTopOfUptoRow.holds Tryz.pinned (OpenSpec.upto fnTopOfSpec)

/-- 'laws.FnTopLess', WHERE WHAT IT READS IS OF BULK AT MOST 1048576: true; the input reads as it did. -/
def fnTopLessUptoRow : OpenClaim := { program := "ytnloenhmkdpgeaagreatdoor", sum := "5c931c473ead0db8a6c108a5b14a4804f2d3fb17bc06c58679634f98069d85ea", func := "loop.example/fossick/laws.FnTopLess", spec := "fnTopLess", inPlace := ["internal/abi.NoEscape", "internal/bytealg.MakeNoZero"], unfollowed := true, recurses := true, named := ["loop.example/fossick/impl.shapes", "loop.example/fossick/impl.none"], maps := true, apart := false, laid := [("loop.example/fossick/impl.none", laid_loop_example_fossick_impl_none), ("loop.example/fossick/impl.shapes", laid_loop_example_fossick_impl_shapes)], narrowed := true }
def FnTopLessUptoSaid : Prop := fnTopLessUptoRow.holds Tryz.pinned (OpenSpec.upto fnTopLessSpec)

/-- 'laws.FnTopAfter', WHERE WHAT IT READS IS OF BULK AT MOST 1048576: true; the input reads as it did. -/
def fnTopAfterUptoRow : OpenClaim := { program := "ytnloenhmkdpgeaagreatdoor", sum := "5c931c473ead0db8a6c108a5b14a4804f2d3fb17bc06c58679634f98069d85ea", func := "loop.example/fossick/laws.FnTopAfter", spec := "fnTopAfter", inPlace := ["internal/abi.NoEscape", "internal/bytealg.MakeNoZero"], unfollowed := true, recurses := true, named := ["loop.example/fossick/impl.shapes", "loop.example/fossick/impl.none"], maps := true, apart := false, laid := [("loop.example/fossick/impl.none", laid_loop_example_fossick_impl_none), ("loop.example/fossick/impl.shapes", laid_loop_example_fossick_impl_shapes)], narrowed := true }
def FnTopAfterUptoSaid : Prop := fnTopAfterUptoRow.holds Tryz.pinned (OpenSpec.upto fnTopAfterSpec)

end Rows
end Go.Proofs.YtnloenhmkdpgeaaGreatDoor
